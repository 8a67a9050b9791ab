/-
  THE WALK of the law CoinPlaces.
-/
import Derived.Test.YtfnchcogdmpojaaKu
set_option linter.unusedVariables false
set_option linter.unusedSimpArgs false
namespace Go.Proofs.Ytfnchcogdmpojaa
open Go.RowKit Kn

set_option maxRecDepth 100000 in
set_option maxHeartbeats 8000000 in
theorem walkCoinPlaces (a : Int) (a0 : -9223372036854775808 ≤ a) (a1 : a ≤ 9223372036854775807) (b : Int) (b0 : -9223372036854775808 ≤ b) (b1 : b ≤ 9223372036854775807) (s : ByteArray) (hs : s.size ≤ 140737488351232) (m : ByteArray) (hm : m.size ≤ 140737488351232) (i : Int) (i0 : -9223372036854775808 ≤ i) (i1 : i ≤ 9223372036854775807) (w : World) :
    Calls Try.prog 5 #[.int .i64 a, .int .i64 b, .string s, .string m, .int .i64 i] w fun e w' => e = .returned (.bool true) ∧ Below w.heap.size w w' := by
  have H1 := Lib.hid (fun w' => lap_any a b s i w')
  have H2 := Lib.hid (fun w' => lap_any a b (s ++ m) i w')
  have H3 := Lib.hid (fun w' => lap_any a b (s.extract (i / 8).toNat s.size) (i - 8 * (i / 8)) w')
  have LE := Lib.hid (@lapT_err a b i s)
  have LA := Lib.hid (fun h h2 => @places_a a b i s m h h2)
  generalize lapT a b s i = R at *
  obtain ⟨x, k, e⟩ := R
  simp only at H1 LE LA
  have hs' : (s.size : Int) ≤ 140737488351232 := by omega
  have hm' : (m.size : Int) ≤ 140737488351232 := by omega
  have hcase : (e ≠ 0) ∨ (e = 0 ∧ (64 < (s.size : Int) + (m.size : Int) ∨ (s.size : Int) + (m.size : Int) ≤ 64)) := by
    by_cases h : e = 0
    · right; refine ⟨h, ?_⟩; omega
    · exact Or.inl h
  rcases hcase with he | ⟨rfl, hl | hl⟩
  · obtain ⟨rfl, rfl⟩ := LE.out he
    have ke : (e != 0) = true := by rw [bne_iff_ne]; exact he
    have ke2 : (e == 0) = false := by rw [beq_eq_false_iff_ne]; exact he
    clear he LA H2 H3
    go_enter Try.func5, Try.ntmps5
    go_wp2_with fail
    refine (H1.out _).mono ?_
    rintro r w1 ⟨rfl, hb⟩
    have B1 := Lib.hid hb
    clear hb
    go_wp2_with fail
    refine (coinLives_any _).mono ?_
    rintro r w2 ⟨rfl, hb⟩
    have B2 := Lib.hid (bl_thru' B1.out B1.out.size hb)
    clear hb
    go_wp2_with fail
    refine (coinLives_any _).mono ?_
    rintro r w3 ⟨rfl, hb⟩
    have B3 := Lib.hid (bl_thru' B2.out B2.out.size hb)
    clear hb
    go_wp2
    go_ret
    exact ⟨rfl, B3.out⟩
  · clear LA H2 H3 LE
    go_enter Try.func5, Try.ntmps5
    go_wp2_with fail
    refine (H1.out _).mono ?_
    rintro r w1 ⟨rfl, hb⟩
    have B1 := Lib.hid hb
    clear hb
    go_wp2_with fail
    refine (coinLives_any _).mono ?_
    rintro r w2 ⟨rfl, hb⟩
    have B2 := Lib.hid (bl_thru' B1.out B1.out.size hb)
    clear hb
    go_wp2_with fail
    refine (coinLives_any _).mono ?_
    rintro r w3 ⟨rfl, hb⟩
    have B3 := Lib.hid (bl_thru' B2.out B2.out.size hb)
    clear hb
    go_wp2
    go_ret
    exact ⟨rfl, B3.out⟩
  · obtain ⟨e1, e2, e3, e4, e5, e6⟩ := LA.out rfl (by omega)
    rw [e1] at H2
    rw [e6] at H3
    clear LA LE e1 e6
    have q1 : 0 ≤ i / 8 ∧ i / 8 ≤ (s.size : Int) ∧ 8 * (i / 8) ≤ i := by omega
    obtain ⟨q2, q3, q4⟩ := q1
    go_enter Try.func5, Try.ntmps5
    go_wp2_with fail
    refine (H1.out _).mono ?_
    rintro r w1 ⟨rfl, hb⟩
    have B1 := Lib.hid hb
    clear hb
    go_wp2_with fail
    refine (coinLives_any _).mono ?_
    rintro r w2 ⟨rfl, hb⟩
    have B2 := Lib.hid (bl_thru' B1.out B1.out.size hb)
    clear hb
    go_wp2_with fail
    refine (H2.out _).mono ?_
    rintro r w3 ⟨rfl, hb⟩
    have B3 := Lib.hid (bl_thru' B2.out B2.out.size hb)
    clear hb
    go_wp2_with fail
    refine (H3.out _).mono ?_
    rintro r w4 ⟨rfl, hb⟩
    have B4 := Lib.hid (bl_thru' B3.out B3.out.size hb)
    clear hb
    go_wp2
    go_ret
    exact ⟨rfl, B4.out⟩
end Go.Proofs.Ytfnchcogdmpojaa
