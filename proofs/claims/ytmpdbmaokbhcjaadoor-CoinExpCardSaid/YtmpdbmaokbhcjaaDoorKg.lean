/-
  THE WALKS of coin's sample at Exp's closure; coin.Exp.
-/
import Derived.Test.YtmpdbmaokbhcjaaDoorKt
import Derived.Test.YtmpdbmaokbhcjaaDoorKf
set_option linter.unusedVariables false
set_option linter.unusedSimpArgs false
namespace Go.Proofs.YtmpdbmaokbhcjaaDoor
open Go.RowKit Kn

theorem cexpC_any (b c0 c1 : Nat) (s : ByteArray) (o : Option (List Bool)) (a n : Nat) (w : World) (hs : s.size ≤ 64) (n0 : 1 ≤ n) (n1 : n ≤ 1000) (a1 : a ≤ 1000000) (h : Tp w b s o) (hc0 : w.cell? ⟨c0, 0, none⟩ = some (.int .i64 (a : Nat))) (hc1 : w.cell? ⟨c1, 0, none⟩ = some (.int .i64 (n : Nat))) :
    Calls Tryd.prog 67 #[.pointer (some ⟨b, 0, none⟩), .pointer (some ⟨c0, 0, none⟩), .pointer (some ⟨c1, 0, none⟩)] w fun e w' => ∃ v : Bool, e = .returned (.bool v) ∧ (∀ l c r, o = some l → expP a n l = some (c, r) → v = c) ∧ Tp w' b s (restO (expP a n) o) ∧ Below b w w' := by
  have BE := Lib.hid (exp_any b s o a n w hs n0 n1 a1 h)
  clear h
  go_enter Tryd.func67, Tryd.ntmps67
  go_wp2_with fail
  refine BE.out.mono ?_
  rintro e w1 ⟨v, rfl, T, hv, hb⟩
  have HV := Lib.hid hv
  have HT := Lib.hid T
  have HB := Lib.hid hb
  clear hv T hb
  go_wp2
  go_ret
  exact ⟨v, rfl, HV.out, HT.out, HB.out⟩

set_option maxRecDepth 100000 in
set_option maxHeartbeats 8000000 in
theorem sampleE_any (c0 c1 : Nat) (s : ByteArray) (i : Int) (ok : Bool) (a n : Int) (w : World) (hc0 : Bo w c0 (.int .i64 a)) (hc1 : Bo w c1 (.int .i64 n)) (hn : ok = true → (0 ≤ a ∧ a ≤ 1000000) ∧ 1 ≤ n ∧ n ≤ 1000) :
    Calls Tryd.prog 65 #[.string s, .int .i64 i, .bool ok, .func (.func 67) #[] #[.pointer (some ⟨c0, 0, none⟩), .pointer (some ⟨c1, 0, none⟩)]] w fun e w' => e = .returned (.tuple #[.bool ((smp false s i ok (expP a.toNat n.toNat)).1 : Bool), .int .i64 (smp false s i ok (expP a.toNat n.toNat)).2.1, .int .i64 (smp false s i ok (expP a.toNat n.toNat)).2.2]) ∧ Below w.heap.size w w' := by
  have hcase : 64 < s.size ∨ (¬ 64 < s.size ∧ ((i < 0 ∨ (¬ i < 0 ∧ (8 * (s.size : Int) < i ∨ (¬ 8 * (s.size : Int) < i ∧ (ok = false ∨ ok = true))))))) := by
    by_cases h1 : 64 < s.size
    · exact Or.inl h1
    · right; refine ⟨h1, ?_⟩
      by_cases h2 : i < 0
      · exact Or.inl h2
      · right; refine ⟨h2, ?_⟩
        by_cases h3 : 8 * (s.size : Int) < i
        · exact Or.inl h3
        · right; refine ⟨h3, ?_⟩; cases ok <;> simp
  rcases hcase with h1 | ⟨h1, h2 | ⟨h2, h3 | ⟨h3, rfl | rfl⟩⟩⟩
  · rw [smp_large h1]
    have h4 : (64 : Int) < (s.size : Int) := by omega
    go_enter Tryd.func65, Tryd.ntmps65
    go_wp2
    go_ret3
    exact ⟨rfl, Below.refl _ _⟩
  · rw [smp_bad h1 (Or.inl h2)]
    have h4 : ¬ (64 : Int) < (s.size : Int) := by omega
    go_enter Tryd.func65, Tryd.ntmps65
    go_wp2
    go_ret3
    exact ⟨rfl, Below.refl _ _⟩
  · rw [smp_bad h1 (Or.inr (Or.inl h3))]
    have h4 : ¬ (64 : Int) < (s.size : Int) := by omega
    go_enter Tryd.func65, Tryd.ntmps65
    go_wp2
    go_ret3
    exact ⟨rfl, Below.refl _ _⟩
  · rw [smp_bad h1 (Or.inr (Or.inr rfl))]
    have h4 : ¬ (64 : Int) < (s.size : Int) := by omega
    go_enter Tryd.func65, Tryd.ntmps65
    go_wp2
    go_ret3
    exact ⟨rfl, Below.refl _ _⟩
  · have hn' := hn rfl
    have h4 : ¬ (64 : Int) < (s.size : Int) := by omega
    obtain ⟨j, rfl⟩ := Int.eq_ofNat_of_zero_le (show 0 ≤ i by omega)
    obtain ⟨a, rfl⟩ := Int.eq_ofNat_of_zero_le (show 0 ≤ a by omega)
    obtain ⟨n, rfl⟩ := Int.eq_ofNat_of_zero_le (show 0 ≤ n by omega)
    have en : ((n : Nat) : Int).toNat = n := Int.toNat_natCast n
    have ea : ((a : Nat) : Int).toNat = a := Int.toNat_natCast a
    rw [en, ea]
    have h5 : (j : Int) ≤ 8 * (s.size : Int) := by omega
    have TN := Lib.hid (tp_new w s j h5)
    have CL := Lib.hid (fun w' (B : Below w.heap.size w w') (T : Tp w' w.heap.size s (some (tbits s j))) => cexpC_any w.heap.size c0 c1 s (some (tbits s j)) a n w' (by omega) (by omega) (by omega) (by omega) T ((hc0.below (B.mono (Nat.le_refl _))).cell) ((hc1.below (B.mono (Nat.le_refl _))).cell))
    have HN := Lib.hid (fun p => smp_none (z := false) (P := (expP a n)) h1 h5 p)
    have HS := Lib.hid (fun v r p => smp_some (z := false) (P := (expP a n)) h1 h5 (v := v) (r := r) p)
    obtain ⟨RR, hRR⟩ : ∃ RR, RR = smp false s (j : Int) true (expP a n) := ⟨_, rfl⟩
    rw [← hRR] at HN HS ⊢
    have B0 := Lib.hid ((Below.refl w.heap.size w).alloc (Nat.le_refl _) (.cells #[.string s, .int .i64 j, .bool false] 125))
    have hnot : ¬ 8 * (s.size : Int) < (j : Int) := by omega
    have hnot2 : ¬ (j : Int) < 0 := by omega
    clear hRR hn h3 h2
    go_enter Tryd.func65, Tryd.ntmps65
    go_wp2_with fail
    refine (CL.out _ B0.out TN.out).mono ?_
    rintro e w1 ⟨v, rfl, hv, T, hb⟩
    have HV := Lib.hid hv
    have B1 := Lib.hid (B0.out.trans hb)
    rcases rest_ways (expP a n) (tbits s j) with ⟨e1, e2⟩ | ⟨c, r, e1, e2⟩
    · rw [e2] at T
      have hq := T.flag
      simp only [Option.isNone_none] at hq
      have hR := HN.out e1
      have HR := Lib.hid hR
      clear hv T hb e1 e2 hR
      go_wp2
      go_ret3
      rw [HR.out]
      exact ⟨rfl, B1.out⟩
    · rw [e2] at T
      have hc := HV.out _ c r rfl e1
      subst hc
      obtain ⟨i2, t1, t2, X⟩ := T
      have hR := HS.out _ r e1
      have ei : (i2 : Int) = 8 * (s.size : Int) - r.length := by omega
      rw [← ei] at hR
      have HR := Lib.hid hR
      obtain ⟨q0, q1, q2, -, -, -⟩ := X.cells
      clear hv hb e1 e2 hR t1 t2 ei
      go_wp2_with fail
      go_quiet (fail)
      go_wp2
      go_ret3
      rw [HR.out]
      exact ⟨rfl, below_drewN B1.out _⟩

def expOk (a b : Int) : Bool := (decide (1 ≤ b) && decide (b ≤ 1000)) && (decide (0 ≤ a) && decide (a ≤ 1000 * b))
def expT (a b : Int) (s : ByteArray) (i : Int) : Bool × Int × Int := smp false s i (expOk a b) (expP a.toNat b.toNat)
set_option maxHeartbeats 4000000 in
theorem exp_any2 (a b : Int) (s : ByteArray) (i : Int) (w : World) (hb0 : 1 ≤ b) (hb1 : b ≤ 1000) :
    Calls Tryd.prog 25 #[.int .i64 a, .int .i64 b, .string s, .int .i64 i] w fun e w' => e = .returned (.tuple #[.bool (expT a b s i).1, .int .i64 (expT a b s i).2.1, .int .i64 (expT a b s i).2.2]) ∧ Below w.heap.size w w' := by
  have SA := Lib.hid (sampleE_any w.heap.size (w.heap.size + 1) s i (expOk a b) a b ((w.alloc (.cells #[.int .i64 a] 3)).alloc (.cells #[.int .i64 b] 3)) ((bo_new w _).below (by go_grown)) (bo_new2 w _ _) (fun h => by unfold expOk at h; simp at h; omega))
  have W1 := Lib.hid (fun w' => within_any b 1 1000 w')
  have W2 := Lib.hid (fun w' => within_any a 0 (1000 * b) w')
  have B0 := Lib.hid (show Below w.heap.size w ((w.alloc (.cells #[.int .i64 a] 3)).alloc (.cells #[.int .i64 b] 3)) by go_grown)
  have e2 : smp false s i (expOk a b) (expP a.toNat b.toNat) = expT a b s i := rfl
  rw [e2] at SA
  have hc : (decide (1 ≤ b) && decide (b ≤ 1000)) = true ∧ expOk a b = (decide (0 ≤ a) && decide (a ≤ 1000 * b)) := by
    have h : (decide (1 ≤ b) && decide (b ≤ 1000)) = true := by simp; omega
    unfold expOk; rw [h]; simp
  clear e2
  generalize expT a b s i = R at *
  generalize expOk a b = ok at *
  generalize (decide (1 ≤ b) && decide (b ≤ 1000)) = p at *
  generalize (decide (0 ≤ a) && decide (a ≤ 1000 * b)) = q at *
  obtain ⟨rfl, rfl⟩ := hc
  go_enter Tryd.func25, Tryd.ntmps25
  go_wp2_with (go_at_call 66; first | ((with_reducible refine (W1.out _).mono ?_); rintro e w' ⟨rfl, rfl⟩) | ((with_reducible refine (W2.out _).mono ?_); rintro e w' ⟨rfl, rfl⟩))
  refine SA.out.mono ?_
  rintro e w1 ⟨rfl, hb⟩
  have B1 := Lib.hid (bl_thru' B0.out B0.out.size hb)
  clear hb
  go_wp2
  go_ret3
  exact ⟨rfl, B1.out⟩
end Go.Proofs.YtmpdbmaokbhcjaaDoor
