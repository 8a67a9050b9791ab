/-
  THE WALK of round.Beside.
-/
import Derived.Test.YtmpdbmaokbhcjaaDoorBe
import Derived.Test.YtmpdbmaokbhcjaaDoorBd
set_option linter.unusedVariables false
set_option linter.unusedSimpArgs false
namespace Go.Proofs.YtmpdbmaokbhcjaaDoor
open Go.RowKit Nt Fm

/-- a number beside d -/
def besM (neg : Bool) (m : Nat) (side : Int) : Nat := if (decide (0 < side)) != neg then m * 2 ^ 64 + 1 else m * 2 ^ 64 - 1
def besD (d : D) (side : Int) : D := if side = 0 then d else if d.m = 0 then ⟨decide (side < 0), 1, -2000⟩ else ⟨d.neg, besM d.neg d.m side, d.e - 64⟩

set_option maxHeartbeats 4000000 in
theorem beside_any (v : Value) (d : D) (k0 : Nat) (side : Int) (w : World) (hd : DV w v d) (hm : d.m < 2 ^ k0) (hk0 : k0 ≤ 400000) (e0 : -400000 ≤ d.e) (e1 : d.e ≤ 400000) :
    Calls Tryd.prog 50 #[v, .int .i64 side] w (RetD w (besD d side)) := by
  obtain ⟨neg, m, e⟩ := d
  obtain ⟨s, rfl, hs⟩ := hd
  simp only at hm e0 e1 hs
  obtain ⟨ao, n, c, rfl, hn1, hn2, hn⟩ := nv_len hs
  by_cases h0 : side = 0
  · subst h0
    have q : besD ⟨neg, m, e⟩ 0 = ⟨neg, m, e⟩ := by unfold besD; rw [if_pos rfl]
    rw [q]
    have HS := Lib.hid hs
    clear q hs hm hn
    go_enter Tryd.func50, Tryd.ntmps50
    go_wp2
    refine bodyPost_ret (v := .agg #[.bool neg, .slice ao n c, .int .i64 e]) (by simp [results, Tryd.results50, go_sem]) rfl ?_
    exact ⟨_, rfl, ⟨.slice ao n c, rfl, HS.out.below (by go_grown)⟩, by go_grown⟩
  · have h0b : (side == 0) = false := by rw [beq_eq_false_iff_ne]; exact h0
    rcases hn with ⟨rfl, hn⟩ | ⟨hz, hn⟩
    · have q : besD ⟨neg, 0, e⟩ side = ⟨decide (side < 0), 1, -2000⟩ := by unfold besD; rw [if_neg h0]; rfl
      rw [q]
      have hn0 : ((n : Int) == 0) = true := by rw [beq_iff_eq]; omega
      clear q hs hm h0
      go_enter Tryd.func50, Tryd.ntmps50
      go_wp2_with fail
      refine (natOf_any 1 (by omega) (by omega) _).mono ?_
      rintro r w1 ⟨v, rfl, hv, hb⟩
      have BX := ((Box.new (w.alloc (.cells #[.bool neg, .slice ao 0 c, .int .i64 e] 24)) (.bool false) (.slice none 0 0) (.int .i64 0) 24).below hb)
      rw [size_alloc] at BX
      obtain ⟨q0, q1, q2, f0, f1, f2⟩ := BX.cells
      obtain ⟨a1, n1, c1, rfl⟩ := hv.shape
      have HV := Lib.hid hv
      have HB := Lib.hid hb
      have HX := Lib.hid BX
      clear hv hb BX
      go_wp2
      refine bodyPost_ret (v := .agg #[.bool (decide (side < 0)), .slice a1 n1 c1, .int .i64 (-2000)]) (by simp [results, Tryd.results50, go_sem, q0, q1, q2]) rfl ?_
      exact ⟨_, rfl, ⟨.slice a1 n1 c1, rfl, HV.out.setD HX.out⟩, bl_set3 (bl_thru (((Below.refl _ _).alloc (Nat.le_refl _) _).alloc (by simp) _) (Nat.le_refl _) HB.out) (by simp) _ _ _⟩
    · have hn0 : ((n : Int) == 0) = false := by rw [beq_eq_false_iff_ne]; omega
      have q : besD ⟨neg, m, e⟩ side = ⟨neg, besM neg m side, e - 64⟩ := by unfold besD; rw [if_neg h0, if_neg hz]
      rw [q]
      have hp : 1 ≤ m * 18446744073709551616 := by omega
      obtain ⟨k1, hk1, hq⟩ : ∃ k1, k1 ≤ 500000 ∧ m * 18446744073709551616 < 2 ^ k1 := ⟨k0 + 64, by omega, by rw [Nat.pow_add]; omega⟩
      have hcase : (0 < side ∧ neg = false ∧ besM neg m side = m * 2 ^ 64 + 1) ∨ (0 < side ∧ neg = true ∧ besM neg m side = m * 2 ^ 64 - 1) ∨ (decide (0 < side) = false ∧ neg = true ∧ besM neg m side = m * 2 ^ 64 + 1) ∨ (decide (0 < side) = false ∧ neg = false ∧ besM neg m side = m * 2 ^ 64 - 1) := by
        unfold besM
        by_cases hs : 0 < side
        · cases neg
          · left; exact ⟨hs, rfl, by simp [hs]⟩
          · right; left; exact ⟨hs, rfl, by simp [hs]⟩
        · cases neg
          · right; right; right; exact ⟨by simpa using hs, rfl, by simp [hs]⟩
          · right; right; left; exact ⟨by simpa using hs, rfl, by simp [hs]⟩
      generalize besM neg m side = M at *
      have HS := Lib.hid hs
      have HM := Lib.hid hm
      have HP := Lib.hid hp
      have HQ := Lib.hid hq
      clear hs hm q h0 hz hp hq
      rcases hcase with ⟨hc, rfl, hM⟩ | ⟨hc, rfl, hM⟩ | ⟨hc, rfl, hM⟩ | ⟨hc, rfl, hM⟩
      all_goals
        have HMM := Lib.hid hM
        clear hM
        go_enter Tryd.func50, Tryd.ntmps50
        go_wp2_with fail
        refine (left_any _ m 64 k0 _ _ ((HS.out.alloc _).alloc _) (by decide) HM.out (by omega) (by decide)).mono ?_
        rintro r w1 ⟨v, rfl, hv, hb⟩
        have BX := ((Box.new (w.alloc (.cells #[.bool _, .slice ao n c, .int .i64 e] 24)) (.bool false) (.slice none 0 0) (.int .i64 0) 24).below hb)
        rw [size_alloc] at BX
        have BD := (((Box.new w (.bool _) (.slice ao n c) (.int .i64 e) 24).alloc (.cells #[.bool false, .slice none 0 0, .int .i64 0] 24)).below hb)
        obtain ⟨q0, q1, q2, f0, f1, f2⟩ := BD.cells
        obtain ⟨a1, n1, c1, rfl⟩ := hv.shape
        have HV := Lib.hid hv
        have HB := Lib.hid hb
        have HX := Lib.hid BX
        have HD := Lib.hid BD
        clear hv hb BX BD
        go_wp2_with fail
        refine (natOf_any 1 (by omega) (by omega) _).mono ?_
        rintro r w2 ⟨v, rfl, hv, hb⟩
        obtain ⟨a2, n2, c2, rfl⟩ := hv.shape
        have HV2 := Lib.hid hv
        have HB2 := Lib.hid (bl_thru HB.out (Nat.le_refl _) hb)
        have HX2 := Lib.hid (HX.out.below hb)
        have HD2 := Lib.hid (HD.out.below hb)
        have HV1 := Lib.hid (HV.out.below hb)
        obtain ⟨q0, q1, q2, f0, f1, f2⟩ := HD2.out.cells
        clear hv hb
        go_wp2_with fail
        first
          | with_reducible refine (plus_any _ _ (m * 2 ^ 64) 1 k1 _ HV1.out HV2.out (by simpa using HQ.out) (Nat.lt_of_le_of_lt HP.out HQ.out) (by omega)).mono ?_
          | with_reducible refine (minus_any _ _ (m * 2 ^ 64) 1 k1 _ HV1.out HV2.out (by simpa using HP.out) (by simpa using HQ.out) (by omega)).mono ?_
        rintro r w3 ⟨v, rfl, hv, hb⟩
        obtain ⟨a3, n3, c3, rfl⟩ := hv.shape
        have HV3 := Lib.hid hv
        have HB3 := Lib.hid (bl_thru HB2.out (Nat.le_refl _) hb)
        have HX3 := Lib.hid (HX2.out.below hb)
        have HD3 := Lib.hid (HD2.out.below hb)
        obtain ⟨q0, q1, q2, f0, f1, f2⟩ := HD3.out.cells
        obtain ⟨p0, p1, p2, g0, g1, g2⟩ := HX3.out.cells
        clear hv hb
        go_wp2
        first
          | (refine bodyPost_ret (v := .agg #[.bool false, .slice a3 n3 c3, .int .i64 (e - 64)]) ?_ rfl ?_; focus (simp [results, Tryd.results50, go_sem, p0, p1, p2]; done))
          | (refine bodyPost_ret (v := .agg #[.bool true, .slice a3 n3 c3, .int .i64 (e - 64)]) ?_ rfl ?_; focus (simp [results, Tryd.results50, go_sem, p0, p1, p2]; done))
        exact ⟨_, rfl, ⟨.slice a3 n3 c3, rfl, by rw [HMM.out]; exact HV3.out.setD HX3.out⟩, bl_set3 (bl_thru (((Below.refl _ _).alloc (Nat.le_refl _) _).alloc (by simp) _) (Nat.le_refl _) HB3.out) (by simp) _ _ _⟩
end Go.Proofs.YtmpdbmaokbhcjaaDoor
