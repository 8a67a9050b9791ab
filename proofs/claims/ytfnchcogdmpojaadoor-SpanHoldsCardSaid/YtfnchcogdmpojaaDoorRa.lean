/-
  THE WALK of quot.sticky.
-/
import Derived.Test.YtfnchcogdmpojaaDoorSq
import Derived.Test.YtfnchcogdmpojaaDoorBd
import Derived.Test.YtfnchcogdmpojaaDoorBq
import Derived.Deep.RegionHeld3
set_option linter.unusedVariables false
set_option linter.unusedSimpArgs false
namespace Go.Proofs.YtfnchcogdmpojaaDoor
open Go.RowKit Nt Fm

set_option maxRecDepth 100000 in
set_option maxHeartbeats 4000000 in
theorem sticky_any (neg lost : Bool) (vq : Value) (q k0 : Nat) (x : Int) (w : World) (hq : NV w vq q) (hkq : q < 2 ^ k0) (hk0 : k0 ≤ 900000) (x0 : -4000000000000000000 ≤ x) (x1 : x ≤ 4000000000000000000) :
    Calls Tryd.prog 82 #[.bool neg, vq, .bool lost, .int .i64 x] w (RetD w ⟨neg, 4 * q + (if lost = true then 1 else 0), x - 2⟩) := by
  obtain ⟨m, hm⟩ : ∃ m, m = 4 * q + (if lost = true then 1 else 0) := ⟨_, rfl⟩
  rw [← hm]
  have HM : Hid (m = 4 * q + (if lost = true then 1 else 0) ∧ True) := Lib.hid ⟨hm, trivial⟩
  clear hm
  obtain ⟨aq, nq, cq, rfl⟩ := hq.shape
  have LE := Lib.hid (fun w' (h : NV w' (.slice aq nq cq) q) => left_any (.slice aq nq cq) q 2 k0 2 w' h rfl hkq (by omega) (by omega))
  have HQ := Lib.hid hq
  have K4 : Hid (q * 2 ^ 2 < 2 ^ (k0 + 2) ∧ True) := Lib.hid ⟨by rw [Nat.pow_add]; exact Nat.mul_lt_mul_of_pos_right hkq (by decide), trivial⟩
  have K1 : Hid (1 < 2 ^ (k0 + 2) ∧ True) := Lib.hid ⟨Nat.one_lt_two_pow (by omega), trivial⟩
  have E4 : Hid (q * 2 ^ 2 = 4 * q ∧ True) := Lib.hid ⟨by omega, trivial⟩
  clear hq hkq
  go_enter Tryd.func82, Tryd.ntmps82
  go_wp2_with fail
  refine (LE.out _ (HQ.out.alloc _)).mono ?_
  rintro r w1 ⟨v1, rfl, h1, hb⟩
  obtain ⟨a1, n1, c1, rfl⟩ := h1.shape
  have Z1 := Lib.hid ((Box.new w (.bool false) (.slice none 0 0) (.int .i64 0) 76).below hb)
  have B1 := Lib.hid (bl_thru ((Below.refl w.heap.size w).alloc (Nat.le_refl _) _) (Nat.le_refl _) hb)
  have V1 := Lib.hid h1
  clear h1 hb
  cases lost
  · obtain ⟨s0, s1, s2, t0, t1, t2⟩ := Z1.out.cells
    have hB := B1.out.size
    go_wp2
    refine bodyPost_ret (v := .agg #[.bool neg, .slice a1 n1 c1, .int .i64 (x - 2)]) (by simp [results, Tryd.results82, go_sem, s0, s1, s2]) rfl ?_
    refine ⟨_, rfl, ⟨_, rfl, ?_⟩, bl_set3 B1.out (Nat.le_refl _) _ _ _⟩
    have := V1.out.setD Z1.out (g' := neg) (ao' := a1) (n' := n1) (c' := c1) (e' := x - 2)
    rw [E4.out.1] at this
    rw [HM.out.1]; simpa using this
  · go_wp2_with fail
    refine (natOf_any 1 (by decide) (by decide) _).mono ?_
    rintro r w2 ⟨v2, rfl, h2, hb⟩
    have V2 := Lib.hid h2
    have V1' := Lib.hid (V1.out.below hb)
    have Z2 := Lib.hid (Z1.out.below hb)
    have B2 := Lib.hid (bl_thru B1.out (Nat.le_refl _) hb)
    clear h2 hb
    go_wp2_with fail
    refine (plus_any _ _ (q * 2 ^ 2) 1 (k0 + 2) _ V1'.out V2.out K4.out.1 K1.out.1 (by omega)).mono ?_
    rintro r w3 ⟨v3, rfl, h3, hb⟩
    obtain ⟨a3, n3, c3, rfl⟩ := h3.shape
    have V3 := Lib.hid h3
    have Z3 := Lib.hid (Z2.out.below hb)
    have B3 := Lib.hid (bl_thru B2.out (Nat.le_refl _) hb)
    clear h3 hb
    obtain ⟨s0, s1, s2, t0, t1, t2⟩ := Z3.out.cells
    have hB := B3.out.size
    go_wp2
    refine bodyPost_ret (v := .agg #[.bool neg, .slice a3 n3 c3, .int .i64 (x - 2)]) (by simp [results, Tryd.results82, go_sem, s0, s1, s2]) rfl ?_
    refine ⟨_, rfl, ⟨_, rfl, ?_⟩, bl_set3 B3.out (Nat.le_refl _) _ _ _⟩
    have := V3.out.setD Z3.out (g' := neg) (ao' := a3) (n' := n3) (c' := c3) (e' := x - 2)
    rw [E4.out.1] at this
    rw [HM.out.1]; simpa using this
end Go.Proofs.YtfnchcogdmpojaaDoor
