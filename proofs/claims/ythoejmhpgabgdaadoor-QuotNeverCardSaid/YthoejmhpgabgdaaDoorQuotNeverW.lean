/-
  THE WALK of the law QuotNever.
-/
import Derived.Test.YthoejmhpgabgdaaDoorQl
set_option linter.unusedVariables false
set_option linter.unusedSimpArgs false
namespace Go.Proofs.YthoejmhpgabgdaaDoor
open Go.RowKit Nt Fm Fl

theorem okq2 {a b : Int} (h : ok2 a b = true) : a = 0 ∧ b = 0 := by
  unfold ok2 at h; simp at h; exact h
theorem adEq_0 {mode : Int} (h : adE mode = 0) : knownB mode = true := by
  unfold adE at h; cases hk : knownB mode
  · rw [hk] at h; exact absurd h (by decide)
  · rfl
theorem ad04 : adE 0 = 0 ∧ adE 4 = 0 := by decide

set_option maxRecDepth 100000 in
set_option maxHeartbeats 8000000 in
theorem walkQuotNever (x : Int) (x0 : 0 ≤ x) (x1 : x ≤ 18446744073709551615) (y : Int) (y0 : 0 ≤ y) (y1 : y ≤ 18446744073709551615) (w : World) (hT : Tab w) :
    Calls Tryd.prog 3 #[.int .u64 x, .int .u64 y] w fun e w' => e = .returned (.bool true) ∧ Below w.heap.size w w' := by
  have L := Lib.hid (dv_never x0 x1 y0 y1)
  obtain ⟨a0, a1⟩ := dvV_bd x y 0
  obtain ⟨b0, b1⟩ := dvV_bd x y 4
  obtain ⟨z0, z4⟩ := ad04
  have HT := Lib.hid hT
  clear hT
  have B : Hid (Below w.heap.size w w) := Lib.hid (Below.refl w.heap.size w)
  go_enter Tryd.func3, Tryd.ntmps3
  go_wp2_with (first
    | (go_at_call 19; (refine (class_any _ (by assumption) (by assumption) _).mono ?_); rintro e w' ⟨rfl, rfl⟩)
    | (go_at_call 16; (refine (qdiv_any _ _ _ (by assumption) (by assumption) (by assumption) (by assumption) _ (HT.out.below (by have := B.out; have := B.out.size; go_grown))).mono ?_); rintro r w1 ⟨rfl, hb⟩; replace B : Hid (Below w.heap.size w w1) := Lib.hid (bl_thru (by have := B.out; have := B.out.size; go_grown) (Nat.le_refl _) hb); clear hb)
    | (go_at_call 17; (refine (quotLives_any _ (HT.out.below (by have := B.out; have := B.out.size; go_grown))).mono ?_); rintro r w1 ⟨rfl, hb⟩; replace B : Hid (Below w.heap.size w w1) := Lib.hid (bl_thru (by have := B.out; have := B.out.size; go_grown) (Nat.le_refl _) hb); clear hb)
    | (go_at_call 18; first | ((with_reducible refine (ok_new2 _ _ _ _ (by simp)).mono ?_); rintro e w' ⟨rfl, rfl⟩)))
  all_goals (go_ret; refine ⟨?_, by have := B.out; have := B.out.size; go_grown⟩)
  all_goals (clear HT B)
  all_goals first
    | exact rfl
    | (have := L.out; exfalso; simp_all [ok2]; done)
    | (have := L.out; refine ret_bool ?_; simp_all [ok2]; done)
    | trace_state
end Go.Proofs.YthoejmhpgabgdaaDoor
