/-
  THE WALK of the law ExactZero.
-/
import Derived.Test.YtapdjclhpcakeaaDoorXz
set_option linter.unusedVariables false
set_option linter.unusedSimpArgs false
namespace Go.Proofs.YtapdjclhpcakeaaDoor
open Go.RowKit Nt Fm Fl

theorem okz2 {a b : Int} (h : (!ok2 a b) = false) : a = 0 ∧ b = 0 := by
  unfold ok2 at h; simp at h; exact h
theorem exactZero_a {x : Int} (x0 : 0 ≤ x) (x1 : x ≤ 18446744073709551615) : tsE x 0 = tpE x 4607182418800017408 ∧ ((!ok2 (tsE x 0) (tpE x 4607182418800017408)) = false → (tsS x 0 = x ∨ x = 9223372036854775808) ∧ fcls (tsR x 0) = 1 ∧ tpP x 4607182418800017408 = x ∧ fcls (tpR x 4607182418800017408) = 1) := by
  cases hv : hasV x
  · obtain ⟨a, b⟩ := zero_none hv
    rw [a, b]; exact ⟨rfl, fun h => absurd h (by decide)⟩
  · obtain ⟨a, b, c, d, e, f⟩ := zero_law x0 x1 hv
    rw [a, d]; exact ⟨rfl, fun _ => ⟨b, c, e, f⟩⟩
theorem tsR_bd {x y : Int} (x0 : 0 ≤ x) (x1 : x ≤ 18446744073709551615) (y0 : 0 ≤ y) (y1 : y ≤ 18446744073709551615) : 0 ≤ tsR x y ∧ tsR x y ≤ 18446744073709551615 := by
  obtain ⟨s0, s1⟩ := plV_bd x0 x1 y0 y1
  obtain ⟨a0, a1⟩ := miV_bd s0 s1 y0 y1
  obtain ⟨b0, b1⟩ := miV_bd s0 s1 a0 a1
  obtain ⟨p0, p1⟩ := miV_bd x0 x1 a0 a1
  obtain ⟨q0, q1⟩ := miV_bd y0 y1 b0 b1
  unfold tsR; split
  · exact plV_bd p0 p1 q0 q1
  · omega
theorem tpR_bd (x y : Int) : 0 ≤ tpR x y ∧ tpR x y ≤ 18446744073709551615 := by
  have h := fmV_bd x y (fneg (muV0 x y 0)) 0 (fneg_bd (muV0_bd' x y).1 (muV0_bd' x y).2).1 (fneg_bd (muV0_bd' x y).1 (muV0_bd' x y).2).2
  rw [(fmV_yes (x := x) (y := y) (z := fneg (muV0 x y 0)) (mode := 0) rfl).1] at h
  unfold tpR; split
  · exact h
  · omega

set_option maxRecDepth 100000 in
set_option maxHeartbeats 8000000 in
theorem walkExactZero (x : Int) (x0 : 0 ≤ x) (x1 : x ≤ 18446744073709551615) (w : World) (hT : Tab w) :
    Calls Tryd.prog 6 #[.int .u64 x] w fun e w' => e = .returned (.bool true) ∧ Below w.heap.size w w' := by
  obtain ⟨l1, l2⟩ := exactZero_a x0 x1
  have L1 := Lib.hid l1
  have L2 := Lib.hid l2
  clear l1 l2
  have z0 : (0 : Int) ≤ 0 := by decide
  have z1 : (0 : Int) ≤ 18446744073709551615 := by decide
  have o0 : (0 : Int) ≤ 4607182418800017408 := by decide
  have o1 : (4607182418800017408 : Int) ≤ 18446744073709551615 := by decide
  obtain ⟨r0, r1⟩ := tsR_bd x0 x1 z0 z1
  obtain ⟨q0, q1⟩ := tpR_bd x 4607182418800017408
  have HT := Lib.hid hT
  clear hT
  have B : Hid (Below w.heap.size w w) := Lib.hid (Below.refl w.heap.size w)
  go_enter Tryd.func6, Tryd.ntmps6
  go_wp2_with (first
    | (go_at_call 30; (refine (twoSum_any _ _ (by assumption) (by assumption) (by assumption) (by assumption) _ (HT.out.below (by have := B.out; have := B.out.size; go_grown))).mono ?_); rintro r w1 ⟨rfl, hb⟩; replace B : Hid (Below w.heap.size w w1) := Lib.hid (bl_thru (by have := B.out; have := B.out.size; go_grown) (Nat.le_refl _) hb); clear hb)
    | (go_at_call 31; (refine (twoProd_any _ _ (by assumption) (by assumption) (by assumption) (by assumption) _ (HT.out.below (by have := B.out; have := B.out.size; go_grown))).mono ?_); rintro r w1 ⟨rfl, hb⟩; replace B : Hid (Below w.heap.size w w1) := Lib.hid (bl_thru (by have := B.out; have := B.out.size; go_grown) (Nat.le_refl _) hb); clear hb)
    | (go_at_call 25; (refine (class_any _ (by assumption) (by assumption) _).mono ?_); rintro e w' ⟨rfl, rfl⟩)
    | (go_at_call 32; (refine (exactLives_any _ (HT.out.below (by have := B.out; have := B.out.size; go_grown))).mono ?_); rintro r w1 ⟨rfl, hb⟩; replace B : Hid (Below w.heap.size w w1) := Lib.hid (bl_thru (by have := B.out; have := B.out.size; go_grown) (Nat.le_refl _) hb); clear hb)
    | (go_at_call 28; first | ((with_reducible refine (ok_new2 _ _ _ _ (by simp)).mono ?_); rintro e w' ⟨rfl, rfl⟩)))
  all_goals (go_ret; refine ⟨?_, by have := B.out; have := B.out.size; go_grown⟩)
  all_goals (clear HT B)
  all_goals first
    | (refine ret_bool ?_; rw [beq_iff_eq]; exact L1.out)
    | (obtain ⟨k1, k2, k3, k4⟩ := L2.out (by assumption); first | (refine ret_bool ?_; rcases k1 with k1 | k1 <;> simp_all; done) | (exfalso; rcases k1 with k1 | k1 <;> simp_all; done))
    | trace_state
end Go.Proofs.YtapdjclhpcakeaaDoor
