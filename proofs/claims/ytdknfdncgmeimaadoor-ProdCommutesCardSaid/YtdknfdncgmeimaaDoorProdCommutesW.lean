/-
  THE WALK of the law ProdCommutes.
-/
import Derived.Test.YtdknfdncgmeimaaDoorPe
import Derived.Test.YtdknfdncgmeimaaDoorPo
set_option linter.unusedVariables false
set_option linter.unusedSimpArgs false
namespace Go.Proofs.YtdknfdncgmeimaaDoor
open Go.RowKit Nt Fm Fl

theorem adEc_0 {mode : Int} (h : adE mode = 0) : knownB mode = true := by
  unfold adE at h; cases hk : knownB mode
  · rw [hk] at h; exact absurd h (by decide)
  · rfl
theorem known_swap {mode : Int} (h : knownB mode = true) : knownB (swapM mode) = true := by
  unfold knownB swapM at *; simp at *; omega
theorem prodCommutes_a {x y mode : Int} (x0 : 0 ≤ x) (x1 : x ≤ 18446744073709551615) (h : (adE mode != 0) = false) (o : Int) (ho : o = swapM mode) :
    adE o = 0 ∧ muC (fneg x) y o = muC x y mode ∧ ((fcls (muV x y mode) = 5 ∧ muV (fneg x) y o = 9221120237041090560) ∨ muV (fneg x) y o = fneg (muV x y mode)) ∧ muC x 4607182418800017408 mode = false ∧ (fcls x = 5 ∨ muV x 4607182418800017408 mode = x) := by
  have hk := adEc_0 (by simpa using h)
  have hk2 := known_swap hk
  rw [← ho] at hk2
  rw [(muV_yes hk).1, (muV_yes hk).1, (muV_yes hk).2.1, (muV_yes hk).2.1, (muV_yes hk2).1, (muV_yes hk2).2.1, (muV_yes (x := x) (y := y) hk2).2.2, ho]
  obtain ⟨a, b⟩ := mu_turned (y := y) mode x0 x1
  obtain ⟨c, d⟩ := mu_one mode x0 x1
  refine ⟨rfl, a, ?_, c, d⟩
  rcases b with ⟨b, b'⟩ | b
  · left; rw [b]; exact ⟨by decide, b'⟩
  · exact Or.inr b

set_option maxRecDepth 100000 in
set_option maxHeartbeats 8000000 in
theorem walkProdCommutes (x : Int) (x0 : 0 ≤ x) (x1 : x ≤ 18446744073709551615) (y : Int) (y0 : 0 ≤ y) (y1 : y ≤ 18446744073709551615) (mode : Int) (mode0 : -9223372036854775808 ≤ mode) (mode1 : mode ≤ 9223372036854775807) (w : World) (hT : Tab w) :
    Calls Tryd.prog 17 #[.int .u64 x, .int .u64 y, .int .i64 mode] w fun e w' => e = .returned (.bool true) ∧ Below w.heap.size w w' := by
  obtain ⟨e1, e2⟩ := mu_comm y x mode
  have L := Lib.hid (fun h o ho => prodCommutes_a (y := y) (mode := mode) x0 x1 h o ho)
  have n01 := fneg_bd x0 x1
  obtain ⟨n0, n1⟩ := n01
  obtain ⟨a0, a1⟩ := muV_bd x y mode
  have o0 : (0 : Int) ≤ 4607182418800017408 := by decide
  have o1 : (4607182418800017408 : Int) ≤ 18446744073709551615 := by decide
  have hm : (mode = 1) ∨ (mode = 2) ∨ (mode ≠ 1 ∧ mode ≠ 2) := by omega
  rcases hm with rfl | rfl | ⟨q1, q2⟩
  all_goals
    have HT := Lib.hid hT
    clear hT
    first
      | have L := Lib.hid (fun h => L.out h 2 (by decide))
      | have L := Lib.hid (fun h => L.out h 1 (by decide))
      | have L := Lib.hid (fun h => L.out h mode (by unfold swapM; rw [if_neg q1, if_neg q2]))
    have B : Hid (Below w.heap.size w w) := Lib.hid (Below.refl w.heap.size w)
    go_enter Tryd.func17, Tryd.ntmps17
    go_wp2_with (first
      | (go_at_call 44; (refine (class_any _ (by assumption) (by assumption) _).mono ?_); rintro e w' ⟨rfl, rfl⟩)
      | (go_at_call 46; (refine (neg_any _ (by assumption) (by assumption) _).mono ?_); rintro e w' ⟨rfl, rfl⟩)
      | (go_at_call 53; (refine (pmul_any _ _ _ (by assumption) (by assumption) (by assumption) (by assumption) _ (HT.out.below (by have := B.out; have := B.out.size; go_grown))).mono ?_); rintro r w1 ⟨rfl, hb⟩; replace B : Hid (Below w.heap.size w w1) := Lib.hid (bl_thru (by have := B.out; have := B.out.size; go_grown) (Nat.le_refl _) hb); clear hb)
      | (go_at_call 54; (refine (prodLives_any _ (HT.out.below (by have := B.out; have := B.out.size; go_grown))).mono ?_); rintro r w1 ⟨rfl, hb⟩; replace B : Hid (Below w.heap.size w w1) := Lib.hid (bl_thru (by have := B.out; have := B.out.size; go_grown) (Nat.le_refl _) hb); clear hb)
      | (go_at_call 31; first | ((with_reducible refine (ok_new2 _ _ _ _ (by simp)).mono ?_); rintro e w' ⟨rfl, rfl⟩)))
    all_goals (go_ret; refine ⟨?_, by have := B.out; have := B.out.size; go_grown⟩)
    all_goals (clear HT B)
    all_goals first
      | exact rfl
      | (obtain ⟨k0, k1, k2, k3, k4⟩ := L.out (by assumption); refine ret_bool ?_; rcases k2 with ⟨k2, k2'⟩ | k2 <;> rcases k4 with k4 | k4 <;> simp_all [ok2]; done)
      | (obtain ⟨k0, k1, k2, k3, k4⟩ := L.out (by assumption); exfalso; rcases k2 with ⟨k2, k2'⟩ | k2 <;> rcases k4 with k4 | k4 <;> simp_all [ok2]; done)
      | trace_state
end Go.Proofs.YtdknfdncgmeimaaDoor
