/-
  THE WALK of the law WholeOrder.
-/
import Derived.Test.YtdknfdncgmeimaaDoorWn
import Derived.Test.YtdknfdncgmeimaaDoorWm
set_option linter.unusedVariables false
set_option linter.unusedSimpArgs false
namespace Go.Proofs.YtdknfdncgmeimaaDoor
open Go.RowKit Nt Fm Fl

theorem okv4 {a b c d : Int} (h : ok4 a b c d = true) : a = 0 ∧ b = 0 ∧ c = 0 ∧ d = 0 := by
  unfold ok4 at h; simp [and_assoc] at h; exact h
theorem adEv_0 {mode : Int} (h : adE mode = 0) : knownB mode = true := by
  unfold adE at h; cases hk : knownB mode
  · rw [hk] at h; exact absurd h (by decide)
  · rfl
theorem wholeOrder_a {x y mode : Int} (x0 : 0 ≤ x) (x1 : x ≤ 18446744073709551615) (y0 : 0 ≤ y) (y1 : y ≤ 18446744073709551615) (h : ok4 (frerr x) (frerr y) (adE mode) (adE mode) = true) (h2 : frank x ≤ frank y) :
    ok2 (frerr (woV x mode)) (frerr (woV y mode)) = true ∧ frank (woV x mode) ≤ frank (woV y mode) ∧ (mode = 2 → frank (woV x mode) ≤ frank x) ∧ (mode = 1 → frank x ≤ frank (woV x mode)) := by
  obtain ⟨a, b, c, -⟩ := okv4 h
  have hk := adEv_0 c
  have hm := known_in hk
  rw [(woV_yes hk).1, (woV_yes hk).1]
  obtain ⟨e1, e2, e3, e4, e5⟩ := wo_mono x0 x1 y0 y1 hm.1 hm.2 a b h2
  exact ⟨by rw [e1, e2]; rfl, e3, e4, e5⟩

set_option maxRecDepth 100000 in
set_option maxHeartbeats 8000000 in
theorem walkWholeOrder (x : Int) (x0 : 0 ≤ x) (x1 : x ≤ 18446744073709551615) (y : Int) (y0 : 0 ≤ y) (y1 : y ≤ 18446744073709551615) (mode : Int) (mode0 : -9223372036854775808 ≤ mode) (mode1 : mode ≤ 9223372036854775807) (w : World) (hT : Tab w) :
    Calls Tryd.prog 11 #[.int .u64 x, .int .u64 y, .int .i64 mode] w fun e w' => e = .returned (.bool true) ∧ Below w.heap.size w w' := by
  have L := Lib.hid (fun h h2 => wholeOrder_a (mode := mode) x0 x1 y0 y1 h h2)
  obtain ⟨a0, a1⟩ := woV_bd mode x0 x1
  obtain ⟨b0, b1⟩ := woV_bd mode y0 y1
  have hm : (mode = 1) ∨ (mode = 2) ∨ (mode ≠ 1 ∧ mode ≠ 2) := by omega
  rcases hm with rfl | rfl | ⟨q1, q2⟩
  all_goals
    have HT := Lib.hid hT
    clear hT
    have B : Hid (Below w.heap.size w w) := Lib.hid (Below.refl w.heap.size w)
    go_enter Tryd.func11, Tryd.ntmps11
    go_wp2_with (first
      | (go_at_call 47; (refine (rank_any _ (by assumption) (by assumption) _).mono ?_); rintro e w' ⟨rfl, rfl⟩)
      | (go_at_call 39; (refine (wround_any _ _ (by assumption) (by assumption) (by assumption) (by assumption) _ (HT.out.below (by have := B.out; have := B.out.size; go_grown))).mono ?_); rintro r w1 ⟨rfl, hb⟩; replace B : Hid (Below w.heap.size w w1) := Lib.hid (bl_thru (by have := B.out; have := B.out.size; go_grown) (Nat.le_refl _) hb); clear hb)
      | (go_at_call 40; (refine (wholeLives_any _ (HT.out.below (by have := B.out; have := B.out.size; go_grown))).mono ?_); rintro r w1 ⟨rfl, hb⟩; replace B : Hid (Below w.heap.size w w1) := Lib.hid (bl_thru (by have := B.out; have := B.out.size; go_grown) (Nat.le_refl _) hb); clear hb)
      | (go_at_call 31; first | ((with_reducible refine (ok_new4 _ _ _ _ _ _ (by simp)).mono ?_); rintro e w' ⟨rfl, rfl⟩) | ((with_reducible refine (ok_new2 _ _ _ _ (by simp)).mono ?_); rintro e w' ⟨rfl, rfl⟩)))
    all_goals (go_ret; refine ⟨?_, by have := B.out; have := B.out.size; go_grown⟩)
    all_goals (clear HT B)
    all_goals first
      | exact rfl
      | (obtain ⟨k1, k2, k3, k4⟩ := L.out (by assumption) (by omega); refine ret_bool ?_; first | (simp only [decide_eq_true_eq]; omega) | (have := k4 (by first | trivial | rfl); simp only [decide_eq_true_eq]; omega) | (have := k3 (by first | trivial | rfl); simp only [decide_eq_true_eq]; omega) | (simp_all; done))
      | (obtain ⟨k1, k2, k3, k4⟩ := L.out (by assumption) (by omega); exfalso; first | omega | (have := k3 (by first | trivial | rfl); omega) | (have := k4 (by first | trivial | rfl); omega) | (simp_all; done))
      | trace_state
end Go.Proofs.YtdknfdncgmeimaaDoor
