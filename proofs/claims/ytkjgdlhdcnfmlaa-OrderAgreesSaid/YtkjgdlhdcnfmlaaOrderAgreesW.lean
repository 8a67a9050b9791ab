/-
  THE WALK of the law OrderAgrees.
-/
import Derived.Test.YtkjgdlhdcnfmlaaOrderLives
namespace Go.Proofs.Ytkjgdlhdcnfmlaa
open Go.RowKit Fl

theorem agrees_facts {x y : Int} (h0 : 0 ≤ x) (h1 : x ≤ 18446744073709551615) (y0 : 0 ≤ y) (y1 : y ≤ 18446744073709551615) :
    ois (fneg y) (fneg x) = ois x y ∧ ocmp (fneg y) (fneg x) = ocmp x y ∧ (ois x y = true → ocmp x y = otot x y ∨ (fcls x = 1 ∧ fcls y = 1 ∧ ocmp x y = 0)) := by
  have e1 : frerr (fneg x) = frerr x := by unfold frerr fabs fneg; omega
  have e2 : frerr (fneg y) = frerr y := by unfold frerr fabs fneg; omega
  have e3 : ois (fneg y) (fneg x) = ois x y := by unfold ois; rw [e1, e2, Bool.and_comm]
  refine ⟨e3, ?_, ?_⟩
  · unfold ocmp; rw [e3]; split
    · rename_i h
      have h' : frerr x = 0 ∧ frerr y = 0 := by unfold ois at h; simpa using h
      have e4 : frank (fneg x) = -frank x := by have := h'.1; unfold frerr at this; unfold frank; unfold fabs fneg at *; omega
      have e5 : frank (fneg y) = -frank y := by have := h'.2; unfold frerr at this; unfold frank; unfold fabs fneg at *; omega
      rw [e4, e5]; unfold sgnc; omega
    · rfl
  · intro h
    have h' : frerr x = 0 ∧ frerr y = 0 := by unfold ois at h; simpa using h
    obtain ⟨ha, hb⟩ := h'
    have ex : fabs x ≤ 9218868437227405312 := by unfold frerr at ha; omega
    have ey : fabs y ≤ 9218868437227405312 := by unfold frerr at hb; omega
    have fx : frank x = if 9223372036854775808 ≤ x then -fabs x else fabs x := by unfold frank; rw [if_neg (by omega)]
    have fy : frank y = if 9223372036854775808 ≤ y then -fabs y else fabs y := by unfold frank; rw [if_neg (by omega)]
    unfold ocmp; rw [if_pos h]
    by_cases hz : fabs x = 0 ∧ fabs y = 0
    · right
      refine ⟨by unfold fcls; rw [if_pos hz.1], by unfold fcls; rw [if_pos hz.2], ?_⟩
      rw [fx, fy, hz.1, hz.2]; unfold sgnc; omega
    · left
      rw [fx, fy]; unfold otot okey sgnc
      unfold fabs at *; omega

set_option maxHeartbeats 2000000 in
theorem walkOrderAgrees (x : Int) (h0 : 0 ≤ x) (h1 : x ≤ 18446744073709551615) (y : Int) (y0 : 0 ≤ y) (y1 : y ≤ 18446744073709551615) (w : World) :
    Calls Try.prog 8 #[.int .u64 x, .int .u64 y] w fun e w' => e = .returned (.bool true) ∧ Below w.heap.size w w' := by
  obtain ⟨q1, q2, q3⟩ := agrees_facts h0 h1 y0 y1
  have b1 := fneg_bd h0 h1
  have b2 := fneg_bd y0 y1
  have b3 := (sgnc_bd (okey x) (okey y))
  have b4 : -1 ≤ otot x y ∧ otot x y ≤ 1 := b3
  clear b3
  have hcases : ois x y = false ∨ (ois x y = true ∧ otot x y = ocmp x y) ∨ (ois x y = true ∧ fcls x = 1 ∧ fcls y = 1 ∧ ocmp x y = 0) := by
    cases h : ois x y
    · left; rfl
    · right; rcases q3 h with h2 | ⟨h2, h3, h4⟩
      · left; exact ⟨rfl, h2.symm⟩
      · right; exact ⟨rfl, h2, h3, h4⟩
  clear q3
  rcases hcases with c1 | ⟨c1, c2⟩ | ⟨c1, c2, c3, c4⟩
  case inr.inr =>
    rw [c4] at q2
    rw [c1] at q1
    go_enter Try.func8, Try.ntmps8
    go_wp2_with (first
      | (go_at_call 23; refine (orderLives_any _).mono ?_; rintro e w' ⟨rfl, rfl⟩)
      | (go_at_call 24; refine (ocmp_any _ _ (by omega) (by omega) (by omega) (by omega) _).mono ?_; rintro e w' ⟨rfl, rfl⟩)
      | (go_at_call 16; refine (neg_any _ (by omega) (by omega) _).mono ?_; rintro e w' ⟨rfl, rfl⟩)
      | (go_at_call 17; refine (class_any _ (by omega) (by omega) _).mono ?_; rintro e w' ⟨rfl, rfl⟩)
      | (go_at_call 22; refine (total_any _ _ (by omega) (by omega) (by omega) (by omega) _).mono ?_; rintro e w' ⟨rfl, rfl⟩))
    all_goals (go_ret; exact ⟨rfl, Below.refl _ _⟩)
  all_goals
    rw [c1] at q1
    cases hcx : (fcls x == 1) <;> cases hcy : (fcls y == 1)
    all_goals
      go_enter Try.func8, Try.ntmps8
      go_wp2_with (first
        | (go_at_call 23; refine (orderLives_any _).mono ?_; rintro e w' ⟨rfl, rfl⟩)
        | (go_at_call 24; refine (ocmp_any _ _ (by omega) (by omega) (by omega) (by omega) _).mono ?_; rintro e w' ⟨rfl, rfl⟩)
        | (go_at_call 16; refine (neg_any _ (by omega) (by omega) _).mono ?_; rintro e w' ⟨rfl, rfl⟩)
        | (go_at_call 17; refine (class_any _ (by omega) (by omega) _).mono ?_; rintro e w' ⟨rfl, rfl⟩)
        | (go_at_call 22; refine (total_any _ _ (by omega) (by omega) (by omega) (by omega) _).mono ?_; rintro e w' ⟨rfl, rfl⟩))
      all_goals (go_ret; exact ⟨rfl, Below.refl _ _⟩)
end Go.Proofs.Ytkjgdlhdcnfmlaa
