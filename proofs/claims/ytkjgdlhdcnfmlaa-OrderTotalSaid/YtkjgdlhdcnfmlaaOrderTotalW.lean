/-
  THE WALK of the law OrderTotal.
-/
import Derived.Test.YtkjgdlhdcnfmlaaOrderLives
namespace Go.Proofs.Ytkjgdlhdcnfmlaa
open Go.RowKit Fl

theorem otot_turn (x y : Int) : otot y x = -otot x y := by unfold otot sgnc; omega
theorem otot_bd (x y : Int) : -1 ≤ otot x y ∧ otot x y ≤ 1 := sgnc_bd _ _
theorem otot_zero {x y : Int} (h0 : 0 ≤ x) (h1 : x ≤ 18446744073709551615) (y0 : 0 ≤ y) (y1 : y ≤ 18446744073709551615) : (otot x y == 0) = (x == y) := by
  rw [Bool.eq_iff_iff, beq_iff_eq, beq_iff_eq]
  constructor
  · intro h; exact okey_inj h0 h1 y0 y1 (by unfold otot sgnc at h; omega)
  · intro h; subst h; unfold otot sgnc; omega
theorem otot_trans (x y z : Int) : (0 < otot x y ∨ 0 < otot y z ∨ otot x z ≤ 0) ∧ (0 ≤ otot x y ∨ 0 < otot y z ∨ otot x z < 0) := by
  unfold otot sgnc; omega

set_option maxHeartbeats 2000000 in
theorem walkOrderTotal (x : Int) (h0 : 0 ≤ x) (h1 : x ≤ 18446744073709551615) (y : Int) (y0 : 0 ≤ y) (y1 : y ≤ 18446744073709551615) (z : Int) (z0 : 0 ≤ z) (z1 : z ≤ 18446744073709551615) (w : World) :
    Calls Try.prog 7 #[.int .u64 x, .int .u64 y, .int .u64 z] w fun e w' => e = .returned (.bool true) ∧ Below w.heap.size w w' := by
  have q1 := otot_turn x y
  have q2 := otot_zero h0 h1 y0 y1
  have q3 := otot_bd x y
  obtain ⟨t1, t2⟩ := otot_trans x y z
  have t3 : (0 < otot x y ∨ otot x y = 0 ∨ otot x y < 0) ∧ (0 < otot y z ∨ otot y z ≤ 0) := by omega
  clear t1 t2
  have t1 : 0 < otot x y ∨ 0 < otot y z ∨ otot x z ≤ 0 := (otot_trans x y z).1
  have t2 : 0 ≤ otot x y ∨ 0 ≤ otot y z ∨ otot x z < 0 := by have := (otot_trans x y z).2; omega
  clear t3
  by_cases a1 : 0 < otot x y <;> by_cases a2 : 0 ≤ otot x y <;> by_cases b1 : 0 < otot y z <;> by_cases b2 : 0 ≤ otot y z <;> by_cases c1 : otot x z ≤ 0 <;> by_cases c2 : otot x z < 0
  all_goals first
    | (exfalso; omega)
    | (cases hxy : (x == y)
       all_goals
         have hh := q2
         rw [hxy] at hh
         clear t1 t2 q2
         go_enter Try.func7, Try.ntmps7
         go_wp2_with (first
           | (go_at_call 23; refine (orderLives_any _).mono ?_; rintro e w' ⟨rfl, rfl⟩)
           | (go_at_call 22; refine (total_any _ _ (by omega) (by omega) (by omega) (by omega) _).mono ?_; rintro e w' ⟨rfl, rfl⟩))
         all_goals (go_ret; exact ⟨rfl, Below.refl _ _⟩))
end Go.Proofs.Ytkjgdlhdcnfmlaa
