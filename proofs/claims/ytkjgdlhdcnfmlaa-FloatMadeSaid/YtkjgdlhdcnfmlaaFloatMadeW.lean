/-
  THE WALK of the law FloatMade.
-/
import Derived.Test.YtkjgdlhdcnfmlaaFloatLives
namespace Go.Proofs.Ytkjgdlhdcnfmlaa
open Go.RowKit Fl

theorem fmk_parts {x : Int} (h0 : 0 ≤ x) (h1 : x ≤ 18446744073709551615) : fmk (fng x) (fexp x) (ffr x) = x := by
  unfold fmk fng fexp ffr
  by_cases h : 9223372036854775808 ≤ x
  · simp only [h, decide_true, if_true]; omega
  · simp only [h, decide_false, Bool.false_eq_true, if_false]; omega
theorem fneg_fneg {x : Int} (h0 : 0 ≤ x) (h1 : x ≤ 18446744073709551615) : fneg (fneg x) = x := by unfold fneg; omega
theorem fneg_ne {x : Int} : (fneg x == x) = false ∧ (fneg x != x) = true := by
  have : fneg x ≠ x := by unfold fneg; omega
  simp [this]
theorem fabs_fneg {x : Int} (h0 : 0 ≤ x) (h1 : x ≤ 18446744073709551615) : fabs (fneg x) = fabs x := by unfold fabs fneg; omega
theorem fcls_fneg {x : Int} (h0 : 0 ≤ x) (h1 : x ≤ 18446744073709551615) : fcls (fneg x) = fcls x := by unfold fcls; rw [fabs_fneg h0 h1]

theorem walkFloatMade (x : Int) (h0 : 0 ≤ x) (h1 : x ≤ 18446744073709551615) (w : World) :
    Calls Try.prog 4 #[.int .u64 x] w fun e w' => e = .returned (.bool true) ∧ Below w.heap.size w w' := by
  have b1 := fexp_bd x
  have b2 := ffr_bd x
  have b3 := fneg_bd h0 h1
  have q1 := fmk_parts h0 h1
  have q2 := fneg_fneg h0 h1
  have q3 := (@fneg_ne x).2
  have q4 := fabs_fneg h0 h1
  have q5 := fcls_fneg h0 h1
  go_enter Try.func4, Try.ntmps4
  go_wp2_with (first
    | (go_at_call 14; refine (parts_any _ (by omega) (by omega) _).mono ?_; rintro e w' ⟨rfl, rfl⟩)
    | (go_at_call 15; refine (make_any _ _ _ (by omega) (by omega) (by omega) (by omega) _).mono ?_; rintro e w' ⟨rfl, rfl⟩)
    | (go_at_call 16; refine (neg_any _ (by omega) (by omega) _).mono ?_; rintro e w' ⟨rfl, rfl⟩)
    | (go_at_call 17; refine (class_any _ (by omega) (by omega) _).mono ?_; rintro e w' ⟨rfl, rfl⟩)
    | (go_at_call 18; refine (abs_any _ (by omega) (by omega) _).mono ?_; rintro e w' ⟨rfl, rfl⟩)
    | (go_at_call 13; refine (floatLives_any _).mono ?_; rintro e w' ⟨rfl, rfl⟩))
  go_ret
  exact ⟨rfl, Below.refl _ _⟩
end Go.Proofs.Ytkjgdlhdcnfmlaa
