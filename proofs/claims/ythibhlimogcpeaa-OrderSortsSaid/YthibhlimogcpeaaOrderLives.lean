/-
  THE WALK of orderLives.
-/
import Derived.Test.YthibhlimogcpeaaOrder
set_option linter.unusedVariables false
set_option linter.unusedSimpArgs false
namespace Go.Proofs.Ythibhlimogcpeaa
open Go.RowKit Fl

theorem orderLives_any (w : World) :
    Calls Try.prog 9 #[] w fun e w' => e = .returned (.bool true) ∧ w = w' := by
  have k1 : ocmp 0 9223372036854775808 = 0 := by decide
  have k2 : ois 0 9223372036854775808 = true := by decide
  have k3 : ois 9221120237041090560 9221120237041090560 = false := by decide
  have k4 : otot 9223372036854775808 0 = -1 := by decide
  have k5 : oleast 0 9223372036854775808 1 = 9223372036854775808 := by decide
  have k6 : otot 9218868437227405312 9221120237041090560 = -1 := by decide
  go_enter Try.func9, Try.ntmps9
  go_wp2_with (first
    | (go_at_call 8; refine (ocmp_any _ _ (by decide) (by decide) (by decide) (by decide) _).mono ?_; rintro e w' ⟨rfl, rfl⟩)
    | (go_at_call 7; refine (total_any _ _ (by decide) (by decide) (by decide) (by decide) _).mono ?_; rintro e w' ⟨rfl, rfl⟩)
    | (go_at_call 18; refine (min_any _ _ (by decide) (by decide) (by decide) (by decide) _).mono ?_; rintro e w' ⟨rfl, rfl⟩))
  go_ret
  exact ⟨rfl, rfl⟩
end Go.Proofs.Ythibhlimogcpeaa
