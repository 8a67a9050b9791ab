/-
  THE WALK of floatLives.
-/
import Derived.Test.YtkjgdlhdcnfmlaaFloatN
import Derived.Test.YtkjgdlhdcnfmlaaOk
namespace Go.Proofs.Ytkjgdlhdcnfmlaa
open Go.RowKit Fl

theorem floatLives_any (w : World) :
    Calls Try.prog 13 #[] w fun e w' => e = .returned (.bool true) ∧ w = w' := by
  have k1 : frank 13830554455654793216 = -4607182418800017408 := by decide
  have k2 : frerr 13830554455654793216 = 0 := by decide
  have k3 : fnext 4607182418800017408 = 4607182418800017409 := by decide
  have k4 : fcls 1 = 2 := by decide
  have k5 : fmk true 1023 0 = 13830554455654793216 := by decide
  go_enter Try.func13, Try.ntmps13
  go_wp2_with (first
    | (go_at_call 12; refine (rank_any _ (by decide) (by decide) _).mono ?_; rintro e w' ⟨rfl, rfl⟩)
    | (go_at_call 15; refine (make_any _ _ _ (by decide) (by decide) (by decide) (by decide) _).mono ?_; rintro e w' ⟨rfl, rfl⟩)
    | (go_at_call 20; refine (next_any _ (by decide) (by decide) _).mono ?_; rintro e w' ⟨rfl, rfl⟩)
    | (go_at_call 17; refine (class_any _ (by decide) (by decide) _).mono ?_; rintro e w' ⟨rfl, rfl⟩))
  go_ret
  exact ⟨rfl, rfl⟩
end Go.Proofs.Ytkjgdlhdcnfmlaa
