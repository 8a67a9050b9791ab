/-
  THE WALK of (*decimal.ratio).round.
-/
import Derived.Test.YtmpdbmaokbhcjaaDoorPsc
import Derived.Test.YtmpdbmaokbhcjaaDoorBe
import Derived.Deep.RegionHeld3
set_option linter.unusedVariables false
set_option linter.unusedSimpArgs false
namespace Go.Proofs.YtmpdbmaokbhcjaaDoor
open Go.RowKit Nt Fm Fl

/-- what round tells -/
theorem rq_zero {neg : Bool} {N D : Nat} {mode : Int} (h : N % D = 0) : rq neg N D mode = N / D ∧ rc N D = false := by
  unfold rq rc; rw [if_pos h]; simp [h]
theorem rq_lost {neg : Bool} {N D : Nat} {mode : Int} (h : N % D ≠ 0) : rq neg N D mode = (if upB neg (decide (N / D % 2 = 1)) (sgn2 ((N % D * 2 : Nat) : Int) (D : Int)) mode = true then N / D + 1 else N / D) ∧ rc N D = true := by
  unfold rq rc; rw [if_neg h]; simp [h]
end Go.Proofs.YtmpdbmaokbhcjaaDoor
