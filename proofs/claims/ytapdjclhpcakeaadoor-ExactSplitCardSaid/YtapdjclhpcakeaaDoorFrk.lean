/-
  PLAIN: the rank of a rounded number.
-/
import Derived.Test.YtapdjclhpcakeaaDoorRdP
import Derived.Test.YtapdjclhpcakeaaDoorBa
set_option linter.unusedVariables false
set_option linter.unusedSimpArgs false
namespace Go.Proofs.YtapdjclhpcakeaaDoor
open Go.RowKit Nt Fm Fl
theorem rank_pos {n : Nat} (h : n ≤ MR) : frank (n : Int) = n ∧ frerr (n : Int) = 0 := by
  have hMR : MR = 9218868437227405312 := rfl
  unfold frank frerr fabs; omega
theorem rank_neg {n : Nat} (h : n ≤ MR) : frank ((n : Int) + 9223372036854775808) = -n ∧ frerr ((n : Int) + 9223372036854775808) = 0 := by
  have hMR : MR = 9218868437227405312 := rfl
  unfold frank frerr fabs; omega
theorem rank_numR (d : D) (mode : Int) : frank (numR d mode) = rg d.neg mode d.m d.e ∧ frerr (numR d mode) = 0 := by
  have h := numk_le_MR (kd d.neg mode) d.m d.e
  unfold numR rg
  cases d.neg
  · have := rank_pos (numk_le_MR (kd false mode) d.m d.e)
    simpa using this
  · have := rank_neg (numk_le_MR (kd true mode) d.m d.e)
    simpa using this
end Go.Proofs.YtapdjclhpcakeaaDoor
