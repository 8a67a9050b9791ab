/-
  PLAIN: quotients and roots of numbers, rounded. No Go function here.
-/
import Derived.Test.YtfnchcogdmpojaaDoorBp
import Derived.Test.YtfnchcogdmpojaaDoorBq
import Derived.Test.YtfnchcogdmpojaaDoorNw
set_option linter.unusedVariables false
set_option linter.unusedSimpArgs false
namespace Go.Proofs.YtfnchcogdmpojaaDoor
open Go.RowKit Nt Fm Fl

def dvD (x y : Int) : D := ratD ((valD x).neg != (valD y).neg) (valD x).m (valD y).m ((valD x).e - (valD y).e)
def dvS (x y : Int) : Bool := decide (fcls x = 5) || (decide (fcls y = 5) || (decide (fcls x = 4) || (decide (fcls y = 4) || (decide (fcls x = 1) || decide (fcls y = 1)))))
def dvW (x y : Int) : Int :=
  if fcls x = 5 ∨ fcls y = 5 ∨ (fcls x = 4 ∧ fcls y = 4) ∨ (fcls x = 1 ∧ fcls y = 1) then 9221120237041090560 else if fcls x = 4 ∨ fcls y = 1 then 9218868437227405312 + sgn x y else sgn x y
def dvV0 (x y mode : Int) : Int := if dvS x y = true then dvW x y else numR (dvD x y) mode
def dvC0 (x y : Int) : Bool := if dvS x y = true then false else numC (dvD x y)
def dvV (x y mode : Int) : Int := if knownB mode = true then dvV0 x y mode else 0
def dvC (x y mode : Int) : Bool := if knownB mode = true then dvC0 x y else false
def sqD (x : Int) : D := rtD (isq ((valD x).m * 2 ^ rk (valD x).e)) (valD x).m (valD x).e
def sqS (x : Int) : Bool := decide (fcls x = 5) || ((fng x) || (decide (fcls x = 1) || decide (fcls x = 4)))
def sqW (x : Int) : Int := if fcls x = 5 ∨ (fng x = true ∧ fcls x ≠ 1) then 9221120237041090560 else x
def sqV0 (x mode : Int) : Int := if sqS x = true then sqW x else numR (sqD x) mode
def sqC0 (x : Int) : Bool := if sqS x = true then false else numC (sqD x)
def sqV (x mode : Int) : Int := if knownB mode = true then sqV0 x mode else 0
def sqC (x mode : Int) : Bool := if knownB mode = true then sqC0 x else false
theorem dvV_no {x y mode : Int} (hk : knownB mode = false) : dvV x y mode = 0 ∧ dvC x y mode = false ∧ adE mode = 1 := by unfold dvV dvC adE; rw [hk]; exact ⟨rfl, rfl, rfl⟩
theorem dvV_yes {x y mode : Int} (hk : knownB mode = true) : dvV x y mode = dvV0 x y mode ∧ dvC x y mode = dvC0 x y ∧ adE mode = 0 := by unfold dvV dvC adE; rw [hk]; exact ⟨rfl, rfl, rfl⟩
theorem sqV_no {x mode : Int} (hk : knownB mode = false) : sqV x mode = 0 ∧ sqC x mode = false ∧ adE mode = 1 := by unfold sqV sqC adE; rw [hk]; exact ⟨rfl, rfl, rfl⟩
theorem sqV_yes {x mode : Int} (hk : knownB mode = true) : sqV x mode = sqV0 x mode ∧ sqC x mode = sqC0 x ∧ adE mode = 0 := by unfold sqV sqC adE; rw [hk]; exact ⟨rfl, rfl, rfl⟩
theorem dvW_bd (x y : Int) : 0 ≤ dvW x y ∧ dvW x y ≤ 18446744073709551615 := by
  have := sgn_bd x y
  unfold dvW; split; · omega
  split <;> omega
theorem dvV_bd (x y mode : Int) : 0 ≤ dvV x y mode ∧ dvV x y mode ≤ 18446744073709551615 := by
  have b := dvW_bd x y
  have c := numR_bd (dvD x y) mode
  unfold dvV dvV0; split
  · split <;> omega
  · omega
theorem sqV_bd (x mode : Int) (x0 : 0 ≤ x) (x1 : x ≤ 18446744073709551615) : 0 ≤ sqV x mode ∧ sqV x mode ≤ 18446744073709551615 := by
  have c := numR_bd (sqD x) mode
  unfold sqV sqV0; split
  · split
    · unfold sqW; split <;> omega
    · omega
  · omega
end Go.Proofs.YtfnchcogdmpojaaDoor
