/-
  THE WALK of quot.Root.
-/
import Derived.Test.YtfnchcogdmpojaaDoorRa
import Derived.Test.YtfnchcogdmpojaaDoorNa
set_option linter.unusedVariables false
set_option linter.unusedSimpArgs false
namespace Go.Proofs.YtfnchcogdmpojaaDoor
open Go.RowKit Nt Fm

theorem root_mark (m : Nat) : Fm.mark (m - isq m * isq m) = if (sgn2 ((isq m * isq m : Nat) : Int) (m : Int) != 0) = true then 1 else 0 := by
  have h := (isq_root m).1
  unfold Fm.mark sgn2
  rcases Nat.lt_or_ge (isq m * isq m) m with h1 | h1
  · rw [if_neg (by omega), if_pos (show ((isq m * isq m : Nat) : Int) < (m : Int) by omega)]; rfl
  · have e : isq m * isq m = m := by omega
    rw [e]; simp
theorem tmod2_even {x : Int} (h : x % 2 = 0) : x.tmod 2 = 0 ∧ x.tdiv 2 = x / 2 := ⟨Int.tmod_eq_zero_of_dvd (Int.dvd_of_emod_eq_zero h), Int.tdiv_eq_ediv_of_dvd (Int.dvd_of_emod_eq_zero h)⟩
theorem tmod2_odd {x : Int} (h : x % 2 ≠ 0) : x.tmod 2 ≠ 0 := fun h2 => h (Int.emod_eq_zero_of_dvd (Int.dvd_of_tmod_eq_zero h2))
end Go.Proofs.YtfnchcogdmpojaaDoor
