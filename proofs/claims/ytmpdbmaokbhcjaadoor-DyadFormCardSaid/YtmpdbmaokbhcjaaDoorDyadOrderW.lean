/-
  THE WALK of the law DyadOrder.
-/
import Derived.Test.YtmpdbmaokbhcjaaDoorDyadRingW
set_option linter.unusedVariables false
set_option linter.unusedSimpArgs false
namespace Go.Proofs.YtmpdbmaokbhcjaaDoor
open Go.RowKit Nt Fm Fl

theorem ok2_all {a b : Int} (h : ok2 a b = true) : a = 0 ∧ b = 0 := by
  unfold ok2 at h; simp [and_assoc] at h; exact h
theorem ck2_swap (c1 c2 : Int) : (ck2 c2 c1 == 0) = (ck2 c1 c2 == 0) := by
  unfold ck2
  by_cases h1 : c1 = 0
  · by_cases h2 : c2 = 0
    · rw [h1, h2]
    · rw [if_neg h2, if_pos h1]
  · by_cases h2 : c2 = 0
    · rw [if_pos h2, if_neg h1]
    · rw [if_neg h2, if_neg h1, beq_eq_false_iff_ne.2 h1, beq_eq_false_iff_ne.2 h2]

end Go.Proofs.YtmpdbmaokbhcjaaDoor
