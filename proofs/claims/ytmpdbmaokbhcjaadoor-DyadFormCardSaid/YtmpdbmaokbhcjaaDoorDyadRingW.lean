/-
  THE WALK of the law DyadRing.
-/
import Derived.Test.YtmpdbmaokbhcjaaDoorDLives
import Derived.Test.YtmpdbmaokbhcjaaDoorBa
set_option linter.unusedVariables false
set_option linter.unusedSimpArgs false
namespace Go.Proofs.YtmpdbmaokbhcjaaDoor
open Go.RowKit Nt Fm

theorem opE_eq {c1 c2 : Int} {S : D} (h : opE c1 c2 S = 0) : c1 = 0 ∧ c2 = 0 ∧ fitE S = 0 ∧ opR c1 c2 S = S := by
  have h' := h
  unfold opE at h
  split at h
  · rename_i h1
    split at h
    · rename_i h2
      refine ⟨h1, h2, h, ?_⟩
      unfold opR; rw [if_pos h']
    · contradiction
  · contradiction
theorem opE_swap (c1 c2 : Int) (S : D) : (opE c2 c1 S == 0) = (opE c1 c2 S == 0) ∧ opR c2 c1 S = opR c1 c2 S := by
  have h : opE c2 c1 S = 0 ↔ opE c1 c2 S = 0 := by
    constructor
    · intro h; obtain ⟨rfl, rfl, -, -⟩ := opE_eq h; exact h
    · intro h; obtain ⟨rfl, rfl, -, -⟩ := opE_eq h; exact h
  refine ⟨?_, ?_⟩
  · by_cases h1 : opE c1 c2 S = 0
    · rw [h1, h.2 h1]
    · rw [beq_eq_false_iff_ne.2 h1, beq_eq_false_iff_ne.2 (fun h2 => h1 (h.1 h2))]
  · unfold opR
    by_cases h1 : opE c1 c2 S = 0
    · rw [if_pos h1, if_pos (h.2 h1)]
    · rw [if_neg h1, if_neg (fun h2 => h1 (h.1 h2))]
theorem ok4_all {a b c d : Int} (h : ok4 a b c d = true) : a = 0 ∧ b = 0 ∧ c = 0 ∧ d = 0 := by
  unfold ok4 at h; simp [and_assoc] at h; exact h
theorem ok5_all {a b c d e : Int} (h : ok5 a b c d e = true) : a = 0 ∧ b = 0 ∧ c = 0 ∧ d = 0 ∧ e = 0 := by
  unfold ok5 at h; simp [and_assoc] at h; exact h
theorem same_true {d1 d2 : D} (hs : sameB d1 d2 = true) (v1 v2 : Value) (w : World) (h1 : DV w v1 d1) (h2 : DV w v2 d2) :
    Calls Tryd.prog 14 #[v1, v2] w fun r w' => r = .returned (.bool true) ∧ Below w.heap.size w w' := by
  have := same_any v1 v2 d1 d2 w h1 h2
  rw [hs] at this; exact this

end Go.Proofs.YtmpdbmaokbhcjaaDoor
