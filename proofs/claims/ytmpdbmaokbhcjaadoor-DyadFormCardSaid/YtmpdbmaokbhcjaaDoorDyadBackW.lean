/-
  THE WALK of the law DyadBack.
-/
import Derived.Test.YtmpdbmaokbhcjaaDoorDyadOrderW
import Derived.Test.YtmpdbmaokbhcjaaDoorEx2
set_option linter.unusedVariables false
set_option linter.unusedSimpArgs false
namespace Go.Proofs.YtmpdbmaokbhcjaaDoor
open Go.RowKit Nt Fm Fl

theorem nv_zero {w : World} {ao : Option Addr} {n c : Nat} {m : Nat} (h : NV w (.slice ao n c) m) (hm : m = 0) : n = 0 := by
  obtain ⟨ao', n', c', h1, -, -, h2⟩ := nv_len h
  simp only [Value.slice.injEq] at h1
  omega
theorem opE_ne {c1 : Int} (c2 : Int) (S : D) (h : c1 ≠ 0) : opE c1 c2 S = c1 := by unfold opE; rw [if_neg h]
theorem shE_eq {n : Int} {S : D} (h : shE 0 n S = 0) : -20000 ≤ n ∧ n ≤ 20000 ∧ fitE S = 0 ∧ shR 0 n S = S := by
  have h' := h
  unfold shE at h
  rw [if_pos rfl] at h
  split at h
  · omega
  · refine ⟨by omega, by omega, h, ?_⟩
    unfold shR; rw [if_pos h']
theorem shE_of {n : Int} {S : D} (h0 : -20000 ≤ n) (h1 : n ≤ 20000) (hf : Fit S) : shE 0 n S = 0 ∧ shR 0 n S = S := by
  have e : shE 0 n S = 0 := by unfold shE; rw [if_pos rfl, if_neg (by omega)]; exact fitE_of hf
  exact ⟨e, by unfold shR; rw [if_pos e]⟩
theorem shR_fit {c n : Int} {S : D} (h : S.Nf) : Fit (shR c n S) := by
  unfold shR
  split
  · rename_i h1
    unfold shE at h1
    split at h1
    · split at h1
      · omega
      · exact fitE_fit h h1
    · contradiction
  · exact Fit.nz

end Go.Proofs.YtmpdbmaokbhcjaaDoor
