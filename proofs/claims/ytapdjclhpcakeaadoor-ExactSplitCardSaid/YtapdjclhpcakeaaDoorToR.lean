/-
  round.To of what is handed in, or told; the rank of a rounded number and the order.
-/
import Derived.Test.YtapdjclhpcakeaaDoorRd
import Derived.Test.YtapdjclhpcakeaaDoorTo
import Derived.Test.YtapdjclhpcakeaaDoorFrk
import Derived.Test.YtapdjclhpcakeaaDoorBa
set_option linter.unusedVariables false
set_option linter.unusedSimpArgs false
namespace Go.Proofs.YtapdjclhpcakeaaDoor
open Go.RowKit Nt Fm Fl

theorem roE_zero {c mode : Int} (h : roE c mode = 0) : c = 0 ∧ 0 ≤ mode ∧ mode ≤ 4 := by
  unfold roE at h
  split at h
  · split at h
    · omega
    · exact ⟨by assumption, by omega, by omega⟩
  · contradiction
theorem roV_zero {c mode : Int} (d : D) (h : roE c mode = 0) : roV c mode d = numR d mode ∧ roC c mode d = numC d := by
  unfold roV roC; rw [if_pos h, if_pos h]; exact ⟨rfl, rfl⟩
theorem roV_bd (c mode : Int) (d : D) : 0 ≤ roV c mode d ∧ roV c mode d ≤ 18446744073709551615 := by
  unfold roV
  split
  · have := numk_le_MR (kd d.neg mode) d.m d.e
    have hMR : MR = 9218868437227405312 := rfl
    unfold numR; split <;> omega
  · omega
theorem sg_vl (d : D) (t : Nat) : sg t d.neg d.m d.e = d.vl (1074 + t) := by
  unfold sg D.vl D.sm tt
  rw [show d.e + 1074 + (t : Int) = d.e + ((1074 + t : Nat) : Int) by omega]
  cases d.neg <;> simp [Int.neg_mul]
theorem rank_mono {c d : D} (mode : Int) (h : cmp c d ≤ 0) : frank (numR c mode) ≤ frank (numR d mode) := by
  rw [(rank_numR _ _).1, (rank_numR _ _).1]
  obtain ⟨t, h1, h2⟩ := exT (c.e + 1074) (d.e + 1074)
  refine rg_mono h1 h2 mode ?_
  have k1 : 0 ≤ c.e + ((1074 + t : Nat) : Int) := by omega
  have k2 : 0 ≤ d.e + ((1074 + t : Nat) : Int) := by omega
  rw [sg_vl c t, sg_vl d t]
  exact (cmp_le k1 k2).1 h
end Go.Proofs.YtapdjclhpcakeaaDoor
