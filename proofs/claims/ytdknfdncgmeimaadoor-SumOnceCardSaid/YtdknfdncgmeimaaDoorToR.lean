/-
  round.To of what is handed in, or told; the rank of a rounded number and the order.
-/
import Derived.Test.YtdknfdncgmeimaaDoorRd
import Derived.Test.YtdknfdncgmeimaaDoorTo
import Derived.Test.YtdknfdncgmeimaaDoorFrk
import Derived.Test.YtdknfdncgmeimaaDoorBa
set_option linter.unusedVariables false
set_option linter.unusedSimpArgs false
namespace Go.Proofs.YtdknfdncgmeimaaDoor
open Go.RowKit Nt Fm Fl

theorem to_rd (v : Value) (c : Int) (d : D) (mode : Int) (w : World) (h : RD w v c d) (m0 : -9223372036854775808 ≤ mode) (m1 : mode ≤ 9223372036854775807) :
    Calls Tryd.prog 27 #[v, .int .i64 mode] w fun r w' => r = .returned (.tuple #[.int .u64 (roV c mode d), .bool (roC c mode d), .int .i64 (roE c mode)]) ∧ Below w.heap.size w w' := by
  obtain ⟨g, ao, n, cp, x, rfl, h2, h3, ⟨l, rfl, h5, rfl⟩, h7, -⟩ := h
  have := to_any _ g l x mode w ⟨_, rfl, h5⟩ m0 m1
  by_cases hc : chkE g l x = 0
  · obtain ⟨h8, rfl, rfl, -⟩ := h7 hc
    have hv : val l = d.m := (h5.nrm (chkE_form h5.1 hc).1).inj h8
    have hd : (⟨d.neg, val l, d.e⟩ : D) = d := by rw [hv]
    rw [hd] at this; exact this
  · have e1 : ∀ d', roV (chkE g l x) mode d' = 0 := fun d' => by unfold roV roE; rw [if_neg hc, if_neg hc]
    have e2 : ∀ d', roC (chkE g l x) mode d' = false := fun d' => by unfold roC roE; rw [if_neg hc, if_neg hc]
    rw [e1, e2] at this ⊢; exact this
theorem roE_zero {c mode : Int} (h : roE c mode = 0) : c = 0 ∧ 0 ≤ mode ∧ mode ≤ 4 := by
  unfold roE at h
  split at h
  · split at h
    · omega
    · exact ⟨by assumption, by omega, by omega⟩
  · contradiction
theorem roV_zero {c mode : Int} (d : D) (h : roE c mode = 0) : roV c mode d = numR d mode ∧ roC c mode d = numC d := by
  unfold roV roC; rw [if_pos h, if_pos h]; exact ⟨rfl, rfl⟩
theorem roV_bd (c mode : Int) (d : D) : 0 ≤ roV c mode d ∧ roV c mode d ≤ 18446744073709551615 := by
  unfold roV
  split
  · have := numk_le_MR (kd d.neg mode) d.m d.e
    have hMR : MR = 9218868437227405312 := rfl
    unfold numR; split <;> omega
  · omega
theorem sg_vl (d : D) (t : Nat) : sg t d.neg d.m d.e = d.vl (1074 + t) := by
  unfold sg D.vl D.sm tt
  rw [show d.e + 1074 + (t : Int) = d.e + ((1074 + t : Nat) : Int) by omega]
  cases d.neg <;> simp [Int.neg_mul]
theorem rank_mono {c d : D} (mode : Int) (h : cmp c d ≤ 0) : frank (numR c mode) ≤ frank (numR d mode) := by
  rw [(rank_numR _ _).1, (rank_numR _ _).1]
  obtain ⟨t, h1, h2⟩ := exT (c.e + 1074) (d.e + 1074)
  refine rg_mono h1 h2 mode ?_
  have k1 : 0 ≤ c.e + ((1074 + t : Nat) : Int) := by omega
  have k2 : 0 ≤ d.e + ((1074 + t : Nat) : Int) := by omega
  rw [sg_vl c t, sg_vl d t]
  exact (cmp_le k1 k2).1 h
end Go.Proofs.YtdknfdncgmeimaaDoor
