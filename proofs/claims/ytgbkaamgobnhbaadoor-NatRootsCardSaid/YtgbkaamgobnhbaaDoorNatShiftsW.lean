/-
  THE WALK of the law NatShifts.
-/
import Derived.Test.YtgbkaamgobnhbaaDoorNatRingW
set_option linter.unusedVariables false
set_option linter.unusedSimpArgs false
namespace Go.Proofs.YtgbkaamgobnhbaaDoor
open Go.RowKit Nt Fm

theorem nv_nil0 {w : World} {v : Value} (h : NV w v 0) : ∃ (ao : Option Addr) (c : Nat), v = .slice ao 0 c := by
  obtain ⟨ao, n, c, rfl, -, -, h3⟩ := nv_len h
  rcases h3 with ⟨-, rfl⟩ | ⟨h4, -⟩
  · exact ⟨ao, c, rfl⟩
  · exact absurd rfl h4
theorem blen_shift {a n : Nat} (h : a ≠ 0) : blen (a * 2 ^ n) = blen a + n := by
  obtain ⟨k, hk⟩ : ∃ k, k = a.log2 := ⟨_, rfl⟩
  have h1 : 2 ^ k ≤ a := by rw [hk]; exact Nat.log2_self_le h
  have h2 : a < 2 ^ (k + 1) := by rw [hk]; exact Nat.lt_log2_self
  have e1 : blen a = k + 1 := blen_uniq h1 h2
  have e2 : blen (a * 2 ^ n) = (k + n) + 1 := by
    apply blen_uniq
    · rw [Nat.pow_add]; exact Nat.mul_le_mul_right _ h1
    · rw [show k + n + 1 = (k + 1) + n by omega, Nat.pow_add]; exact Nat.mul_lt_mul_of_pos_right h2 (Nat.two_pow_pos _)
  rw [e1, e2]; omega
theorem lost_up (a n : Nat) : lostB (a * 2 ^ n) n = false := by unfold lostB; simp
theorem sh_err {c n : Int} (h : shE c n ≠ 0) : (shE c n == 0) = false := by rw [beq_eq_false_iff_ne]; exact h
end Go.Proofs.YtgbkaamgobnhbaaDoor
