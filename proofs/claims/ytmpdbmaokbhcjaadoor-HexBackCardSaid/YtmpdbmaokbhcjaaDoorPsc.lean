/-
  SOME OF MY TEXTS in one: Pw Sc. Each says what it proves.
-/
import Derived.Test.YtmpdbmaokbhcjaaDoorNa
import Derived.Test.YtmpdbmaokbhcjaaDoorBd
import Derived.Test.YtmpdbmaokbhcjaaDoorDk
import Derived.Test.YtmpdbmaokbhcjaaDoorDa
import Derived.Test.YtmpdbmaokbhcjaaDoorOv
set_option linter.unusedVariables false
set_option linter.unusedSimpArgs false
/-
  THE WALK of nat.Pow.
-/
namespace Go.Proofs.YtmpdbmaokbhcjaaDoor
open Go.RowKit Nt

/-- where the loop stands: o times x^k is b^n -/
def PwI (o x k b n k0 : Nat) : Prop := o * x ^ k = b ^ n ∧ 0 < o ∧ 0 < x ∧ o < 2 ^ k0 ∧ (k ≠ 0 → x < 2 ^ k0)
theorem PwI.start {b n k0 : Nat} (hb : 0 < b) (h : b ^ n < 2 ^ k0) : PwI 1 b n b n k0 := by
  have h1 : 0 < b ^ n := Nat.pow_pos hb
  refine ⟨Nat.one_mul _, by omega, hb, by omega, fun hn => ?_⟩
  exact Nat.lt_of_le_of_lt (Nat.le_self_pow hn b) h
theorem PwI.step {o x k b n k0 : Nat} (h : PwI o x k b n k0) (hk : k ≠ 0) (hl : b ^ n < 2 ^ k0) : PwI (if k % 2 = 1 then o * x else o) (x * x) (k / 2) b n k0 := by
  obtain ⟨h1, h2, h3, h4, h5⟩ := h
  have e : (if k % 2 = 1 then o * x else o) * (x * x) ^ (k / 2) = b ^ n := by
    rw [← h1, ← Nat.pow_two, ← Nat.pow_mul]
    split
    · rename_i hk1
      rw [Nat.mul_assoc, ← Nat.pow_succ', show (2 * (k / 2)).succ = k by omega]
    · rw [show 2 * (k / 2) = k by omega]
  have ho : 0 < (if k % 2 = 1 then o * x else o) := by split; exact Nat.mul_pos h2 h3; exact h2
  have hx : 0 < x * x := Nat.mul_pos h3 h3
  refine ⟨e, ho, hx, ?_, fun hk2 => ?_⟩
  · have : (if k % 2 = 1 then o * x else o) * 1 ≤ (if k % 2 = 1 then o * x else o) * (x * x) ^ (k / 2) := Nat.mul_le_mul_left _ (Nat.pow_pos hx)
    omega
  · have h6 : 1 * (x * x) ≤ (if k % 2 = 1 then o * x else o) * (x * x) ^ (k / 2) := Nat.mul_le_mul ho (Nat.le_self_pow hk2 _)
    omega
theorem PwI.fin {o x b n k0 : Nat} (h : PwI o x 0 b n k0) : o = b ^ n := by have := h.1; simpa using this
end Go.Proofs.YtmpdbmaokbhcjaaDoor

/-
  THE WALKS of decimal.scaled, (*ratio).round.
-/
namespace Go.Proofs.YtmpdbmaokbhcjaaDoor
open Go.RowKit Nt Fm Fl

theorem ten_lt (n : Nat) : 10 ^ n < 2 ^ (4 * n + 1) := by
  have h : 10 ^ n ≤ 16 ^ n := Nat.pow_le_pow_left (by omega) n
  rw [show (16 : Nat) = 2 ^ 4 by decide, ← Nat.pow_mul] at h
  rw [Nat.pow_succ]
  have := Nat.two_pow_pos (4 * n)
  omega
theorem dN_lt (d : D) (t : Int) {kd : Nat} (h : d.m < 2 ^ kd) : d.m * 10 ^ t.toNat < 2 ^ (kd + (4 * t.toNat + 1)) ∧ dN d t < 2 ^ (kd + (4 * t.toNat + 1) + d.e.toNat) := by
  have h1 : d.m * 10 ^ t.toNat < 2 ^ (kd + (4 * t.toNat + 1)) := by
    rw [Nat.pow_add]
    exact Nat.mul_lt_mul_of_lt_of_le h (Nat.le_of_lt (ten_lt _)) (Nat.two_pow_pos _)
  refine ⟨h1, ?_⟩
  unfold dN
  rw [Nat.pow_add 2 _ d.e.toNat]
  exact Nat.mul_lt_mul_of_pos_right h1 (Nat.two_pow_pos _)
end Go.Proofs.YtmpdbmaokbhcjaaDoor
