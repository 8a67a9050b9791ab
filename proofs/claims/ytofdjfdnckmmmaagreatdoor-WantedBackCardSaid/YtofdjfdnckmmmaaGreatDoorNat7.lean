/-
  THE WALK of package nat: Len.
-/
import Derived.Test.YtofdjfdnckmmmaaGreatDoorNa
import Derived.Test.YtofdjfdnckmmmaaGreatDoorBits
set_option linter.unusedVariables false
set_option linter.unusedSimpArgs false
namespace Go.Proofs.YtofdjfdnckmmmaaGreatDoor
open Go.RowKit Nt

/-- the number of bits of a number -/
def blen (n : Nat) : Nat := if n = 0 then 0 else n.log2 + 1
theorem blen_uniq {m k : Nat} (h1 : 2 ^ k ≤ m) (h2 : m < 2 ^ (k + 1)) : blen m = k + 1 := by
  have h0 : m ≠ 0 := by have := Nat.two_pow_pos k; omega
  unfold blen; rw [if_neg h0, (Nat.log2_eq_iff h0).2 ⟨h1, h2⟩]
theorem libLen {x : Nat} (hx : x ≠ 0) (h1 : x < 4294967296) : ∃ j, j < 32 ∧ Lib.bitLen x = j + 1 ∧ 2 ^ j ≤ x ∧ x < 2 ^ (j + 1) := by
  have a := Nat.log2_self_le hx
  have b := @Nat.lt_log2_self x
  have hj : x.log2 < 32 := (Nat.log2_lt hx).2 (by omega)
  refine ⟨x.log2, hj, ?_, a, b⟩
  rw [Lib.bitLen_shift x.log2 x a (by omega)]
  have e : x / 2 ^ x.log2 = 1 := by
    have := Nat.two_pow_pos x.log2
    rw [Nat.pow_succ] at b
    apply Nat.div_eq_of_lt_le <;> omega
  rw [e]; rfl
theorem blen_limbs {l : List Nat} {n d : Nat} (hl : Nrm l) (hn : l.length = n + 1) (hd : d = l.getD n 0) : d ≠ 0 ∧ d < 4294967296 ∧ blen (val l) = 32 * n + Lib.bitLen d := by
  have h1 : d < 4294967296 := by rw [hd]; exact hl.1.getD n
  have e1 : l[n]'(by omega) = d := by rw [hd]; simp [List.getD, show n < l.length by omega]
  have h0 : d ≠ 0 := by
    intro h; apply hl.2
    rw [List.getLast?_eq_getElem?, show l.length - 1 = n by omega, List.getElem?_eq_getElem (by omega), e1, h]
  refine ⟨h0, h1, ?_⟩
  obtain ⟨j, hj, e, a, b⟩ := libLen h0 h1
  have hv := val_take_succ l n (by omega)
  rw [List.take_of_length_le (by omega), e1] at hv
  have ht := val_lt (hl.1.take n)
  rw [List.length_take, Nat.min_eq_left (by omega)] at ht
  rw [e, ← Nat.add_assoc]
  apply blen_uniq
  · rw [hv, Nat.pow_add]
    have := Nat.mul_le_mul_left (2 ^ (32 * n)) a
    omega
  · rw [hv, Nat.add_assoc, Nat.pow_add]
    have := Nat.mul_le_mul_left (2 ^ (32 * n)) (Nat.succ_le_of_lt b)
    rw [Nat.succ_eq_add_one, Nat.mul_add] at this
    omega

theorem natLen_any (va : Value) (a k0 : Nat) (w : World) (ha : NV w va a) (hka : a < 2 ^ k0) (hk0 : k0 ≤ 120000000000000) :
    Calls Tryz.prog 59 #[va] w fun e w' => e = .returned (.int .i64 (blen a)) ∧ w = w' := by
  obtain ⟨l, hl, el, ⟨-, aa, ca, rfl, hca, hma, hA⟩, hll⟩ := ha.len hka
  unfold maxLen at hma
  have EL := Lib.hid el
  clear ha hka el
  by_cases hl0 : l.length ≤ 0
  · have h0 : blen a = 0 := by rw [← EL.out, List.length_eq_zero_iff.1 (by omega : l.length = 0)]; rfl
    rw [h0]; clear h0 hA
    go_enter Tryz.func59, Tryz.ntmps59
    go_wp2
    go_ret
    exact ⟨rfl, rfl⟩
  · rcases hA with hP | ⟨bp, op, rfl, hbp, hcP⟩
    · exact absurd hP hl0
    obtain ⟨d, hd⟩ : ∃ d, d = l.getD (l.length - 1) 0 := ⟨_, rfl⟩
    obtain ⟨h1, h2, h3⟩ := blen_limbs hl (show l.length = (l.length - 1) + 1 by omega) hd
    rw [EL.out] at h3
    have hck := hcP (l.length - 1) (by omega)
    rw [← hd] at hck
    have hb := Lib.bitLen_le d 32 (by omega) (by omega)
    have hl1 : 0 < l.length := by omega
    have e3 : (blen a : Int) = 32 * (l.length : Int) - (32 - (Lib.bitLen d : Int)) := by omega
    rw [e3]
    clear hcP hd h3 e3 hl0
    go_enter Tryz.func59, Tryz.ntmps59
    go_wp2_with (go_at_call 97; refine (leading32_any _ (by omega) (by omega) _).mono ?_; rintro e w' ⟨rfl, rfl⟩)
    go_ret
    exact ⟨by simp, rfl⟩
end Go.Proofs.YtofdjfdnckmmmaaGreatDoor
