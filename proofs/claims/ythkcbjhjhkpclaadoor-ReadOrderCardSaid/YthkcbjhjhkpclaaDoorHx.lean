/-
  PLAIN: hexadecimal digits of a number; what hex.write tells.
-/
import Derived.Test.YthkcbjhjhkpclaaDoorDk
import Derived.Test.YthkcbjhjhkpclaaDoorNat7
set_option linter.unusedVariables false
set_option linter.unusedSimpArgs false
namespace Go.Proofs.YthkcbjhjhkpclaaDoor
open Nt Fm Fl

/-- a digit in sixteens -/
def hexd (v : Nat) : UInt8 := if v < 10 then UInt8.ofNat (48 + v) else UInt8.ofNat (87 + v)
/-- so many digits of a number, the last ones -/
def hxD (M : Nat) : Nat → List UInt8
  | 0 => []
  | k + 1 => hexd (M / 16 ^ k % 16) :: hxD M k
theorem hxD_len (M : Nat) : ∀ k, (hxD M k).length = k
  | 0 => rfl
  | k + 1 => by rw [hxD, List.length_cons, hxD_len M k]
/-- what stands ahead -/
def hxP (x : Int) : List UInt8 := if 9223372036854775808 ≤ x then [45, 48, 120] else [48, 120]
/-- an exponent -/
def hxE (p : Int) : List UInt8 := (if 0 ≤ p then [112, 43] else [112]) ++ Lib.itoa p
/-- the exponent of the first digit -/
def hxp (d : D) : Int := blen d.m + d.e - 1
/-- what write tells of a number -/
def hxW (x : Int) (d : D) (places : Nat) : List UInt8 :=
  hxP x ++ (if d.m = 0 then [48] ++ (if 0 < places then [46] ++ List.replicate places 48 else []) ++ [112, 43, 48]
    else [49] ++ (if 0 < places then [46] else []) ++ hxD (d.m * 2 ^ (4 * places - (blen d.m - 1))) places ++ hxE (hxp d))
/-- a limb's part -/
theorem limb_nibble {l : List Nat} (hl : Lims l) (k : Nat) : val l / 16 ^ k % 16 = (l.getD (k / 8) 0) / 2 ^ (4 * (k % 8)) % 16 := by
  have e16 : (16 : Nat) ^ k = 2 ^ (32 * (k / 8)) * 2 ^ (4 * (k % 8)) := by
    rw [← Nat.pow_add, show (16 : Nat) = 2 ^ 4 by decide, ← Nat.pow_mul]; congr 1; omega
  rw [e16, ← Nat.div_div_eq_div_mul]
  have hs : 4 * (k % 8) ≤ 28 := by omega
  generalize 4 * (k % 8) = s at *
  generalize k / 8 = j at *
  have h1 : val l / 2 ^ (32 * j) = val (l.drop j) := by
    have := val_take_drop l j
    by_cases hj : j ≤ l.length
    · have h2 := val_take_drop l j hj
      have h3 := val_lt (fun d hd => hl d (List.mem_of_mem_take hd) : Lims (l.take j))
      rw [List.length_take, Nat.min_eq_left hj] at h3
      rw [h2, Nat.add_comm, Nat.mul_add_div (Nat.two_pow_pos _), Nat.div_eq_of_lt h3, Nat.add_zero]
    · have h3 := val_lt hl
      rw [List.drop_of_length_le (by omega)]
      exact Nat.div_eq_of_lt (Nat.lt_of_lt_of_le h3 (Nat.pow_le_pow_right (by omega) (by omega)))
  rw [h1]
  cases hd : l.drop j with
  | nil =>
    have : l.getD j 0 = 0 := by
      have : l.length ≤ j := by
        exact List.drop_eq_nil_iff.1 hd
      simp [List.getD, List.getElem?_eq_none this]
    rw [this]; simp [val]
  | cons d r =>
    have hj : j < l.length := by
      rcases Nat.lt_or_ge j l.length with h | h
      · exact h
      · rw [List.drop_of_length_le h] at hd; simp at hd
    have hdd : l.getD j 0 = d := by
      rw [List.drop_eq_getElem_cons hj] at hd
      simp only [List.cons.injEq] at hd
      simp [List.getD, hj, hd.1]
    rw [hdd]
    simp only [val]
    have e32 : (4294967296 : Nat) = 2 ^ s * (2 ^ (28 - s) * 16) := by
      rw [← Nat.mul_assoc, ← Nat.pow_add, show s + (28 - s) = 28 by omega]
    rw [e32, Nat.mul_assoc, Nat.add_comm d, Nat.mul_add_div (Nat.two_pow_pos _), Nat.mul_assoc, Nat.mul_left_comm (2 ^ (28 - s)), Nat.mul_add_mod]
end Go.Proofs.YthkcbjhjhkpclaaDoor
