/-
  PLAIN: the digits of a number, nine at a time.
-/
import Derived.Lib.ItoaNum
import Derived.Lib.Join
import Derived.Lib.Repeat
set_option linter.unusedVariables false
set_option linter.unusedSimpArgs false
namespace Go.Proofs.YtofdjfdnckmmmaaGreatDoor

/-- no digits for 0 -/
def decN (n : Nat) : List UInt8 := if n = 0 then [] else Lib.decDigits n
/-- so many digits -/
def padK (k r : Nat) : List UInt8 := List.replicate (k - (Lib.decDigits r).length) 48 ++ Lib.decDigits r
theorem dec_small {r : Nat} (h : r < 10) : Lib.decDigits r = [UInt8.ofNat (48 + r)] := by rw [Lib.decDigits, dif_pos h]
theorem dec_big {r : Nat} (h : ¬ r < 10) : Lib.decDigits r = Lib.decDigits (r / 10) ++ [UInt8.ofNat (48 + r % 10)] := by
  conv => lhs; rw [Lib.decDigits, dif_neg h]
theorem dec_len_pos (r : Nat) : 1 ≤ (Lib.decDigits r).length := by
  by_cases h : r < 10
  · rw [dec_small h]; simp
  · rw [dec_big h]; simp
theorem dec_len_le : ∀ (k r : Nat), 1 ≤ k → r < 10 ^ k → (Lib.decDigits r).length ≤ k
  | 0, r, h, _ => by omega
  | 1, r, _, h => by rw [dec_small (by simpa using h)]; simp
  | k + 2, r, _, h => by
    by_cases hr : r < 10
    · rw [dec_small hr]; simp
    · rw [dec_big hr]
      have := dec_len_le (k + 1) (r / 10) (by omega) (by rw [Nat.div_lt_iff_lt_mul (by omega), ← Nat.pow_succ]; exact h)
      simp; omega
theorem pad_zero : ∀ k, 1 ≤ k → padK k 0 = List.replicate k 48
  | k + 1, _ => by
    unfold padK
    rw [dec_small (by omega)]
    simp [List.replicate_succ']
theorem pad_succ (k r : Nat) (hk : 1 ≤ k) (hr : r < 10 ^ (k + 1)) : padK (k + 1) r = padK k (r / 10) ++ [UInt8.ofNat (48 + r % 10)] := by
  by_cases h : r < 10
  · rw [Nat.div_eq_of_lt h, pad_zero k hk]
    unfold padK
    rw [dec_small h, Nat.mod_eq_of_lt h]
    simp
  · unfold padK
    rw [dec_big h]
    rw [List.length_append, List.length_singleton, ← List.append_assoc]
    rw [show k + 1 - ((Lib.decDigits (r / 10)).length + 1) = k - (Lib.decDigits (r / 10)).length by omega]
theorem dec_split : ∀ (k q r : Nat), 1 ≤ k → 0 < q → r < 10 ^ k → Lib.decDigits (q * 10 ^ k + r) = Lib.decDigits q ++ padK k r
  | 0, q, r, h, _, _ => by omega
  | 1, q, r, _, hq, hr => by
    have hr' : r < 10 := by simpa using hr
    rw [dec_big (by omega)]
    rw [show (q * 10 ^ 1 + r) / 10 = q by omega, show (q * 10 ^ 1 + r) % 10 = r by omega]
    unfold padK
    rw [dec_small hr']; simp
  | k + 2, q, r, _, hq, hr => by
    have h10 : 0 < 10 ^ (k + 1) := Nat.pow_pos (by omega)
    have e : 10 ^ (k + 2) = 10 ^ (k + 1) * 10 := Nat.pow_succ ..
    have hr2 : r / 10 < 10 ^ (k + 1) := by rw [Nat.div_lt_iff_lt_mul (by omega), ← e]; exact hr
    have big : 10 ≤ q * 10 ^ (k + 2) := by
      rw [e]
      have : 1 * (1 * 10) ≤ q * (10 ^ (k + 1) * 10) := Nat.mul_le_mul hq (Nat.mul_le_mul h10 (Nat.le_refl _))
      omega
    rw [dec_big (by omega)]
    have e1 : (q * 10 ^ (k + 2) + r) / 10 = q * 10 ^ (k + 1) + r / 10 := by
      rw [e, ← Nat.mul_assoc, Nat.mul_comm _ 10, Nat.mul_add_div (by omega)]
    have e2 : (q * 10 ^ (k + 2) + r) % 10 = r % 10 := by
      rw [e, ← Nat.mul_assoc, Nat.mul_comm _ 10, Nat.mul_add_mod]
    rw [e1, e2, dec_split (k + 1) q (r / 10) (by omega) hq hr2, pad_succ (k + 1) r (by omega) hr, List.append_assoc]
/-- the piece that one round lays -/
def pcD (n : Nat) : List UInt8 := if n / 1000000000 = 0 then Lib.decDigits (n % 1000000000) else padK 9 (n % 1000000000)
theorem pcD_len (n : Nat) : (pcD n).length ≤ 9 := by
  have h := dec_len_le 9 (n % 1000000000) (by omega) (by have := Nat.mod_lt n (show 1000000000 > 0 by omega); simpa using this)
  unfold pcD
  split
  · exact h
  · unfold padK; simp; omega
theorem decN_step (n : Nat) (hn : n ≠ 0) : decN n = decN (n / 1000000000) ++ pcD n := by
  unfold decN pcD
  rw [if_neg hn]
  have hdm := Nat.div_add_mod n 1000000000
  have hr := Nat.mod_lt n (show 1000000000 > 0 by omega)
  by_cases h : n / 1000000000 = 0
  · rw [if_pos h, if_pos h, List.nil_append]
    rw [h] at hdm
    rw [show n % 1000000000 = n by omega]
  · rw [if_neg h, if_neg h]
    rw [← dec_split 9 _ _ (by omega) (by omega) (by simpa using hr)]
    congr 1
    rw [show (10 : Nat) ^ 9 = 1000000000 by decide]; omega
theorem join_flat : ∀ l : List (List UInt8), Lib.join l [] = l.flatten
  | [] => rfl
  | [x] => by simp [Lib.join, List.intercalate]
  | x :: y :: l => by
    have := join_flat (y :: l)
    rw [Lib.join_cons]
    unfold Lib.joinTail
    simp
theorem rep_flat (k : Nat) : Lib.repeatL [48] k = List.replicate k 48 := by
  have := Lib.repeatL_replicate 48 1 k
  simpa using this
theorem flat_len (ps : List (List UInt8)) (h : ∀ p ∈ ps, p.length ≤ 9) : ps.flatten.length ≤ 9 * ps.length := by
  induction ps with
  | nil => simp
  | cons p ps ih =>
    have h1 := h p (by simp)
    have h2 := ih (fun q hq => h q (by simp [hq]))
    simp only [List.flatten_cons, List.length_append, List.length_cons]; omega
end Go.Proofs.YtofdjfdnckmmmaaGreatDoor
