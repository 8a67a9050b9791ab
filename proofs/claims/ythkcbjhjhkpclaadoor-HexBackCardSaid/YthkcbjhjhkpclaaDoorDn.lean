/-
  PLAIN: decimals: what a number is to so many places, turned, of more, to all its places; the digits of a number.
-/
import Derived.Test.YthkcbjhjhkpclaaDoorDm
import Derived.Test.YthkcbjhjhkpclaaDoorBh
set_option linter.unusedVariables false
set_option linter.unusedSimpArgs false
namespace Go.Proofs.YthkcbjhjhkpclaaDoor
open Nt Fm Fl

/-- a number times 10^t, above -/
def dN (d : D) (t : Int) : Nat := d.m * 10 ^ t.toNat * 2 ^ d.e.toNat
/-- .. below -/
def dD (d : D) (t : Int) : Nat := 10 ^ (-t).toNat * 2 ^ (-d.e).toNat
theorem dD_pos (d : D) (t : Int) : 0 < dD d t := Nat.mul_pos (Nat.pow_pos (by omega)) (Nat.two_pow_pos _)
/-- a number times 10^t, rounded -/
def dQ (d : D) (t mode : Int) : Nat := rq d.neg (dN d t) (dD d t) mode
def dC (d : D) (t : Int) : Bool := rc (dN d t) (dD d t)
theorem dQ_zero {d : D} (h : d.m = 0) (t mode : Int) : dQ d t mode = 0 := by
  unfold dQ dN rq; rw [h]; simp
theorem dQ_opp (d : D) (t mode other : Int) (h : (mode = 1 ∧ other = 2) ∨ (mode = 2 ∧ other = 1) ∨ (mode ≠ 1 ∧ mode ≠ 2 ∧ other = mode)) : dQ (opp d) t other = dQ d t mode := by
  by_cases hm : d.m = 0
  · rw [dQ_zero hm, dQ_zero (d := opp d) hm]
  · unfold dQ
    have : (opp d).neg = !d.neg := by unfold opp; simp [hm]
    rw [this]
    exact rq_turned d.neg _ _ _ _ h
theorem dC_opp (d : D) (t : Int) : dC (opp d) t = dC d t := rfl
theorem cross {m m' : Nat} {e e' : Int} (K : Nat) (h1 : 0 ≤ e + K) (h2 : 0 ≤ e' + K) (h : m * 2 ^ (e + K).toNat ≤ m' * 2 ^ (e' + K).toNat) : m * 2 ^ e.toNat * 2 ^ (-e').toNat ≤ m' * 2 ^ e'.toNat * 2 ^ (-e).toNat := by
  have h3 := Nat.mul_le_mul_right (2 ^ ((-e).toNat + (-e').toNat)) h
  rw [Nat.mul_assoc, Nat.mul_assoc, ← Nat.pow_add, ← Nat.pow_add] at h3
  rw [Nat.mul_assoc, Nat.mul_assoc, ← Nat.pow_add, ← Nat.pow_add]
  rw [show (e + K).toNat + ((-e).toNat + (-e').toNat) = e.toNat + (-e').toNat + K by omega, show (e' + K).toNat + ((-e).toNat + (-e').toNat) = e'.toNat + (-e).toNat + K by omega, Nat.pow_add, Nat.pow_add 2 (e'.toNat + _), ← Nat.mul_assoc, ← Nat.mul_assoc] at h3
  exact Nat.le_of_mul_le_mul_right h3 (Nat.two_pow_pos K)
theorem dQ_mono {d d' : D} (K : Nat) (h1 : 0 ≤ d.e + K) (h2 : 0 ≤ d'.e + K) (h : d.m * 2 ^ (d.e + K).toNat ≤ d'.m * 2 ^ (d'.e + K).toNat) (g : d.neg = false) (g' : d'.neg = false) (t mode : Int) : dQ d t mode ≤ dQ d' t mode := by
  unfold dQ
  rw [g, g']
  apply rq_mono (dD_pos _ _) (dD_pos _ _)
  have hc := cross K h1 h2 h
  unfold dN dD
  have e1 : d.m * 10 ^ t.toNat * 2 ^ d.e.toNat * (10 ^ (-t).toNat * 2 ^ (-d'.e).toNat) = d.m * 2 ^ d.e.toNat * 2 ^ (-d'.e).toNat * (10 ^ t.toNat * 10 ^ (-t).toNat) := by
    simp only [Nat.mul_assoc, Nat.mul_comm, Nat.mul_left_comm]
  have e2 : d'.m * 10 ^ t.toNat * 2 ^ d'.e.toNat * (10 ^ (-t).toNat * 2 ^ (-d.e).toNat) = d'.m * 2 ^ d'.e.toNat * 2 ^ (-d.e).toNat * (10 ^ t.toNat * 10 ^ (-t).toNat) := by
    simp only [Nat.mul_assoc, Nat.mul_comm, Nat.mul_left_comm]
  rw [e1, e2]
  exact Nat.mul_le_mul_right _ hc
theorem dNorm_turned (neg : Bool) (m : Nat) (e : Int) : norm (!neg) m e = opp (norm neg m e) := by
  unfold norm
  by_cases h : m = 0
  · rw [if_pos h, if_pos h]; rfl
  · rw [if_neg h, if_neg h]
    obtain ⟨q, h1, h2⟩ := ctz_spec h
    have hp := Nat.two_pow_pos (ctz m)
    have : m / 2 ^ ctz m = q := by
      conv => lhs; arg 1; rw [h1]
      exact Nat.mul_div_cancel _ hp
    rw [this]
    unfold opp
    simp only
    rw [decide_eq_true (show q ≠ 0 by omega), Bool.and_true]
theorem dVal_fneg {x : Int} (x0 : 0 ≤ x) (x1 : x ≤ 18446744073709551615) : valD (fneg x) = opp (valD x) := by
  have h1 : fexp (fneg x) = fexp x := by unfold fexp fneg; split <;> omega
  have h2 : ffr (fneg x) = ffr x := by unfold ffr fneg; split <;> omega
  have h3 : fng (fneg x) = !fng x := by
    unfold fng
    by_cases h : 9223372036854775808 ≤ x
    · have : ¬ 9223372036854775808 ≤ fneg x := by unfold fneg; rw [if_pos h]; omega
      simp [h, this]
    · have : 9223372036854775808 ≤ fneg x := by unfold fneg; rw [if_neg h]; omega
      simp [h, this]
  unfold valD
  rw [h1, h2, h3, dNorm_turned]
theorem dHasV_fneg {x : Int} (x0 : 0 ≤ x) (x1 : x ≤ 18446744073709551615) : hasV (fneg x) = hasV x := by
  have : fabs (fneg x) = fabs x := by unfold fabs fneg; split <;> omega
  unfold hasV; rw [this]
theorem dVal_mag {x : Int} (x0 : 0 ≤ x) (x1 : x ≤ 18446744073709551615) (hv : hasV x = true) : mag (fabs x).toNat = (valD x).m * 2 ^ ((valD x).e + ((1074 : Nat) : Int)).toNat := by
  have hv' : fabs x < 9218868437227405312 := by unfold hasV at hv; simpa using hv
  rcases valD_tt x x0 x1 0 with h | h
  · unfold tt at h
    rw [Nat.pow_zero, Nat.mul_one] at h
    rw [← h]; simp
  · omega
/-- of what is more no less comes -/
theorem dQ_order {x y : Int} (x0 : 0 ≤ x) (y1 : y ≤ 18446744073709551615) (hx : hasV x = true) (hy : hasV y = true) (h : x ≤ y) (hs : y < 9223372036854775808) (t mode : Int) : dQ (valD x) t mode ≤ dQ (valD y) t mode := by
  have fx := valD_facts x x0 (by omega)
  have fy := valD_facts y (by omega) y1
  have gx : fng x = false := by unfold fng; rw [decide_eq_false_iff_not]; omega
  have gy : fng y = false := by unfold fng; rw [decide_eq_false_iff_not]; omega
  have g : ∀ z, (valD z).Nf → ((valD z).m ≠ 0 → (valD z).neg = fng z) → fng z = false → (valD z).neg = false := by
    intro z h1 h2 h3
    rcases h1 with h1 | h1
    · rw [h1]; rfl
    · rw [h2 (by omega), h3]
  refine dQ_mono 1074 (by omega) (by omega) ?_ (g x fx.1 fx.2.2.2.2 gx) (g y fy.1 fy.2.2.2.2 gy) t mode
  rw [← dVal_mag x0 (by omega) hx, ← dVal_mag (by omega) y1 hy]
  apply mag_mono
  have e1 : fabs x = x := by unfold fabs; omega
  have e2 : fabs y = y := by unfold fabs; omega
  omega
/-- the sign -/
def sgS (x : Int) : List UInt8 := if 9223372036854775808 ≤ x then [45] else []
/-- what Fixed tells: the error -/
def fxE (x places mode : Int) : Int := if hasV x = true then (if (0 ≤ mode ∧ mode ≤ 4) ∧ 0 ≤ places ∧ places ≤ 1100 then 0 else 1) else 4
/-- .. the text -/
def fxS (x places mode : Int) : List UInt8 := if fxE x places mode = 0 then sgS x ++ pt (Lib.decDigits (dQ (valD x) places mode)) places.toNat else []
/-- .. whether something is lost -/
def fxC (x places mode : Int) : Bool := decide (fxE x places mode = 0) && dC (valD x) places
theorem fxE_cases (x places mode : Int) : (hasV x = false ∧ fxE x places mode = 4) ∨ (hasV x = true ∧ ¬ ((0 ≤ mode ∧ mode ≤ 4) ∧ 0 ≤ places ∧ places ≤ 1100) ∧ fxE x places mode = 1) ∨ (hasV x = true ∧ ((0 ≤ mode ∧ mode ≤ 4) ∧ 0 ≤ places ∧ places ≤ 1100) ∧ fxE x places mode = 0) := by
  unfold fxE
  cases hasV x
  · left; simp
  · right
    by_cases h : (0 ≤ mode ∧ mode ≤ 4) ∧ 0 ≤ places ∧ places ≤ 1100
    · right; exact ⟨rfl, h, by rw [if_pos rfl, if_pos h]⟩
    · left; exact ⟨rfl, h, by rw [if_pos rfl, if_neg h]⟩
/-- with more places: noughts behind -/
theorem pad_more (k q : Nat) (hk : 1 ≤ k) : padK (k + 1) q = padK k (q / 10) ++ [UInt8.ofNat (48 + q % 10)] := by
  by_cases h : q < 10 ^ (k + 1)
  · exact pad_succ k q hk h
  · have h10 : 10 ≤ q := by
      have : 10 ^ 1 ≤ 10 ^ (k + 1) := Nat.pow_le_pow_right (by omega) (by omega)
      omega
    unfold padK
    rw [dec_big (by omega), List.length_append, List.length_singleton, ← List.append_assoc]
    rw [show k + 1 - ((Lib.decDigits (q / 10)).length + 1) = k - (Lib.decDigits (q / 10)).length by omega]
theorem pad_tens (k q : Nat) (hk : 1 ≤ k) : ∀ j, padK (k + j) (q * 10 ^ j) = padK k q ++ List.replicate j 48
  | 0 => by simp
  | j + 1 => by
    rw [show k + (j + 1) = k + j + 1 by omega, pad_more _ _ (by omega), Nat.pow_succ, ← Nat.mul_assoc, Nat.mul_div_cancel _ (by omega), Nat.mul_mod_left, pad_tens k q hk j, List.replicate_succ']
    simp
theorem dec_pad (q : Nat) : Lib.decDigits q = padK 1 q := by
  have := dec_len_pos q
  unfold padK
  rw [show 1 - (Lib.decDigits q).length = 0 by omega]; rfl
theorem pt_tens (q p j : Nat) : pt (Lib.decDigits (q * 10 ^ j)) (p + j) = pt (Lib.decDigits q) p ++ (if p = 0 ∧ 0 < j then [46] else []) ++ List.replicate j 48 := by
  rw [pt_pad, pt_pad]
  by_cases hj : j = 0
  · subst hj; simp
  · rw [if_neg (by omega), show p + j + 1 = p + 1 + j by omega, pad_tens (p + 1) q (by omega) j]
    have hl : (padK (p + 1) q ++ List.replicate j 48).length - (p + j) = (padK (p + 1) q).length - p := by
      have := padK_len (p + 1) q
      rw [List.length_append, List.length_replicate]; omega
    rw [hl, List.take_append_of_le_length (by omega), List.drop_append_of_le_length (by omega)]
    by_cases hp : p = 0
    · subst hp
      rw [if_pos rfl, if_pos ⟨rfl, by omega⟩, dec_pad q]
      simp
    · rw [if_neg hp, if_neg (by omega)]
      simp
/-- all the places of a number -/
def pl (d : D) : Nat := (-d.e).toNat
theorem ten_two (n : Nat) : 10 ^ n = 5 ^ n * 2 ^ n := by rw [← Nat.mul_pow]
theorem dN_nat (d : D) (p : Nat) : dN d (p : Int) = d.m * 10 ^ p * 2 ^ d.e.toNat := by unfold dN; rw [Int.toNat_natCast]
theorem dD_nat (d : D) (p : Nat) : dD d (p : Int) = 2 ^ pl d := by unfold dD pl; rw [show (-(p : Int)).toNat = 0 by omega, Nat.pow_zero, Nat.one_mul]
/-- the digits of it all -/
def qA (d : D) : Nat := d.m * 5 ^ pl d * 2 ^ d.e.toNat
theorem dN_more (d : D) (j : Nat) : dN d ((pl d + j : Nat) : Int) = qA d * 10 ^ j * 2 ^ pl d := by
  rw [dN_nat, Nat.pow_add, ten_two (pl d)]
  unfold qA
  simp only [Nat.mul_assoc, Nat.mul_comm, Nat.mul_left_comm]
theorem dQ_more (d : D) (j : Nat) (mode : Int) : dQ d ((pl d + j : Nat) : Int) mode = qA d * 10 ^ j ∧ dC d ((pl d + j : Nat) : Int) = false := by
  unfold dQ dC rq rc
  rw [dD_nat, dN_more, Nat.mul_mod_left, if_pos rfl, Nat.mul_div_cancel _ (Nat.two_pow_pos _)]
  simp
theorem odd_mul {a b : Nat} (ha : a % 2 = 1) (hb : b % 2 = 1) : a * b % 2 = 1 := by rw [Nat.mul_mod, ha, hb]
theorem five_odd : ∀ p, 5 ^ p % 2 = 1
  | 0 => rfl
  | p + 1 => by rw [Nat.pow_succ]; exact odd_mul (five_odd p) (by decide)
theorem dC_less {d : D} (hn : d.Nf) {p : Nat} (hp : p < pl d) : dC d (p : Int) = true := by
  have he : d.e.toNat = 0 := by unfold pl at hp; omega
  have hm : d.m % 2 = 1 := by
    rcases hn with hn | hn
    · subst hn; unfold pl nz at hp; simp at hp
    · exact hn
  unfold dC rc
  rw [dD_nat, dN_nat, he, Nat.pow_zero, Nat.mul_one, decide_eq_true_eq]
  intro h
  have h1 := Nat.dvd_of_mod_eq_zero h
  obtain ⟨j, hj⟩ : ∃ j, pl d = p + 1 + j := ⟨pl d - (p + 1), by omega⟩
  rw [hj, ten_two, ← Nat.mul_assoc, Nat.pow_add, Nat.pow_succ, Nat.mul_assoc (2 ^ p), Nat.mul_comm (d.m * 5 ^ p)] at h1
  have h2 := Nat.dvd_of_mul_dvd_mul_left (Nat.two_pow_pos p) h1
  have h3 : 2 ∣ d.m * 5 ^ p := Nat.dvd_trans ⟨2 ^ j, rfl⟩ h2
  have h4 := odd_mul hm (five_odd p)
  omega
/-- what Exact tells -/
def exS (x : Int) : List UInt8 := if hasV x = true then sgS x ++ pt (Lib.decDigits (qA (valD x))) (pl (valD x)) else []
def exE (x : Int) : Int := if hasV x = true then 0 else 4
end Go.Proofs.YthkcbjhjhkpclaaDoor
