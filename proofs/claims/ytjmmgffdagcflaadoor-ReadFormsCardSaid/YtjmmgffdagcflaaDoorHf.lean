/-
  THE WALKS of hex.Fixed, hex.Text.
-/
import Derived.Test.YtjmmgffdagcflaaDoorLk
import Derived.Test.YtjmmgffdagcflaaDoorBh
import Derived.Deep.RegionHeld3
set_option linter.unusedVariables false
set_option linter.unusedSimpArgs false
namespace Go.Proofs.YtjmmgffdagcflaaDoor
open Go.RowKit Nt Fm Fl

theorem blen_le_iff {n k : Nat} : blen n ≤ k ↔ n < 2 ^ k := ⟨fun h => Nat.lt_of_lt_of_le (lt_blen n) (Nat.pow_le_pow_right (by omega) h), blen_le_of⟩
/-- what Fixed cuts a number to -/
def hfD (x : Int) (places : Nat) (mode : Int) : D := mulD (valD x) (hxp (valD x) - 4 * (places : Int)) mode
def hfC0 (x : Int) (places : Nat) : Bool := mulC (valD x) (hxp (valD x) - 4 * (places : Int))
theorem norm_m_le (neg : Bool) (m : Nat) (e : Int) : (norm neg m e).m ≤ m := by
  unfold norm; split
  · exact Nat.zero_le _
  · exact Nat.div_le_self _ _
theorem norm_pow (neg : Bool) (k : Nat) (e : Int) : (norm neg (2 ^ k) e).m = 1 := by
  unfold norm
  have hp := Nat.two_pow_pos k
  rw [if_neg (by omega)]
  obtain ⟨q, h1, h2⟩ := ctz_spec (show 2 ^ k ≠ 0 by omega)
  generalize ctz (2 ^ k) = c at *
  show 2 ^ k / 2 ^ c = 1
  rcases Nat.lt_trichotomy c k with h | h | h
  · obtain ⟨j, rfl⟩ : ∃ j, k = c + (j + 1) := ⟨k - c - 1, by omega⟩
    rw [Nat.pow_add, Nat.mul_comm] at h1
    have := Nat.eq_of_mul_eq_mul_right (Nat.two_pow_pos c) h1
    rw [Nat.pow_succ] at this; omega
  · subst h; exact Nat.div_self hp
  · obtain ⟨j, rfl⟩ : ∃ j, c = k + (j + 1) := ⟨c - k - 1, by omega⟩
    rw [Nat.pow_add, Nat.pow_succ] at h1
    have h3 : q * (2 ^ j * 2) * 2 ^ k = 1 * 2 ^ k := by rw [Nat.one_mul, Nat.mul_assoc, Nat.mul_comm (2 ^ j * 2)]; exact h1.symm
    have := Nat.eq_of_mul_eq_mul_right hp h3
    rw [← Nat.mul_assoc] at this; omega
/-- what is cut so has room in so many digits -/
theorem hf_fit {d : D} (places : Nat) (mode : Int) : blen (mulD d (hxp d - 4 * (places : Int)) mode).m ≤ 4 * places + 1 := by
  rw [blen_le_iff]
  have hb : d.m < 2 ^ blen d.m := lt_blen d.m
  unfold mulD hxp
  by_cases h : (blen d.m : Int) + d.e - 1 - 4 * (places : Int) ≤ d.e ∨ d.m = 0
  · rw [if_pos h]
    refine Nat.lt_of_le_of_lt (norm_m_le _ _ _) ?_
    rcases h with h | h
    · exact Nat.lt_of_lt_of_le hb (Nat.pow_le_pow_right (by omega) (by omega))
    · rw [h]; exact Nat.two_pow_pos _
  · rw [if_neg h]
    obtain ⟨k, hk⟩ : ∃ k : Nat, (blen d.m : Int) + d.e - 1 - 4 * (places : Int) - d.e = (k : Int) := ⟨((blen d.m : Int) + d.e - 1 - 4 * (places : Int) - d.e).toNat, by omega⟩
    have hk0 : 0 < k := by omega
    rw [hk]
    have hq : d.m / 2 ^ k < 2 ^ (4 * places + 1) := by
      rw [Nat.div_lt_iff_lt_mul (Nat.two_pow_pos _), ← Nat.pow_add]
      exact Nat.lt_of_lt_of_le hb (Nat.pow_le_pow_right (by omega) (by omega))
    have hc : cutM d.neg d.m (k : Int) mode ≤ 2 ^ (4 * places + 1) := by
      unfold cutM
      rw [if_neg (by omega), Int.toNat_natCast]
      split
      · omega
      · split <;> omega
    rcases Nat.lt_or_eq_of_le hc with h1 | h1
    · exact Nat.lt_of_le_of_lt (norm_m_le _ _ _) h1
    · rw [h1, norm_pow, Nat.pow_succ]
      have := Nat.two_pow_pos (4 * places)
      omega
/-- what Fixed tells: the error -/
def hfE (x places mode : Int) : Int := if hasV x = true then (if (0 ≤ mode ∧ mode ≤ 4) ∧ 0 ≤ places ∧ places ≤ 30 then 0 else 1) else 4
/-- .. the text -/
def hfS (x places mode : Int) : List UInt8 := if hfE x places mode = 0 then hxW x (hfD x places.toNat mode) places.toNat else []
/-- .. whether it was changed -/
def hfC (x places mode : Int) : Bool := decide (hfE x places mode = 0) && hfC0 x places.toNat
theorem hfE_cases (x places mode : Int) : (hasV x = false ∧ hfE x places mode = 4) ∨ (hasV x = true ∧ ¬ ((0 ≤ mode ∧ mode ≤ 4) ∧ 0 ≤ places ∧ places ≤ 30) ∧ hfE x places mode = 1) ∨ (hasV x = true ∧ ((0 ≤ mode ∧ mode ≤ 4) ∧ 0 ≤ places ∧ places ≤ 30) ∧ hfE x places mode = 0) := by
  unfold hfE
  cases hasV x
  · left; simp
  · right
    by_cases h : (0 ≤ mode ∧ mode ≤ 4) ∧ 0 ≤ places ∧ places ≤ 30
    · right; exact ⟨rfl, h, by rw [if_pos rfl, if_pos h]⟩
    · left; exact ⟨rfl, h, by rw [if_pos rfl, if_neg h]⟩
theorem mulD_bd {d : D} {k : Nat} (hm : d.m < 2 ^ k) (pl mode : Int) (e0 : -2500 ≤ d.e) (e1 : d.e ≤ 2500) (p0 : -2500 ≤ pl) (p1 : pl ≤ 2500) : (mulD d pl mode).m < 2 ^ (k + 1) ∧ -2500 ≤ (mulD d pl mode).e ∧ (mulD d pl mode).e ≤ 2500 + (k + 1) := by
  unfold mulD
  by_cases h : pl ≤ d.e ∨ d.m = 0
  · rw [if_pos h]
    obtain ⟨b1, b2⟩ := norm_bd d.neg d.e hm
    refine ⟨Nat.lt_of_le_of_lt b1 (Nat.lt_of_lt_of_le hm (Nat.pow_le_pow_right (by omega) (by omega))), ?_, ?_⟩
    · rcases b2 with b2 | b2
      · rw [b2]; show (-2500 : Int) ≤ 0; omega
      · omega
    · rcases b2 with b2 | b2
      · rw [b2]; show (0 : Int) ≤ _; omega
      · omega
  · rw [if_neg h]
    have hc := cutM_lt (neg := d.neg) (mode := mode) hm (show 0 < pl - d.e by omega)
    obtain ⟨b1, b2⟩ := norm_bd d.neg pl hc
    refine ⟨Nat.lt_of_le_of_lt b1 hc, ?_, ?_⟩
    · rcases b2 with b2 | b2
      · rw [b2]; show (-2500 : Int) ≤ 0; omega
      · omega
    · rcases b2 with b2 | b2
      · rw [b2]; show (0 : Int) ≤ _; omega
      · omega
end Go.Proofs.YtjmmgffdagcflaaDoor
