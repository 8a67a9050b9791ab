/-
  PLAIN: how great products, and sums of them, are. No Go here.
-/
import Derived.Test.YthoejmhpgabgdaaDoorBp
set_option linter.unusedVariables false
set_option linter.unusedSimpArgs false
namespace Go.Proofs.YthoejmhpgabgdaaDoor
open Go.RowKit Nt Fm Fl

def SmlP (k : Nat) (d : D) : Prop := d.Nf ∧ -2148 ≤ d.e ∧ (d.vl 2148).natAbs ≤ k * Pw 4454
theorem prD_smlP (x y : Int) (x0 : 0 ≤ x) (x1 : x ≤ 18446744073709551615) (y0 : 0 ≤ y) (y1 : y ≤ 18446744073709551615) : SmlP 1 (prD x y) := by
  have hx := valD_sml x x0 x1
  have hy := valD_sml y y0 y1
  have e1 : 0 ≤ (valD x).e + ((1074 : Nat) : Int) := by have := hx.2.1; omega
  have e2 : 0 ≤ (valD y).e + ((1074 : Nat) : Int) := by have := hy.2.1; omega
  have ht := times_eT e1 e2
  refine ⟨prD_nf x y, ?_, ?_⟩
  · have : 0 ≤ (prD x y).e + ((1074 + 1074 : Nat) : Int) := ht
    omega
  · have hv : (prD x y).vl 2148 = (valD x).vl 1074 * (valD y).vl 1074 := times_vl (valD x) (valD y) 1074 1074 e1 e2
    rw [hv, Int.natAbs_mul]
    have a := hx.2.2
    have b := hy.2.2
    rw [Nat.one_mul] at a b ⊢
    rw [show (4454 : Nat) = 2227 + 2227 from rfl, Pw_add]
    exact Nat.mul_le_mul a b
theorem SmlP.plus {j k : Nat} {c d : D} (h1 : SmlP j c) (h2 : SmlP k d) : SmlP (j + k) (plus c d) := by
  have e1 : 0 ≤ c.e + ((2148 : Nat) : Int) := by have := h1.2.1; omega
  have e2 : 0 ≤ d.e + ((2148 : Nat) : Int) := by have := h2.2.1; omega
  refine ⟨plus_Nf _ _, by have := plus_eT e1 e2; omega, ?_⟩
  rw [plus_vl _ _ _ e1 e2, Nat.add_mul]
  have a := h1.2.2; have b := h2.2.2
  omega
theorem SmlP.bds {k : Nat} {d : D} (h : SmlP k d) (hk : k ≤ 10000) : (∃ q, q ≤ 6000 ∧ d.m < 2 ^ q) ∧ -2148 ≤ d.e ∧ d.e ≤ 3000 := by
  obtain ⟨h1, h2, h3⟩ := h
  rw [vl_natAbs] at h3
  obtain ⟨p, hp0⟩ : ∃ p : Nat, p = 4454 := ⟨_, rfl⟩
  rw [← hp0] at h3
  obtain ⟨q, hq, hlt⟩ : ∃ q, q = p + 14 ∧ k * Pw p < 2 ^ q := by
    refine ⟨p + 14, rfl, ?_⟩
    have e : (2 : Nat) ^ (p + 14) = Pw p * 16384 := by unfold Pw; rw [Nat.pow_add]
    rw [e]
    have := Pw_pos p
    generalize Pw p = X at *
    have : k * X ≤ 10000 * X := Nat.mul_le_mul_right _ hk
    omega
  have hp := Nat.two_pow_pos (d.e + ((2148 : Nat) : Int)).toNat
  have hm : d.m * 1 ≤ d.m * 2 ^ (d.e + ((2148 : Nat) : Int)).toNat := Nat.mul_le_mul_left _ hp
  refine ⟨⟨q, by omega, by omega⟩, h2, ?_⟩
  by_cases hz : d.m = 0
  · rcases h1 with h1 | h1
    · rw [h1]; decide
    · omega
  · have : 1 * 2 ^ (d.e + ((2148 : Nat) : Int)).toNat ≤ d.m * 2 ^ (d.e + ((2148 : Nat) : Int)).toNat := Nat.mul_le_mul_right _ (by omega)
    rw [Nat.one_mul] at this
    have h5 := (Nat.pow_lt_pow_iff_right (by decide : 1 < 2)).1 (Nat.lt_of_le_of_lt (Nat.le_trans this h3) hlt)
    omega
end Go.Proofs.YthoejmhpgabgdaaDoor
