/-
  PLAIN: which exact numbers are floats; the difference of two numbers that are near each other (Sterbenz). No Go function here.
-/
import Derived.Test.YtapdjclhpcakeaaDoorSo
set_option linter.unusedVariables false
set_option linter.unusedSimpArgs false
namespace Go.Proofs.YtapdjclhpcakeaaDoor
open Go.RowKit Nt Fm Fl

/-- what is rounded with nothing lost is the number itself -/
theorem valD_numR {d : D} (hn : d.Nf) (mode : Int) (hc : numC d = false) : valD (numR d mode) = d ∧ hasV (numR d mode) = true := by
  have hMR : MR = 9218868437227405312 := rfl
  have hb := numk_le_MR (kd d.neg mode) d.m d.e
  have xb : 0 ≤ numR d mode ∧ numR d mode ≤ 18446744073709551615 := by unfold numR; split <;> omega
  obtain ⟨f1, f2⟩ := fng_numR d mode
  obtain ⟨t, ht⟩ : ∃ t : Nat, 0 ≤ d.e + 1074 + t := ⟨(-(d.e + 1074)).toNat, by omega⟩
  obtain ⟨c1, c2⟩ := chg_exact ht (kd d.neg mode) hc
  have hv : fabs (numR d mode) < 9218868437227405312 := by
    have := fabs_bd (numR d mode); omega
  have e1 := (valD_facts _ xb.1 xb.2).2.2.1
  refine ⟨nf_inj (T := 1074 + t) (valD_nf _) hn (by omega) (by omega) ?_, by unfold hasV; simpa using hv⟩
  rw [valD_vl _ xb.1 xb.2 hv, f1, f2, ← sg_vl d t]
  unfold sg
  rw [c2]
theorem hasV_z {x : Int} (h : fabs x = 0) : hasV x = true ∧ valD x = nz := by
  refine ⟨by unfold hasV; rw [h]; decide, valD_z ?_⟩
  unfold fcls; rw [if_pos h]
theorem nf_z {d : D} (hn : d.Nf) (h : d.m = 0) : d = nz := by
  rcases hn with h1 | h1
  · exact h1
  · omega
/-- a sum with nothing lost is the sum -/
theorem allV_exact {l : List Int} (h : ∀ x ∈ l, fabs x < 9218868437227405312) (mode : Int) (hc : allC l = false) : hasV (allV l mode) = true ∧ valD (allV l mode) = sumD l := by
  obtain ⟨-, -, a3, a4, a5⟩ := allV_fin l h mode
  have hn := sumD_nf l
  by_cases hz : (sumD l).m = 0
  · rw [nf_z hn hz]; exact hasV_z (a5 hz)
  · rw [a4 hz]
    have := valD_numR hn mode (a3 ▸ hc)
    exact ⟨this.2, this.1⟩

theorem mag_rep : ∀ (j q : Nat), q ≤ 9007199254740992 → ∃ r, mag r = q * 2 ^ j
  | 0, q, h => ⟨_, mag_of q 0 (Or.inr rfl) h⟩
  | j + 1, q, h => by
    by_cases hq : 4503599627370496 ≤ q
    · exact ⟨_, mag_of q (j + 1) (Or.inl hq) h⟩
    · obtain ⟨r, hr⟩ := mag_rep j (2 * q) (by omega)
      exact ⟨r, by rw [hr, Nat.pow_succ, Nat.mul_comm 2 q, Nat.mul_assoc, Nat.mul_comm 2]⟩
theorem mag_parts (r : Nat) : ∃ q, q < 9007199254740992 ∧ mag r = q * ulp r := by
  unfold mag ulp
  by_cases h : r < 4503599627370496
  · refine ⟨r, by omega, ?_⟩
    rw [if_pos h, show r / 4503599627370496 - 1 = 0 by omega]; simp
  · exact ⟨4503599627370496 + r % 4503599627370496, by omega, by rw [if_neg h]⟩
theorem ulp_dvd {r s : Nat} (h : r ≤ s) : ∃ q, mag s = q * ulp r := by
  obtain ⟨q, -, hq⟩ := mag_parts s
  have : ulp s = 2 ^ (s / 4503599627370496 - 1 - (r / 4503599627370496 - 1)) * ulp r := by
    unfold ulp
    have : r / 4503599627370496 ≤ s / 4503599627370496 := Nat.div_le_div_right h
    rw [← Nat.pow_add]; congr 1; omega
  exact ⟨q * 2 ^ (s / 4503599627370496 - 1 - (r / 4503599627370496 - 1)), by rw [hq, this, Nat.mul_assoc]⟩
theorem sterb {r s : Nat} (h : r ≤ s) (h2 : mag s ≤ 2 * mag r) : ∃ k, k ≤ r ∧ mag k = mag s - mag r := by
  obtain ⟨p, hp, ep⟩ := mag_parts r
  obtain ⟨q, eq⟩ := ulp_dvd h
  have hu := ulp_pos r
  have hq : q ≤ 2 * p := by
    rw [ep, eq, ← Nat.mul_assoc] at h2
    exact Nat.le_of_mul_le_mul_right h2 hu
  obtain ⟨k, hk⟩ := mag_rep (r / 4503599627370496 - 1) (q - p) (by omega)
  have e : mag k = mag s - mag r := by
    rw [hk, ep, eq, ← Nat.sub_mul]; rfl
  refine ⟨k, ?_, e⟩
  rw [← mag_le_iff, e]; omega
theorem sterb' {r s : Nat} (h1 : mag r ≤ 2 * mag s) (h2 : mag s ≤ 2 * mag r) : ∃ k, (k ≤ r ∧ k ≤ s) ∧ mag k = ((mag s : Int) - (mag r : Int)).natAbs := by
  rcases Nat.le_total r s with h | h
  · obtain ⟨k, h3, h4⟩ := sterb h h2
    have := mag_mono h
    exact ⟨k, ⟨h3, by omega⟩, by omega⟩
  · obtain ⟨k, h3, h4⟩ := sterb h h1
    have := mag_mono h
    exact ⟨k, ⟨by omega, h3⟩, by omega⟩
/-- a number is a float -/
theorem chg_of {d : D} (he : 0 ≤ d.e + ((1074 : Nat) : Int)) {r : Nat} (hr : r < MR) (h : (d.vl 1074).natAbs = mag r) : numC d = false := by
  unfold numC
  have ht : 0 ≤ d.e + 1074 + ((0 : Nat) : Int) := by omega
  rw [chg_iff ht]
  exact ⟨r, hr, by rw [tt_vl, h]; simp⟩

theorem shift_vl (d : D) (n : Int) {T : Nat} (hT : 0 ≤ d.e + n + T) : (norm d.neg d.m (d.e + n)).vl T = d.sm * 2 ^ (d.e + n + T).toNat := by
  rw [norm_vl _ _ _ _ hT]; rfl
theorem sterb_law {x y : Int} (x0 : 0 ≤ x) (x1 : x ≤ 18446744073709551615) (y0 : 0 ≤ y) (y1 : y ≤ 18446744073709551615) (hx : fabs x < 9218868437227405312) (hy : fabs y < 9218868437227405312)
    (lo hi : D) (h : lo = norm (valD y).neg (valD y).m ((valD y).e + -1) ∧ hi = norm (valD y).neg (valD y).m ((valD y).e + 1) ∧ (valD y).neg = false ∨
      lo = norm (valD y).neg (valD y).m ((valD y).e + 1) ∧ hi = norm (valD y).neg (valD y).m ((valD y).e + -1) ∧ (valD y).neg = true)
    (h1 : cmp lo (valD x) ≤ 0) (h2 : cmp (valD x) hi ≤ 0) : numC (plus (valD x) (opp (valD y))) = false := by
  have e1 := valD_e x0 x1
  have e2 := valD_e y0 y1
  have e3 : 0 ≤ (opp (valD y)).e + ((1074 : Nat) : Int) := e2
  have hsx := valD_sm x0 x1 hx
  have hsy := valD_sm y0 y1 hy
  have hS : (plus (valD x) (opp (valD y))).vl 1074 = smag x - smag y := by
    rw [plus_vl _ _ _ e1 e3, opp_vl, hsx, hsy, Int.sub_eq_add_neg]
  have l1 : (norm (valD y).neg (valD y).m ((valD y).e + -1)).vl 1075 = smag y := by
    rw [shift_vl _ _ (by omega), ← hsy]; unfold D.vl; congr 2; omega
  have l2 : (norm (valD y).neg (valD y).m ((valD y).e + 1)).vl 1075 = 4 * smag y := by
    rw [shift_vl _ _ (by omega), ← hsy]; unfold D.vl
    rw [show ((valD y).e + 1 + ((1075 : Nat) : Int)).toNat = 2 + ((valD y).e + ((1074 : Nat) : Int)).toNat by omega, Int.pow_add, Int.mul_left_comm]; rfl
  have l3 : (valD x).vl 1075 = 2 * smag x := by
    rw [← hsx]; unfold D.vl
    rw [show ((valD x).e + ((1075 : Nat) : Int)).toNat = 1 + ((valD x).e + ((1074 : Nat) : Int)).toNat by omega, Int.pow_add, Int.mul_left_comm]; rfl
  have el : 0 ≤ lo.e + ((1075 : Nat) : Int) := by
    rcases h with ⟨h, -⟩ | ⟨h, -⟩ <;> rw [h] <;> exact norm_eT (by omega)
  have eh : 0 ≤ hi.e + ((1075 : Nat) : Int) := by
    rcases h with ⟨-, h, -⟩ | ⟨-, h, -⟩ <;> rw [h] <;> exact norm_eT (by omega)
  rw [cmp_le (T := 1075) el (by omega)] at h1
  rw [cmp_le (T := 1075) (by omega) eh] at h2
  have key : (0 ≤ smag y ∧ smag y ≤ 2 * smag x ∧ 2 * smag x ≤ 4 * smag y) ∨ (smag y ≤ 0 ∧ 4 * smag y ≤ 2 * smag x ∧ 2 * smag x ≤ smag y) := by
    have hsm : smag y = (valD y).sm * 2 ^ ((valD y).e + ((1074 : Nat) : Int)).toNat := hsy.symm
    have hp : (0 : Int) ≤ 2 ^ ((valD y).e + ((1074 : Nat) : Int)).toNat := Int.le_of_lt (Int.pow_pos (by decide))
    rcases h with ⟨a, b, c⟩ | ⟨a, b, c⟩
    · left
      rw [a, l1, l3] at h1; rw [b, l2, l3] at h2
      refine ⟨?_, h1, h2⟩
      rw [hsm]; refine Int.mul_nonneg ?_ hp
      unfold D.sm; rw [c]; simp
    · right
      rw [a, l2, l3] at h1; rw [b, l1, l3] at h2
      refine ⟨?_, h1, h2⟩
      rw [hsm]; refine Int.mul_nonpos_of_nonpos_of_nonneg ?_ hp
      unfold D.sm; rw [c]; simp
  have hMR : MR = 9218868437227405312 := rfl
  have bx := fabs_bd x
  have bY := fabs_bd y
  have ax : (smag x).natAbs = mag (fabs x).toNat := by unfold smag; split <;> simp
  have ay : (smag y).natAbs = mag (fabs y).toNat := by unfold smag; split <;> simp
  obtain ⟨k, ⟨k1, k2⟩, k3⟩ := sterb' (r := (fabs y).toNat) (s := (fabs x).toNat) (by omega) (by omega)
  refine chg_of (plus_eT e1 e3) (r := k) (by omega) ?_
  rw [hS, k3]
  omega
end Go.Proofs.YtapdjclhpcakeaaDoor
