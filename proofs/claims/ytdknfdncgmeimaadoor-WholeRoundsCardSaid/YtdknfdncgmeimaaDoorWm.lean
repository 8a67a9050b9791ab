/-
  PLAIN: numbers rounded to whole ones; ints. No Go function here.
-/
import Derived.Test.YtdknfdncgmeimaaDoorWd
import Derived.Test.YtdknfdncgmeimaaDoorPn
set_option linter.unusedVariables false
set_option linter.unusedSimpArgs false
namespace Go.Proofs.YtdknfdncgmeimaaDoor
open Go.RowKit Nt Fm Fl

theorem mulD_neg {d : D} {pl mode : Int} (h : (mulD d pl mode).m ≠ 0) : (mulD d pl mode).neg = d.neg := by
  unfold mulD at *
  split at h
  · rename_i hc; rw [if_pos hc]
    unfold norm at *; split
    · rename_i hz; rw [if_pos hz] at h; exact absurd rfl h
    · rfl
  · rename_i hc; rw [if_neg hc]
    unfold norm at *; split
    · rename_i hz; rw [if_pos hz] at h; exact absurd rfl h
    · rfl
theorem int_float {I : Nat} (h : I ≤ 9007199254740992) (t : Nat) (ht : t = 1074) : ∃ r, r < MR ∧ mag r = I * 2 ^ t := by
  obtain ⟨r, hr⟩ := mag_rep t I h
  refine ⟨r, ?_, hr⟩
  have h2 := mag_of 9007199254740992 t (Or.inl (by decide)) (Nat.le_refl _)
  have h3 : mag r ≤ mag (9007199254740992 + t * 4503599627370496) := by rw [hr, h2]; exact Nat.mul_le_mul_right _ h
  have h4 := mag_le_iff.1 h3
  have hMR : MR = 9218868437227405312 := rfl
  omega
theorem int_vl (neg : Bool) (I T : Nat) : ((norm neg I 0).vl T).natAbs = I * 2 ^ T := by
  rw [norm_vl _ _ _ _ (by omega), vl_natAbs]
  show I * 2 ^ ((0 : Int) + (T : Int)).toNat = I * 2 ^ T
  rw [Int.zero_add, Int.toNat_natCast]
theorem mul_whole {d : D} {mode : Int} (hd : d.Nf) (hm : d.m < 2 ^ 53) (he : 0 ≤ d.e + ((1074 : Nat) : Int)) (hc : numC d = false) (m0 : 0 ≤ mode) (m1 : mode ≤ 4) : 0 ≤ (mulD d 0 mode).e ∧ numC (mulD d 0 mode) = false := by
  have h0 : 0 ≤ (mulD d 0 mode).e := by
    obtain ⟨I, -, -, -, -, h⟩ := mul_spec d 0 mode (T := 1074) hd he (by decide) m0 m1
    rcases h with h | h
    · rw [h]; decide
    · exact h
  refine ⟨h0, ?_⟩
  cases hC : mulC d 0
  · rw [(mul_same hd m0 m1).1 hC]; exact hc
  · have hcc : ¬ (0 ≤ d.e ∨ d.m = 0) := by
      intro h; unfold mulC at hC; rw [if_pos h] at hC; cases hC
    have e1 : mulD d 0 mode = norm d.neg (cutM d.neg d.m (0 - d.e) mode) 0 := by unfold mulD; rw [if_neg hcc]
    have hI : cutM d.neg d.m (0 - d.e) mode ≤ 9007199254740992 := by
      have h1 := cutM_lt (neg := d.neg) (mode := mode) hm (show 0 < 0 - d.e by omega)
      unfold cutM
      rw [if_neg (by omega)]
      have h2 : d.m / 2 ^ (0 - d.e).toNat ≤ d.m / 2 := Nat.div_le_div_left (by
        have : 2 ^ 1 ≤ 2 ^ (0 - d.e).toNat := Nat.pow_le_pow_right (by decide) (by omega)
        omega) (by decide)
      split
      · omega
      · split <;> omega
    obtain ⟨r, hr, er⟩ := int_float hI 1074 rfl
    refine chg_of (by rw [e1]; exact norm_eT (by decide)) hr ?_
    rw [e1, int_vl, er]
theorem sgn0 (x : Int) : sgn x 0 = if fng x = true then 9223372036854775808 else 0 := by
  have : fng 0 = false := by decide
  unfold sgn; rw [this]; cases fng x <;> simp
theorem known_in {mode : Int} (h : knownB mode = true) : 0 ≤ mode ∧ mode ≤ 4 := by unfold knownB at h; simpa using h
/-- a number rounded to a whole one -/
theorem wo_fin {x mode : Int} (x0 : 0 ≤ x) (x1 : x ≤ 18446744073709551615) (hx : fabs x < 9218868437227405312) (m0 : 0 ≤ mode) (m1 : mode ≤ 4) :
    (0 ≤ woV0 x mode ∧ woV0 x mode ≤ 18446744073709551615) ∧ fabs (woV0 x mode) < 9218868437227405312 ∧ valD (woV0 x mode) = mulD (valD x) 0 mode ∧ fng (woV0 x mode) = fng x ∧ woC0 x = mulC (valD x) 0 ∧
    woV0 x mode = fabs (numR (mulD (valD x) 0 mode) 0) + sgn x 0 := by
  obtain ⟨f1, f2, f3, f4, f5⟩ := valD_facts x x0 x1
  obtain ⟨c5, c4⟩ := fcls_fin hx
  obtain ⟨w1, w2⟩ := mul_whole (mode := mode) f1 f2 (by omega) (valD_num x x0 x1 hx 0).1 m0 m1
  have hn := mulD_Nf (valD x) 0 mode
  have hneg := @mulD_neg (valD x) 0 mode
  have eV : woV0 x mode = fabs (numR (mulD (valD x) 0 mode) 0) + sgn x 0 := by unfold woV0; rw [if_neg c5, if_neg c4]
  have eC : woC0 x = mulC (valD x) 0 := by unfold woC0; rw [if_neg c5, if_neg c4]
  obtain ⟨g1, g2⟩ := fng_numR (mulD (valD x) 0 mode) 0
  obtain ⟨v1, v2⟩ := valD_numR hn 0 w2
  have nb := numR_bd (mulD (valD x) 0 mode) 0
  have fb := fabs_bd (numR (mulD (valD x) 0 mode) 0)
  have hv : fabs (numR (mulD (valD x) 0 mode) 0) < 9218868437227405312 := by unfold hasV at v2; simpa using v2
  rw [sgn0] at eV
  have e2 : fabs (woV0 x mode) = fabs (numR (mulD (valD x) 0 mode) 0) ∧ fng (woV0 x mode) = fng x := by
    rw [eV]
    generalize fabs (numR (mulD (valD x) 0 mode) 0) = o at *
    cases fng x
    · simp only [Bool.false_eq_true, if_false]; unfold fabs fng; rw [decide_eq_false (by omega)]; exact ⟨by omega, rfl⟩
    · simp only [if_true]; unfold fabs fng; rw [decide_eq_true (by omega)]; exact ⟨by omega, rfl⟩
  have eB : 0 ≤ woV0 x mode ∧ woV0 x mode ≤ 18446744073709551615 := by rw [eV]; split <;> omega
  refine ⟨eB, by rw [e2.1]; exact hv, ?_, e2.2, eC, by rw [eV, sgn0]⟩
  by_cases hz : (mulD (valD x) 0 mode).m = 0
  · have : fabs (numR (mulD (valD x) 0 mode) 0) = 0 := by
      have : numk (kd (mulD (valD x) 0 mode).neg 0) (mulD (valD x) 0 mode).m (mulD (valD x) 0 mode).e = 0 := by unfold numk; rw [if_pos hz]
      omega
    rw [this] at e2
    rw [nf_z hn hz]; exact (hasV_z e2.1).2
  · have h3 := hneg hz
    have hd : (valD x).m ≠ 0 := by
      intro h; apply hz
      unfold mulD; rw [if_pos (Or.inr h), h]; rfl
    rw [f5 hd] at h3
    rw [h3] at g2
    have : woV0 x mode = numR (mulD (valD x) 0 mode) 0 := by
      rw [eV, ← g2]
      generalize numR (mulD (valD x) 0 mode) 0 = o at *
      unfold fabs fng; simp only [decide_eq_true_eq]; split <;> omega
    rw [this]; exact v1
theorem wo_again {x mode : Int} (x0 : 0 ≤ x) (x1 : x ≤ 18446744073709551615) (hx : fabs x < 9218868437227405312) (m0 : 0 ≤ mode) (m1 : mode ≤ 4) : woV0 (woV0 x mode) mode = woV0 x mode ∧ woC0 (woV0 x mode) = false := by
  obtain ⟨b, h1, h2, h3, h4, h5⟩ := wo_fin x0 x1 hx m0 m1
  obtain ⟨f1, -⟩ := valD_facts x x0 x1
  obtain ⟨a1, a2⟩ := mul_again (few := 0) f1 m0 m1 (Int.le_refl 0) mode
  obtain ⟨-, -, -, -, k4, k5⟩ := wo_fin b.1 b.2 h1 m0 m1
  rw [k5, k4, h2, a1, a2]
  refine ⟨?_, rfl⟩
  conv => rhs; rw [h5]
  rw [sgn0, sgn0, h3]
theorem wo_inf {x : Int} (mode : Int) (h : fabs x = 9218868437227405312) : woV0 x mode = x ∧ woC0 x = false := by
  have := fcls_4 h
  unfold woV0 woC0; rw [this]; exact ⟨rfl, rfl⟩
theorem wo_nan {x : Int} (mode : Int) (h : 9218868437227405312 < fabs x) : woV0 x mode = 9221120237041090560 ∧ woC0 x = false := by
  have := fcls_5 h
  unfold woV0 woC0; rw [this]; exact ⟨rfl, rfl⟩
theorem hasV_iff (x : Int) : hasV x = true ↔ fabs x < 9218868437227405312 := by unfold hasV; simp
theorem woV0_bd {x : Int} (mode : Int) (x0 : 0 ≤ x) (x1 : x ≤ 18446744073709551615) : 0 ≤ woV0 x mode ∧ woV0 x mode ≤ 18446744073709551615 := by
  have := fabs_bd (numR (mulD (valD x) 0 mode) 0)
  have := sgn_bd x 0
  unfold woV0; split; · omega
  split <;> omega
theorem woV_bd {x : Int} (mode : Int) (x0 : 0 ≤ x) (x1 : x ≤ 18446744073709551615) : 0 ≤ woV x mode ∧ woV x mode ≤ 18446744073709551615 := by
  have := woV0_bd mode x0 x1
  unfold woV; split <;> omega
theorem hasV_wo {x mode : Int} (x0 : 0 ≤ x) (x1 : x ≤ 18446744073709551615) (m0 : 0 ≤ mode) (m1 : mode ≤ 4) : hasV (woV0 x mode) = hasV x := by
  by_cases h1 : fabs x < 9218868437227405312
  · rw [(hasV_iff _).2 h1, (hasV_iff _).2 (wo_fin x0 x1 h1 m0 m1).2.1]
  · by_cases h2 : fabs x = 9218868437227405312
    · rw [(wo_inf mode h2).1]
    · rw [(wo_nan mode (by omega)).1]
      unfold hasV; rw [decide_eq_false h1]; decide
/-- the order of whole ones -/
theorem frank_of_smag {a b : Int} (ha : fabs a < 9218868437227405312) (hb : fabs b < 9218868437227405312) (h : smag a ≤ smag b) : frank a ≤ frank b := by
  have ba := fabs_bd a
  have bb := fabs_bd b
  rw [frank_fng (by omega), frank_fng (by omega)]
  unfold smag at h
  cases hga : fng a <;> cases hgb : fng b <;> rw [hga, hgb] at h <;> simp only [Bool.false_eq_true, if_false, if_true] at h ⊢
  · have := mag_le_iff.1 (show mag (fabs a).toNat ≤ mag (fabs b).toNat by omega); omega
  · have h1 := mag_inj (show mag (fabs a).toNat = mag 0 by rw [mag_zero]; omega)
    have h2 := mag_inj (show mag (fabs b).toNat = mag 0 by rw [mag_zero]; omega)
    omega
  · omega
  · have := mag_le_iff.1 (show mag (fabs b).toNat ≤ mag (fabs a).toNat by omega); omega
theorem wo_smag {x mode : Int} (x0 : 0 ≤ x) (x1 : x ≤ 18446744073709551615) (hx : fabs x < 9218868437227405312) (m0 : 0 ≤ mode) (m1 : mode ≤ 4) : smag (woV0 x mode) = (mulD (valD x) 0 mode).vl 1074 := by
  obtain ⟨b, h1, h2, h3, h4, h5⟩ := wo_fin x0 x1 hx m0 m1
  rw [← valD_sm b.1 b.2 h1, h2]
theorem wo_mono {x y mode : Int} (x0 : 0 ≤ x) (x1 : x ≤ 18446744073709551615) (y0 : 0 ≤ y) (y1 : y ≤ 18446744073709551615) (m0 : 0 ≤ mode) (m1 : mode ≤ 4) (e : frerr x = 0) (f : frerr y = 0) (h : frank x ≤ frank y) :
    frerr (woV0 x mode) = 0 ∧ frerr (woV0 y mode) = 0 ∧ frank (woV0 x mode) ≤ frank (woV0 y mode) ∧ (mode = 2 → frank (woV0 x mode) ≤ frank x) ∧ (mode = 1 → frank x ≤ frank (woV0 x mode)) := by
  have hx := frerr_0 e
  have hy := frerr_0 f
  have ok : ∀ v, 0 ≤ v → v ≤ 18446744073709551615 → fabs v ≤ 9218868437227405312 → frerr (woV0 v mode) = 0 ∧ (fabs v < 9218868437227405312 → fabs (woV0 v mode) < 9218868437227405312) ∧ (fabs v = 9218868437227405312 → woV0 v mode = v) := by
    intro v v0 v1 hv
    by_cases hi : fabs v = 9218868437227405312
    · rw [(wo_inf mode hi).1]
      exact ⟨by unfold frerr; rw [if_neg (by omega)], fun h => absurd hi (by omega), fun _ => rfl⟩
    · have := (wo_fin v0 v1 (show fabs v < 9218868437227405312 by omega) m0 m1).2.1
      exact ⟨by unfold frerr; rw [if_neg (by omega)], fun _ => this, fun h => absurd h hi⟩
  obtain ⟨a1, a2, a3⟩ := ok x x0 x1 hx
  obtain ⟨b1, b2, b3⟩ := ok y y0 y1 hy
  refine ⟨a1, b1, ?_, ?_, ?_⟩
  · by_cases xi : fabs x = 9218868437227405312
    · rw [a3 xi]
      by_cases yi : fabs y = 9218868437227405312
      · rw [b3 yi]; exact h
      · rcases frank_inf xi with k | k
        · have := (frank_le_fabs y).1; omega
        · rw [k]; exact (frank_bd _).1
    · by_cases yi : fabs y = 9218868437227405312
      · rw [b3 yi]
        rcases frank_inf yi with k | k
        · rw [k]; exact (frank_bd _).2
        · have := (frank_le_fabs x).2; omega
      · have hx1 : fabs x < 9218868437227405312 := by omega
        have hy1 : fabs y < 9218868437227405312 := by omega
        refine frank_of_smag (a2 hx1) (b2 hy1) ?_
        rw [wo_smag x0 x1 hx1 m0 m1, wo_smag y0 y1 hy1 m0 m1]
        refine mul_mono (valD_nf x) (valD_nf y) (valD_e x0 x1) (valD_e y0 y1) (by decide) m0 m1 ?_
        rw [valD_sm x0 x1 hx1, valD_sm y0 y1 hy1]
        exact smag_mono hx1 hy1 h
  · intro hm; subst hm
    by_cases xi : fabs x = 9218868437227405312
    · rw [a3 xi]; exact Int.le_refl _
    · have hx1 : fabs x < 9218868437227405312 := by omega
      refine frank_of_smag (a2 hx1) hx1 ?_
      rw [wo_smag x0 x1 hx1 m0 m1, ← valD_sm x0 x1 hx1]
      exact mul_down (valD_nf x) (valD_e x0 x1) (by decide)
  · intro hm; subst hm
    by_cases xi : fabs x = 9218868437227405312
    · rw [a3 xi]; exact Int.le_refl _
    · have hx1 : fabs x < 9218868437227405312 := by omega
      refine frank_of_smag hx1 (a2 hx1) ?_
      rw [wo_smag x0 x1 hx1 m0 m1, ← valD_sm x0 x1 hx1]
      exact mul_up (valD_nf x) (valD_e x0 x1) (by decide)
end Go.Proofs.YtdknfdncgmeimaaDoor
