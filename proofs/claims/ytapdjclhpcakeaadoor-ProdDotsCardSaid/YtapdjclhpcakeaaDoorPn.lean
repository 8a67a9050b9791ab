/-
  PLAIN: products turned, times 1, times a power of two; a product and a number at once; what is left of a product. No Go function here.
-/
import Derived.Test.YtapdjclhpcakeaaDoorPm
set_option linter.unusedVariables false
set_option linter.unusedSimpArgs false
namespace Go.Proofs.YtapdjclhpcakeaaDoor
open Go.RowKit Nt Fm Fl

theorem fng_fneg {x : Int} (x0 : 0 ≤ x) (x1 : x ≤ 18446744073709551615) : fng (fneg x) = !fng x := by
  unfold fng
  by_cases h : 9223372036854775808 ≤ x
  · have : ¬ 9223372036854775808 ≤ fneg x := by unfold fneg; rw [if_pos h]; omega
    simp [h, this]
  · have : 9223372036854775808 ≤ fneg x := by unfold fneg; rw [if_neg h]; omega
    simp [h, this]
theorem times_opp (c d : D) : times (opp c) d = opp (times c d) := by
  have h1 : 0 ≤ c.e + (((-c.e).toNat : Nat) : Int) := by omega
  have h2 : 0 ≤ d.e + (((-d.e).toNat : Nat) : Int) := by omega
  generalize (-c.e).toNat = T at *
  generalize (-d.e).toNat = U at *
  have k := times_eT h1 h2
  refine (times_of (T := T) (U := U) (opp_nf (times_Nf _ _)) (show 0 ≤ (opp c).e + (T : Int) from h1) h2 k ?_).symm
  rw [opp_vl, times_vl _ _ _ _ h1 h2, opp_vl, Int.neg_mul]
theorem sgn_fneg {x : Int} (x0 : 0 ≤ x) (x1 : x ≤ 18446744073709551615) (y : Int) : sgn (fneg x) y = 9223372036854775808 - sgn x y := by
  unfold sgn; rw [fng_fneg x0 x1]
  cases fng x <;> cases fng y <;> simp
theorem fneg_sgn (x y : Int) (a : Int) (ha : a = 0 ∨ a = 9218868437227405312) : fneg (a + sgn x y) = a + (9223372036854775808 - sgn x y) := by
  unfold sgn
  rcases ha with rfl | rfl <;> split <;> decide
/-- turned -/
theorem mu_turned {x y : Int} (mode : Int) (x0 : 0 ≤ x) (x1 : x ≤ 18446744073709551615) :
    muC0 (fneg x) y = muC0 x y ∧ ((muV0 x y mode = 9221120237041090560 ∧ muV0 (fneg x) y (swapM mode) = 9221120237041090560) ∨ muV0 (fneg x) y (swapM mode) = fneg (muV0 x y mode)) := by
  have hc := fcls_fneg x
  have hb : spB (fneg x) y = spB x y := by unfold spB; rw [hc]
  have hD : prD (fneg x) y = opp (prD x y) := by unfold prD; rw [valD_fneg x0 x1, times_opp]
  have hm : (opp (prD x y)).m = (prD x y).m := rfl
  have he : (opp (prD x y)).e = (prD x y).e := rfl
  refine ⟨?_, ?_⟩
  · unfold muC0; rw [hb, hD, hm]; unfold numC; rw [hm, he]
  · unfold muV0; rw [hb, hD, hm]
    by_cases h : spB x y = true
    · rw [if_pos h, if_pos h]; unfold spV; rw [hc]
      split
      · exact Or.inl ⟨rfl, rfl⟩
      · right
        rw [sgn_fneg x0 x1]
        split
        · exact (fneg_sgn x y _ (Or.inr rfl)).symm
        · rename_i h1 h2
          exfalso
          unfold spB at h; simp only [Bool.or_eq_true, decide_eq_true_eq] at h; omega
    · rw [if_neg h, if_neg h]
      right
      by_cases hz : (prD x y).m = 0
      · rw [if_pos hz, if_pos hz, sgn_fneg x0 x1]
        have := fneg_sgn x y 0 (Or.inl rfl)
        rw [Int.zero_add, Int.zero_add] at this
        exact this.symm
      · rw [if_neg hz, if_neg hz]
        have : opp (prD x y) = ⟨!(prD x y).neg, (prD x y).m, (prD x y).e⟩ := by unfold opp; rw [decide_eq_true hz, Bool.and_true]
        rw [this, numR_turned]
theorem valD_one : valD 4607182418800017408 = ⟨false, 1, 0⟩ := by kernel_rfl
theorem times_one {d : D} (h : d.Nf) : times d ⟨false, 1, 0⟩ = d := by
  have h1 : 0 ≤ d.e + (((-d.e).toNat : Nat) : Int) := by omega
  generalize (-d.e).toNat = T at *
  refine (times_of (T := T) (U := 0) h h1 (by decide) (by simpa using h1) ?_).symm
  have : (⟨false, 1, 0⟩ : D).vl 0 = 1 := by decide
  rw [this, Int.mul_one]; rfl
theorem prD_one (x : Int) : prD x 4607182418800017408 = valD x := by unfold prD; rw [valD_one, times_one (valD_nf x)]
theorem sgn_one {x : Int} (h : fabs x = 0) (x0 : 0 ≤ x) (x1 : x ≤ 18446744073709551615) : sgn x 4607182418800017408 = x := by
  have : fng 4607182418800017408 = false := by decide
  unfold sgn; rw [this]; unfold fng fabs at *
  simp only [decide_eq_false_iff_not]; split <;> omega
theorem inf_one {x : Int} (h : fabs x = 9218868437227405312) (x0 : 0 ≤ x) (x1 : x ≤ 18446744073709551615) : 9218868437227405312 + sgn x 4607182418800017408 = x := by
  have : fng 4607182418800017408 = false := by decide
  unfold sgn; rw [this]; unfold fng fabs at *
  simp only [decide_eq_false_iff_not]; split <;> omega
theorem valD_m0 {x : Int} (x0 : 0 ≤ x) (x1 : x ≤ 18446744073709551615) (hx : fabs x < 9218868437227405312) (h : (valD x).m = 0) : fabs x = 0 := by
  have := valD_sm x0 x1 hx
  rw [vl_zero h] at this
  have e : mag (fabs x).toNat = mag 0 := by
    rw [mag_zero]
    unfold smag at this; split at this <;> omega
  have := mag_inj e
  have := fabs_bd x
  omega
/-- times 1 -/
theorem mu_one {x : Int} (mode : Int) (x0 : 0 ≤ x) (x1 : x ≤ 18446744073709551615) : muC0 x 4607182418800017408 = false ∧ (fcls x = 5 ∨ muV0 x 4607182418800017408 mode = x) := by
  have h1 : fabs 4607182418800017408 < 9218868437227405312 := by decide
  by_cases hn : 9218868437227405312 < fabs x
  · exact ⟨(mu_nan mode (Or.inl hn)).2, Or.inl (fcls_5 hn)⟩
  · by_cases hi : fabs x = 9218868437227405312
    · rcases mu_inf (y := 4607182418800017408) mode hi (by omega) with ⟨h, -, -⟩ | ⟨-, a, b⟩
      · exact absurd h (by decide)
      · exact ⟨b, Or.inr (by rw [a, inf_one hi x0 x1])⟩
    · have hx : fabs x < 9218868437227405312 := by omega
      obtain ⟨a1, a2, a3, a4, a5⟩ := mu_fin hx h1 mode
      obtain ⟨v1, v2⟩ := valD_num x x0 x1 hx mode
      rw [prD_one] at a2 a3 a4
      refine ⟨by rw [a2, v1], Or.inr ?_⟩
      by_cases hz : (valD x).m = 0
      · have := valD_m0 x0 x1 hx hz
        unfold muV0
        rw [spB_fin hx h1, if_neg (by decide), prD_one, if_pos hz, sgn_one this x0 x1]
      · rw [a4 hz]
        rcases v2 with h | ⟨h, -⟩
        · exact h
        · exfalso; apply hz; rw [valD_z (x := x) (by rw [h]; decide)]; rfl
theorem spV_nan {x y : Int} (h : spB x y = true) : spV x y = 9221120237041090560 ∨ (spV x y = 9218868437227405312 + sgn x y ∧ spV x y ≠ 9221120237041090560) := by
  unfold spV; split
  · exact Or.inl rfl
  · rename_i h1
    have h2 : fcls x = 4 ∨ fcls y = 4 := by
      unfold spB at h; simp only [Bool.or_eq_true, decide_eq_true_eq] at h; omega
    rw [if_pos h2]
    right; refine ⟨rfl, ?_⟩
    unfold sgn; split <;> decide
/-- with 1: the sum -/
theorem fm_one {x z : Int} (mode : Int) (x0 : 0 ≤ x) (x1 : x ≤ 18446744073709551615) (z0 : 0 ≤ z) (z1 : z ≤ 18446744073709551615) :
    fmV0 x 4607182418800017408 z mode = allV [x, z] mode ∧ fmC0 x 4607182418800017408 z = allC [x, z] := by
  have h1 : fabs 4607182418800017408 < 9218868437227405312 := by decide
  have c1 : fcls 4607182418800017408 = 3 := by decide
  by_cases hzn : 9218868437227405312 < fabs z
  · obtain ⟨a, b⟩ := two_nan (x := x) mode (Or.inr (Or.inl hzn))
    rw [a, b]; unfold fmV0 fmC0
    rw [if_pos (Or.inl (fcls_5 hzn)), if_pos (Or.inl (fcls_5 hzn))]; exact ⟨rfl, rfl⟩
  have z5 : fcls z ≠ 5 := by
    by_cases e : fabs z = 9218868437227405312
    · rw [fcls_4 e]; decide
    · exact (fcls_fin (by omega)).1
  by_cases hn : 9218868437227405312 < fabs x
  · obtain ⟨a, b⟩ := two_nan (x := x) (z := z) mode (Or.inl hn)
    have c5 := fcls_5 hn
    have hb : spB x 4607182418800017408 = true := by unfold spB; rw [decide_eq_true c5]; rfl
    have hv : spV x 4607182418800017408 = 9221120237041090560 := by unfold spV; rw [if_pos (Or.inl c5)]
    rw [a, b]; unfold fmV0 fmC0
    rw [if_pos (Or.inr ⟨hb, hv⟩), if_pos (Or.inr ⟨hb, hv⟩)]; exact ⟨rfl, rfl⟩
  by_cases hi : fabs x = 9218868437227405312
  · have c4 := fcls_4 hi
    have hb : spB x 4607182418800017408 = true := by unfold spB; rw [decide_eq_true c4]; simp
    have hv : spV x 4607182418800017408 = x := by
      unfold spV; rw [if_neg (by omega), if_pos (Or.inl c4), inf_one hi x0 x1]
    have hne : ¬ (fcls z = 5 ∨ (spB x 4607182418800017408 = true ∧ spV x 4607182418800017408 = 9221120237041090560)) := by
      rintro (h | ⟨-, h⟩)
      · exact z5 h
      · rw [hv] at h; rw [h] at hi; revert hi; decide
    unfold fmV0 fmC0
    rw [if_neg hne, if_neg hne, if_pos hb, if_pos hb, hv]; exact ⟨rfl, rfl⟩
  have hx : fabs x < 9218868437227405312 := by omega
  have hb : spB x 4607182418800017408 = false := spB_fin hx h1
  have hne : ¬ (fcls z = 5 ∨ (spB x 4607182418800017408 = true ∧ spV x 4607182418800017408 = 9221120237041090560)) := by
    rintro (h | ⟨h, -⟩)
    · exact z5 h
    · rw [hb] at h; cases h
  unfold fmV0 fmC0
  rw [if_neg hne, if_neg hne, hb]
  simp only [Bool.false_eq_true, if_false]
  by_cases zi : fabs z = 9218868437227405312
  · obtain ⟨a, b⟩ := two_inf' (x := x) (z := z) mode hx zi
    rw [if_pos (fcls_4 zi), if_pos (fcls_4 zi), a, b]; exact ⟨rfl, rfl⟩
  have hz : fabs z < 9218868437227405312 := by omega
  rw [if_neg (fcls_fin hz).2, if_neg (fcls_fin hz).2]
  have hS : fsD x 4607182418800017408 z = sumD [x, z] := by unfold fsD; rw [prD_one, sumD_two]
  obtain ⟨a1, a2, a3, a4, a5⟩ := allV_fin [x, z] (by simp [hx, hz]) mode
  rw [hS, prD_one]
  by_cases hm : (sumD [x, z]).m ≠ 0
  · rw [if_pos hm, if_pos hm, a4 hm, a3]; exact ⟨rfl, rfl⟩
  · rw [if_neg hm, if_neg hm]
    by_cases hv : (valD x).m = 0
    · rw [if_pos hv, if_pos hv, sgn_one (valD_m0 x0 x1 hx hv) x0 x1]; exact ⟨rfl, rfl⟩
    · rw [if_neg hv, if_neg hv]
      have hc0 : numC (sumD [x, z]) = false := by unfold numC chg; simp at hm; simp [hm]
      refine ⟨?_, by rw [a3, hc0]⟩
      have hx1 : fcls x ≠ 1 := fun h => hv (by rw [valD_z h]; rfl)
      have e1 : stp st0 x = ⟨0, false, false, 0, 0, plus nz (valD x)⟩ := by
        rw [kst_fin _ (fcls_fin hx).1 (fcls_fin hx).2 hx1]; rfl
      obtain ⟨s1, s2, s3, s4⟩ := step_fin (x := z) ⟨0, false, false, 0, 0, plus nz (valD x)⟩ (plus_Nf _ _) hz
      have hL : stL [x, z] = stp ⟨0, false, false, 0, 0, plus nz (valD x)⟩ z := by rw [stL_two, e1]
      have hps : (stL [x, z]).ps ≤ 1 ∧ (stL [x, z]).ng ≤ 1 := by
        rw [hL]; unfold stp; split; · simp
        split; · simp
        split
        · split <;> simp
        · simp
      have hs : (stL [x, z]).s = sumD [x, z] := by rw [hL, s4]; rfl
      have hl2 : [x, z].length = 2 := rfl
      rw [(allV_of (l := [x, z]) mode (by rw [hL, s1]) (by rw [hL, s2]) (by rw [hL, s3])).1, hs, if_neg hm, hl2, if_neg (show ¬ (stL [x, z]).ps = 2 by omega), if_neg (show ¬ (stL [x, z]).ng = 2 by omega)]
/-- with nothing added: the product -/
theorem fm_zero {x y : Int} (mode : Int) (x0 : 0 ≤ x) (x1 : x ≤ 18446744073709551615) (y0 : 0 ≤ y) (y1 : y ≤ 18446744073709551615) :
    (fmV0 x y 0 mode = muV0 x y mode ∨ (fcls (fmV0 x y 0 mode) = 1 ∧ fcls (muV0 x y mode) = 1)) ∧ fmC0 x y 0 = muC0 x y := by
  have z5 : fcls 0 = 1 := by decide
  by_cases h : spB x y = true
  · unfold muV0 muC0
    rw [if_pos h, if_pos h]
    rcases spV_nan h with hv | ⟨hv, hne⟩
    · unfold fmV0 fmC0
      rw [if_pos (Or.inr ⟨h, hv⟩), if_pos (Or.inr ⟨h, hv⟩), hv]; exact ⟨Or.inl rfl, rfl⟩
    · have hn : ¬ (fcls 0 = 5 ∨ (spB x y = true ∧ spV x y = 9221120237041090560)) := fun k => by
        rcases k with k | ⟨-, k⟩
        · omega
        · exact hne k
      unfold fmV0 fmC0
      rw [if_neg hn, if_neg hn, if_pos h, if_pos h]
      have hi : fabs (spV x y) = 9218868437227405312 := by rw [hv]; unfold sgn; split <;> decide
      obtain ⟨a, b⟩ := two_inf (z := 0) mode hi (Or.inl (by decide))
      rw [a, b]; exact ⟨Or.inl rfl, rfl⟩
  · have hn : ¬ (fcls 0 = 5 ∨ (spB x y = true ∧ spV x y = 9221120237041090560)) := fun k => by
      rcases k with k | ⟨k, -⟩
      · omega
      · exact h k
    have hD : fsD x y 0 = prD x y := by unfold fsD; rw [valD_z (x := 0) (by decide), plus_nz_right (prD_nf x y)]
    unfold fmV0 fmC0 muV0 muC0
    have c04 : ¬ fcls 0 = 4 := by decide
    rw [if_neg hn, if_neg hn, if_neg h, if_neg h, if_neg h, if_neg h, if_neg c04, if_neg c04, hD]
    by_cases hz : (prD x y).m = 0
    · rw [if_neg (not_not_intro hz), if_neg (not_not_intro hz), if_pos hz, if_pos hz, if_pos hz, if_pos hz]
      have k1 := sgn_abs x y
      obtain ⟨a1, a2, a3, a4, a5⟩ := allV_fin [sgn x y, 0] (by simp [k1]; decide) mode
      have e : sumD [sgn x y, 0] = nz := by
        rw [sumD_two, valD_z (x := 0) (by decide), valD_z (fcls_1 k1)]; rfl
      rw [e] at a3 a5
      exact ⟨Or.inr ⟨fcls_1 (a5 rfl), fcls_1 k1⟩, a3⟩
    · rw [if_pos hz, if_pos hz, if_neg hz, if_neg hz]; exact ⟨Or.inl rfl, rfl⟩

theorem numk_near01 (k m : Nat) (e : Int) : numk 0 m e ≤ numk k m e ∧ numk k m e ≤ numk 0 m e + 1 := by
  obtain ⟨h1, h2⟩ := @numk_sides m e k
  cases hc : chg m e
  · have ht : (0 : Int) ≤ e + 1074 + ((-(e + 1074)).toNat : Nat) := by omega
    obtain ⟨a1, a2⟩ := chg_exact ht 0 hc
    have := numk_exact ht k _ a1 a2
    omega
  · have := h1 hc; omega
/-- the exponent of the last place -/
def ulE (x : Int) : Int := max (fexp x) 1 - 1075
theorem chg_of2 {d : D} (t : Nat) (he : 0 ≤ d.e + ((1074 + t : Nat) : Int)) {r : Nat} (hr : r < MR) (h : (d.vl (1074 + t)).natAbs = mag r * 2 ^ t) : numC d = false := by
  unfold numC
  have ht : 0 ≤ d.e + 1074 + (t : Int) := by omega
  rw [chg_iff ht]
  exact ⟨r, hr, by rw [tt_vl, h]⟩
theorem mag_q {x : Int} (x0 : 0 ≤ x) (x1 : x ≤ 18446744073709551615) (hx : fabs x < 9218868437227405312) : ∃ q j : Nat, q < 9007199254740992 ∧ mag (fabs x).toNat = q * 2 ^ j ∧ (j : Int) = ulE x + 1074 := by
  obtain ⟨q, hq, h⟩ := mag_parts (fabs x).toNat
  refine ⟨q, _, hq, h, ?_⟩
  have := fabs_bd x
  unfold ulE fexp
  unfold fabs at *
  omega
theorem jj_le {b : Nat} {e : Int} {t K X jn : Nat} (hX : X ≤ 106 + K) (ht : 0 ≤ e + 1074 + t) (h4 : b - 1 + (e + 1074 + t).toNat < X + t) (b2 : 0 < b) (hj : (jn : Int) = max (b + e - 53) (-1074) + 1074) : jn ≤ K + 53 := by omega
/-- what is left between a multiple of 2^K and what it is rounded to -/
theorem rest_rep {m : Nat} {e : Int} {t N K k X : Nat} (hX : X ≤ 106 + K) (ht : 0 ≤ e + 1074 + t) (hm : m ≠ 0) (hN : tt t m e = N * 2 ^ t) {q : Nat} (hq : N = q * 2 ^ K) (hlt : N < 2 ^ X) (hk : numk k m e + 1 < MR) :
    ∃ r, r < MR ∧ mag r = ((N : Int) - (mag (numk k m e) : Nat)).natAbs := by
  have hw := Nat.two_pow_pos t
  have f1 := floor_le hm ht
  have f2 := lt_succ hm ht
  rw [hN] at f1 f2
  have f1 := Nat.le_of_mul_le_mul_right f1 hw
  have f2 := Nat.lt_of_mul_lt_mul_right f2
  obtain ⟨s1, s2⟩ := numk_near01 k m e
  have e0 : numk 0 m e = r0 m e := by
    have h1 : r1 0 m e = r0 m e := by unfold r1 upk; simp
    have h2 : numk 0 m e = if MR ≤ r0 m e then MR - 1 else r0 m e := by unfold numk; rw [if_neg hm, h1, if_pos rfl]
    rw [h2] at s1 ⊢
    split
    · rename_i h; rw [if_pos h] at s1; omega
    · rfl
  rw [e0] at s1 s2
  have g0 := mag_r0 hm e
  have g1 := mag_r1 hm e
  have hj := jj_eq m e
  have hjK : jj m e ≤ K + 53 := by
    have b1 := bl_le hm
    have b2 := bl_pos hm
    have : 2 ^ (bl m - 1 + (e + 1074 + t).toNat) ≤ m * 2 ^ (e + 1074 + t).toNat := by rw [Nat.pow_add]; exact Nat.mul_le_mul_right _ b1
    have h3 : m * 2 ^ (e + 1074 + t).toNat < 2 ^ (X + t) := by
      have : m * 2 ^ (e + 1074 + t).toNat = N * 2 ^ t := hN
      rw [this, Nat.pow_add]; exact Nat.mul_lt_mul_of_pos_right hlt hw
    have h4 := (Nat.pow_lt_pow_iff_right (by decide : 1 < 2)).1 (Nat.lt_of_le_of_lt this h3)
    unfold kk at hj; exact jj_le hX ht h4 b2 hj
  clear hlt hN ht
  obtain ⟨b, hb, en⟩ : ∃ b, b ≤ 1 ∧ numk k m e = r0 m e + b := ⟨numk k m e - r0 m e, by omega, by omega⟩
  have emag : mag (numk k m e) = (qq m e + b) * 2 ^ jj m e := by
    rw [en]
    have hb' : b = 0 ∨ b = 1 := by omega
    rcases hb' with h | h
    · rw [h, Nat.add_zero, Nat.add_zero]; exact g0
    · rw [h]; exact g1
  have hjp := Nat.two_pow_pos (jj m e)
  have hdiff : ((N : Int) - (mag (numk k m e) : Nat)).natAbs ≤ 2 ^ jj m e := by
    have e1 : mag (r0 m e + 1) = mag (r0 m e) + 2 ^ jj m e := by rw [g0, g1, Nat.add_mul, Nat.one_mul]
    have e2 : mag (numk k m e) = mag (r0 m e) + b * 2 ^ jj m e := by rw [emag, g0, Nat.add_mul]
    have hb' : b = 0 ∨ b = 1 := by omega
    rcases hb' with rfl | rfl <;> omega
  -- both are multiples of 2^g
  obtain ⟨g, hg, hgK, hgj⟩ : ∃ g, g = min K (jj m e) ∧ g ≤ K ∧ g ≤ jj m e := ⟨_, rfl, by omega, by omega⟩
  have hgp := Nat.two_pow_pos g
  obtain ⟨A, hA⟩ : ∃ A, N = A * 2 ^ g := ⟨q * 2 ^ (K - g), by rw [hq, Nat.mul_assoc, ← Nat.pow_add]; congr 2; omega⟩
  obtain ⟨C, hC⟩ : ∃ C, mag (numk k m e) = C * 2 ^ g := ⟨(qq m e + b) * 2 ^ (jj m e - g), by rw [emag, Nat.mul_assoc, ← Nat.pow_add]; congr 2; omega⟩
  have hdv : ((N : Int) - (mag (numk k m e) : Nat)).natAbs = ((A : Int) - C).natAbs * 2 ^ g := by
    rw [hA, hC]
    have : (((A * 2 ^ g : Nat) : Int) - ((C * 2 ^ g : Nat) : Int)) = ((A : Int) - C) * (2 ^ g : Nat) := by rw [Int.sub_mul]; simp
    rw [this, Int.natAbs_mul, Int.natAbs_natCast]
  have hD : ((A : Int) - C).natAbs ≤ 9007199254740992 := by
    rw [hdv] at hdiff
    have : 2 ^ jj m e ≤ 9007199254740992 * 2 ^ g := by
      rw [show (9007199254740992 : Nat) = 2 ^ 53 by decide, ← Nat.pow_add]
      exact Nat.pow_le_pow_right (by decide) (by omega)
    exact Nat.le_of_mul_le_mul_right (Nat.le_trans hdiff this) hgp
  obtain ⟨r, hr⟩ := mag_rep g _ hD
  refine ⟨r, ?_, by rw [hr, hdv]⟩
  have : mag r ≤ mag (r0 m e + 1) := by
    rw [hr, ← hdv, g1, Nat.add_mul, Nat.one_mul]; omega
  have := mag_le_iff.1 this
  omega
end Go.Proofs.YtapdjclhpcakeaaDoor
