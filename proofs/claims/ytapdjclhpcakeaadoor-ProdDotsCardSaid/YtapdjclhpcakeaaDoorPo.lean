/-
  PLAIN: what is left of a product is a number; a product by a power of two. No Go function here.
-/
import Derived.Test.YtapdjclhpcakeaaDoorPn
set_option linter.unusedVariables false
set_option linter.unusedSimpArgs false
namespace Go.Proofs.YtapdjclhpcakeaaDoor
open Go.RowKit Nt Fm Fl

theorem muV0_bd (x y mode : Int) : 0 ≤ muV0 x y mode ∧ muV0 x y mode ≤ 18446744073709551615 := by
  have a := sgn_bd x y
  have b := spV_bd x y
  have c := numR_bd (prD x y) mode
  unfold muV0; split
  · omega
  · split <;> omega
theorem smag_abs (x : Int) : (smag x).natAbs = mag (fabs x).toNat := by unfold smag; split <;> simp
theorem prD_vl' {x y : Int} (x0 : 0 ≤ x) (x1 : x ≤ 18446744073709551615) (y0 : 0 ≤ y) (y1 : y ≤ 18446744073709551615) (hx : fabs x < 9218868437227405312) (hy : fabs y < 9218868437227405312) (t : Nat) (ht : t = 1074) :
    (prD x y).vl (1074 + t) = smag x * smag y ∧ 0 ≤ (prD x y).e + ((1074 + t : Nat) : Int) := by
  subst ht; exact prD_vl x0 x1 y0 y1 hx hy
theorem fm_rest {x y : Int} (mode : Int) (x0 : 0 ≤ x) (x1 : x ≤ 18446744073709551615) (y0 : 0 ≤ y) (y1 : y ≤ 18446744073709551615) (hx : fabs x < 9218868437227405312) (hy : fabs y < 9218868437227405312)
    (hu : -1074 ≤ ulE x + ulE y) (hp : fabs (muV0 x y mode) < 9218868437227405311) : fmC0 x y (fneg (muV0 x y mode)) = false := by
  have hMR : MR = 9218868437227405312 := rfl
  obtain ⟨a1, a2, a3, a4, a5⟩ := mu_fin hx hy mode
  have pb := muV0_bd x y mode
  generalize muV0 x y mode = p at *
  have pf : fabs (fneg p) < 9218868437227405312 := by rw [fabs_fneg]; omega
  have hne : ¬ (fcls (fneg p) = 5 ∨ (spB x y = true ∧ spV x y = 9221120237041090560)) := by
    rintro (h | ⟨h, -⟩)
    · exact (fcls_fin pf).1 h
    · rw [spB_fin hx hy] at h; cases h
  unfold fmC0
  rw [if_neg hne, spB_fin hx hy, if_neg (by decide), if_neg (fcls_fin pf).2]
  have zz : ∀ a b : Int, fabs a = 0 → fabs b = 0 → allC [a, b] = false := by
    intro a b ha hb
    obtain ⟨-, -, c3, -, -⟩ := allV_fin [a, b] (by simp [ha, hb]) 0
    rw [c3, sumD_two, valD_z (fcls_1 ha), valD_z (fcls_1 hb)]; decide
  by_cases hz : (prD x y).m = 0
  · have h0 : fabs (fneg p) = 0 := by rw [fabs_fneg]; exact a3 hz
    have : fsD x y (fneg p) = nz := by unfold fsD; rw [nf_z (prD_nf x y) hz, valD_z (fcls_1 h0)]; rfl
    rw [this, if_neg (by decide), if_pos hz]
    exact zz _ _ (sgn_abs x y) h0
  · by_cases hS : (fsD x y (fneg p)).m ≠ 0
    · rw [if_pos hS]
      have hnp := a4 hz
      obtain ⟨f1, f2⟩ := fng_numR (prD x y) mode
      rw [← hnp] at f1 f2
      obtain ⟨t, ht⟩ : ∃ t : Nat, t = 1074 := ⟨_, rfl⟩
      obtain ⟨v, ve⟩ := prD_vl' x0 x1 y0 y1 hx hy t ht
      obtain ⟨qx, jx, hqx, mx, ejx⟩ := mag_q x0 x1 hx
      obtain ⟨qy, jy, hqy, my, ejy⟩ := mag_q y0 y1 hy
      obtain ⟨K, hK⟩ : ∃ K, K + t = jx + jy := ⟨jx + jy - t, by omega⟩
      have hN : tt t (prD x y).m (prD x y).e = (qx * qy * 2 ^ K) * 2 ^ t := by
        rw [tt_vl (prD x y) t, v, Int.natAbs_mul, smag_abs, smag_abs, mx, my, Nat.mul_assoc (qx * qy), ← Nat.pow_add, hK, Nat.pow_add, Nat.mul_mul_mul_comm]
      have hlt : qx * qy * 2 ^ K < 2 ^ (106 + K) := by
        rw [Nat.pow_add]
        refine Nat.mul_lt_mul_of_pos_right ?_ (Nat.two_pow_pos _)
        calc qx * qy < 9007199254740992 * 9007199254740992 := Nat.mul_lt_mul'' hqx hqy
          _ = 2 ^ 106 := by decide
      have hb := fabs_bd p
      obtain ⟨r, hr, er⟩ := rest_rep (k := kd (prD x y).neg mode) (t := t) (X := 106 + K) (Nat.le_refl _) (by omega) hz hN rfl hlt (by rw [← f1]; omega)
      rw [← f1] at er
      have e2 : 0 ≤ (valD p).e + ((1074 + t : Nat) : Int) := by have := (valD_facts p pb.1 pb.2).2.2.1; omega
      have e3 : 0 ≤ (opp (valD p)).e + ((1074 + t : Nat) : Int) := e2
      have hfs : fsD x y (fneg p) = plus (prD x y) (opp (valD p)) := by unfold fsD; rw [valD_fneg pb.1 pb.2]
      refine chg_of2 t (by rw [hfs]; exact plus_eT ve e3) hr ?_
      rw [hfs, plus_vl _ _ _ ve e3, opp_vl, valD_vl p pb.1 pb.2 (by omega), f2, ← sg_vl (prD x y) t]
      unfold sg
      rw [hN, er]
      have hw := Nat.two_pow_pos t
      generalize 2 ^ t = Z at *
      generalize qx * qy * 2 ^ K = N at *
      generalize mag (fabs p).toNat = M at *
      have e5 : ((N * Z : Nat) : Int) - ((M * Z : Nat) : Int) = ((N : Int) - M) * (Z : Int) := by rw [Int.sub_mul]; simp
      cases (prD x y).neg
      · simp only [Bool.false_eq_true, if_false]
        rw [← Int.sub_eq_add_neg, e5, Int.natAbs_mul, Int.natAbs_natCast]
      · simp only [if_true]
        rw [show -((N * Z : Nat) : Int) + - -((M * Z : Nat) : Int) = -(((N * Z : Nat) : Int) - ((M * Z : Nat) : Int)) by omega, e5, Int.natAbs_neg, Int.natAbs_mul, Int.natAbs_natCast]
    · rw [if_neg hS, if_neg hz]

theorem fmk_facts {s : Bool} {e f : Int} (e0 : 0 ≤ e) (e1 : e ≤ 2047) (f0 : 0 ≤ f) (f1 : f ≤ 4503599627370495) :
    fabs (fmk s e f) = e * 4503599627370496 + f ∧ fng (fmk s e f) = s ∧ 0 ≤ fmk s e f ∧ fmk s e f ≤ 18446744073709551615 := by
  unfold fmk fabs fng
  cases s <;> simp <;> omega
theorem mag_fmk {s : Bool} {e f : Int} (e0 : 1 ≤ e) (e1 : e ≤ 2046) (f0 : 0 ≤ f) (f1 : f ≤ 4503599627370495) :
    mag (fabs (fmk s e f)).toNat = (f.toNat + 4503599627370496) * 2 ^ (e - 1).toNat := by
  rw [(fmk_facts (by omega) (by omega) f0 f1).1, ← mag_of (f.toNat + 4503599627370496) (e - 1).toNat (by omega) (by omega)]
  congr 1; omega
theorem fmk_self {x : Int} (x0 : 0 ≤ x) (x1 : x ≤ 18446744073709551615) : fmk (fng x) (fexp x) (ffr x) = x := by
  unfold fmk fng fexp ffr; simp only [decide_eq_true_eq]; split <;> omega
/-- times a power of two -/
theorem mu_power {x k : Int} (mode : Int) (x0 : 0 ≤ x) (x1 : x ≤ 18446744073709551615) (h1 : 1 ≤ fexp x) (h2 : fexp x ≤ 2046) (k0 : -1022 ≤ k) (k1 : k ≤ 1023) (h3 : 1 ≤ fexp x + k) (h4 : fexp x + k ≤ 2046) :
    muV0 x (fmk false (1023 + k) 0) mode = fmk (fng x) (fexp x + k) (ffr x) ∧ muC0 x (fmk false (1023 + k) 0) = false := by
  have hf := ffr_bd x
  have hself := fmk_self x0 x1
  obtain ⟨e, he⟩ : ∃ e, e = fexp x := ⟨_, rfl⟩
  obtain ⟨f, hff⟩ : ∃ f, f = ffr x := ⟨_, rfl⟩
  obtain ⟨s, hs⟩ : ∃ s, s = fng x := ⟨_, rfl⟩
  rw [← he, ← hff, ← hs] at hself
  rw [← he] at h1 h2 h3 h4
  rw [← hff] at hf
  rw [← he, ← hff, ← hs]
  obtain ⟨p1, p2, p3, p4⟩ := @fmk_facts false (1023 + k) 0 (by omega) (by omega) (by omega) (by omega)
  obtain ⟨w1, w2, w3, w4⟩ := @fmk_facts s (e + k) f (by omega) (by omega) hf.1 hf.2
  have m1 := @mag_fmk s e f h1 h2 hf.1 hf.2
  have m2 := @mag_fmk false (1023 + k) 0 (by omega) (by omega) (by omega) (by omega)
  have m3 := @mag_fmk s (e + k) f h3 h4 hf.1 hf.2
  rw [hself] at m1
  have hx : fabs x < 9218868437227405312 := by
    have : fabs x = e * 4503599627370496 + f := by rw [← hself]; exact (fmk_facts (by omega) (by omega) hf.1 hf.2).1
    omega
  have hp : fabs (fmk false (1023 + k) 0) < 9218868437227405312 := by omega
  have hw : fabs (fmk s (e + k) f) < 9218868437227405312 := by omega
  obtain ⟨t, ht⟩ : ∃ t : Nat, t = 1074 := ⟨_, rfl⟩
  obtain ⟨v, ve⟩ := prD_vl' x0 x1 p3 p4 hx hp t ht
  have hD : prD x (fmk false (1023 + k) 0) = valD (fmk s (e + k) f) := by
    have e2 := (valD_facts _ w3 w4).2.2.1
    refine nf_inj (prD_nf _ _) (valD_nf _) ve (T := 1074 + t) (by omega) ?_
    rw [v, valD_vl _ w3 w4 hw, w2, m3]
    unfold smag
    rw [m1, m2, p2, ← hs]
    have e5 : ((f.toNat + 4503599627370496) * 2 ^ (e - 1).toNat) * ((Int.toNat 0 + 4503599627370496) * 2 ^ (1023 + k - 1).toNat) = (f.toNat + 4503599627370496) * 2 ^ (e + k - 1).toNat * 2 ^ t := by
      rw [show Int.toNat 0 + 4503599627370496 = 2 ^ 52 by decide, ← Nat.pow_add, Nat.mul_assoc, Nat.mul_assoc, ← Nat.pow_add, ← Nat.pow_add]
      congr 2; omega
    rw [← e5]
    cases s <;> simp [Int.neg_mul]
  obtain ⟨a1, a2, a3, a4, a5⟩ := mu_fin hx hp mode
  obtain ⟨n1, n2⟩ := valD_num _ w3 w4 hw mode
  rw [hD] at a2 a3 a4
  refine ⟨?_, by rw [a2, n1]⟩
  have hm : (valD (fmk s (e + k) f)).m ≠ 0 := by
    intro h
    have := valD_m0 w3 w4 hw h
    omega
  rw [a4 hm]
  rcases n2 with h | ⟨h, -⟩
  · exact h
  · exfalso; rw [h] at w1
    have : fabs 9223372036854775808 = 0 := by decide
    omega
end Go.Proofs.YtapdjclhpcakeaaDoor
