/-
  PLAIN: products of numbers; a product and a number at once. No Go function here.
-/
import Derived.Test.YtapdjclhpcakeaaDoorSt
import Derived.Test.YtapdjclhpcakeaaDoorSa
set_option linter.unusedVariables false
set_option linter.unusedSimpArgs false
namespace Go.Proofs.YtapdjclhpcakeaaDoor
open Go.RowKit Nt Fm Fl

def sgn (x y : Int) : Int := if fng x = fng y then 0 else 9223372036854775808
def spB (x y : Int) : Bool := decide (fcls x = 5) || (decide (fcls y = 5) || (decide (fcls x = 4) || decide (fcls y = 4)))
def spV (x y : Int) : Int := if fcls x = 5 ∨ fcls y = 5 ∨ (fcls x = 4 ∧ fcls y = 1) ∨ (fcls x = 1 ∧ fcls y = 4) then 9221120237041090560 else if fcls x = 4 ∨ fcls y = 4 then 9218868437227405312 + sgn x y else 0
def prD (x y : Int) : D := times (valD x) (valD y)
def muV0 (x y mode : Int) : Int := if spB x y = true then spV x y else if (prD x y).m = 0 then sgn x y else numR (prD x y) mode
def muC0 (x y : Int) : Bool := if spB x y = true then false else if (prD x y).m = 0 then false else numC (prD x y)
def muV (x y mode : Int) : Int := if knownB mode = true then muV0 x y mode else 0
def muC (x y mode : Int) : Bool := if knownB mode = true then muC0 x y else false
def fsD (x y z : Int) : D := plus (prD x y) (valD z)
def fmV0 (x y z mode : Int) : Int :=
  if fcls z = 5 ∨ (spB x y = true ∧ spV x y = 9221120237041090560) then 9221120237041090560 else if spB x y = true then allV [spV x y, z] mode else if fcls z = 4 then z
  else if (fsD x y z).m ≠ 0 then numR (fsD x y z) mode else if (prD x y).m = 0 then allV [sgn x y, z] mode else if mode = 2 then 9223372036854775808 else 0
def fmC0 (x y z : Int) : Bool :=
  if fcls z = 5 ∨ (spB x y = true ∧ spV x y = 9221120237041090560) then false else if spB x y = true then allC [spV x y, z] else if fcls z = 4 then false
  else if (fsD x y z).m ≠ 0 then numC (fsD x y z) else if (prD x y).m = 0 then allC [sgn x y, z] else false
def fmV (x y z mode : Int) : Int := if knownB mode = true then fmV0 x y z mode else 0
def fmC (x y z mode : Int) : Bool := if knownB mode = true then fmC0 x y z else false

theorem sgn_comm (x y : Int) : sgn x y = sgn y x := by
  unfold sgn
  by_cases h : fng x = fng y
  · rw [if_pos h, if_pos h.symm]
  · rw [if_neg h, if_neg (fun e => h e.symm)]
theorem sgn_bd (x y : Int) : 0 ≤ sgn x y ∧ sgn x y ≤ 9223372036854775808 := by unfold sgn; split <;> omega
theorem sgn_abs (x y : Int) : fabs (sgn x y) = 0 := by unfold sgn; split <;> decide
theorem spB_comm (x y : Int) : spB x y = spB y x := by
  unfold spB
  cases decide (fcls x = 5) <;> cases decide (fcls y = 5) <;> cases decide (fcls x = 4) <;> cases decide (fcls y = 4) <;> rfl
theorem spV_comm (x y : Int) : spV x y = spV y x := by
  unfold spV; rw [sgn_comm x y]
  by_cases h : fcls x = 5 ∨ fcls y = 5 ∨ (fcls x = 4 ∧ fcls y = 1) ∨ (fcls x = 1 ∧ fcls y = 4)
  · have h' : fcls y = 5 ∨ fcls x = 5 ∨ (fcls y = 4 ∧ fcls x = 1) ∨ (fcls y = 1 ∧ fcls x = 4) := by omega
    rw [if_pos h, if_pos h']
  · have h' : ¬ (fcls y = 5 ∨ fcls x = 5 ∨ (fcls y = 4 ∧ fcls x = 1) ∨ (fcls y = 1 ∧ fcls x = 4)) := by omega
    rw [if_neg h, if_neg h']
    by_cases k : fcls x = 4 ∨ fcls y = 4
    · have k' : fcls y = 4 ∨ fcls x = 4 := by omega
      rw [if_pos k, if_pos k']
    · have k' : ¬ (fcls y = 4 ∨ fcls x = 4) := by omega
      rw [if_neg k, if_neg k']
theorem prD_comm (x y : Int) : prD x y = prD y x := times_comm _ _
theorem mu_comm (x y mode : Int) : muV x y mode = muV y x mode ∧ muC x y mode = muC y x mode := by
  unfold muV muC muV0 muC0
  rw [spB_comm, spV_comm, prD_comm, sgn_comm]
  exact ⟨rfl, rfl⟩
theorem prD_nf (x y : Int) : (prD x y).Nf := times_Nf _ _
theorem prD_vl {x y : Int} (x0 : 0 ≤ x) (x1 : x ≤ 18446744073709551615) (y0 : 0 ≤ y) (y1 : y ≤ 18446744073709551615) (hx : fabs x < 9218868437227405312) (hy : fabs y < 9218868437227405312) :
    (prD x y).vl 2148 = smag x * smag y ∧ 0 ≤ (prD x y).e + ((2148 : Nat) : Int) := by
  have e1 := valD_e x0 x1
  have e2 := valD_e y0 y1
  have h := times_vl (valD x) (valD y) 1074 1074 e1 e2
  have k := times_eT e1 e2
  rw [valD_sm x0 x1 hx, valD_sm y0 y1 hy] at h
  exact ⟨h, k⟩
theorem spB_fin {x y : Int} (hx : fabs x < 9218868437227405312) (hy : fabs y < 9218868437227405312) : spB x y = false := by
  obtain ⟨a, b⟩ := fcls_fin hx
  obtain ⟨c, d⟩ := fcls_fin hy
  unfold spB; rw [decide_eq_false a, decide_eq_false b, decide_eq_false c, decide_eq_false d]; rfl
theorem spB_false {x y : Int} (h : spB x y = false) : fabs x < 9218868437227405312 ∧ fabs y < 9218868437227405312 := by
  unfold spB at h
  simp only [Bool.or_eq_false_iff, decide_eq_false_iff_not] at h
  obtain ⟨a, b, c, d⟩ := h
  constructor
  · apply Classical.byContradiction; intro k
    by_cases e : fabs x = 9218868437227405312
    · exact c (fcls_4 e)
    · exact a (fcls_5 (by omega))
  · apply Classical.byContradiction; intro k
    by_cases e : fabs y = 9218868437227405312
    · exact d (fcls_4 e)
    · exact b (fcls_5 (by omega))
theorem numR_bd (d : D) (mode : Int) : 0 ≤ numR d mode ∧ numR d mode ≤ 18446744073709551615 := by
  have := numk_le_MR (kd d.neg mode) d.m d.e
  have hMR : MR = 9218868437227405312 := rfl
  unfold numR; split <;> omega
theorem spV_bd (x y : Int) : 0 ≤ spV x y ∧ spV x y ≤ 18446744073709551615 := by
  have := sgn_bd x y
  unfold spV; split; · omega
  split <;> omega
theorem muV_bd (x y mode : Int) : 0 ≤ muV x y mode ∧ muV x y mode ≤ 18446744073709551615 := by
  have a := sgn_bd x y
  have b := spV_bd x y
  have c := numR_bd (prD x y) mode
  unfold muV muV0; split
  · split; · omega
    split <;> omega
  · omega
theorem fmV_bd (x y z mode : Int) (z0 : 0 ≤ z) (z1 : z ≤ 18446744073709551615) : 0 ≤ fmV x y z mode ∧ fmV x y z mode ≤ 18446744073709551615 := by
  have a := sgn_bd x y
  have b := spV_bd x y
  have c := numR_bd (fsD x y z) mode
  have d := allV_bd [spV x y, z] (by simp; omega) mode
  have e := allV_bd [sgn x y, z] (by simp; omega) mode
  unfold fmV fmV0; split
  · split; · omega
    split; · omega
    split; · omega
    split; · omega
    split; · omega
    split <;> omega
  · omega

/-- a product of numbers that have values: its rank -/
theorem mu_fin {x y : Int} (hx : fabs x < 9218868437227405312) (hy : fabs y < 9218868437227405312) (mode : Int) :
    frank (muV0 x y mode) = rg (prD x y).neg mode (prD x y).m (prD x y).e ∧ muC0 x y = numC (prD x y) ∧ ((prD x y).m = 0 → fabs (muV0 x y mode) = 0) ∧ ((prD x y).m ≠ 0 → muV0 x y mode = numR (prD x y) mode) ∧ fabs (muV0 x y mode) ≤ 9218868437227405312 := by
  unfold muV0 muC0
  rw [spB_fin hx hy]
  simp only [Bool.false_eq_true, if_false]
  by_cases hz : (prD x y).m = 0
  · rw [if_pos hz, if_pos hz]
    have r0 : rg (prD x y).neg mode (prD x y).m (prD x y).e = 0 := by unfold rg numk; rw [hz]; simp
    have c0 : numC (prD x y) = false := by unfold numC chg; simp [hz]
    rw [r0, c0]
    have := sgn_abs x y
    refine ⟨?_, rfl, fun _ => this, fun h => absurd hz h, by omega⟩
    unfold sgn; split <;> decide
  · rw [if_neg hz, if_neg hz]
    obtain ⟨r1, r2⟩ := rank_numR (prD x y) mode
    exact ⟨r1, rfl, fun h => absurd h hz, fun _ => rfl, frerr_0 r2⟩
theorem rg_vl2 {c d : D} (mode : Int) (T : Nat) (hT : 1074 ≤ T) (h1 : 0 ≤ c.e + (T : Int)) (h2 : 0 ≤ d.e + (T : Int)) (h : c.vl T ≤ d.vl T) : rg c.neg mode c.m c.e ≤ rg d.neg mode d.m d.e := by
  obtain ⟨t, rfl⟩ : ∃ t, T = 1074 + t := ⟨T - 1074, by omega⟩
  refine rg_mono (t := t) (by omega) (by omega) mode ?_
  rw [sg_vl c t, sg_vl d t]; exact h
theorem frank_fng {x : Int} (h : fabs x ≤ 9218868437227405312) : frank x = if fng x = true then -fabs x else fabs x := by
  unfold frank fng; rw [if_neg (by omega)]; simp only [decide_eq_true_eq]
theorem inf_sgn (x y : Int) : frank (9218868437227405312 + sgn x y) = (if fng x = fng y then 9218868437227405312 else -9218868437227405312) ∧ frerr (9218868437227405312 + sgn x y) = 0 := by
  unfold sgn; split <;> decide
theorem fcls_ne1 {x : Int} (h : fabs x ≠ 0) : fcls x ≠ 1 := by
  unfold fcls; rw [if_neg h]; split; · decide
  split; · decide
  split <;> decide
theorem fcls_1 {x : Int} (h : fabs x = 0) : fcls x = 1 := by unfold fcls; rw [if_pos h]
/-- an infinite one times what isn't 0, and is a number -/
theorem mu_inf {x y : Int} (mode : Int) (hx : fabs x = 9218868437227405312) (hy : fabs y ≤ 9218868437227405312) : (fabs y = 0 ∧ muV0 x y mode = 9221120237041090560 ∧ muC0 x y = false) ∨ (fabs y ≠ 0 ∧ muV0 x y mode = 9218868437227405312 + sgn x y ∧ muC0 x y = false) := by
  have k4 := fcls_4 hx
  have hb : spB x y = true := by unfold spB; rw [decide_eq_true k4]; simp
  have h5 : fcls y ≠ 5 := by unfold fcls; split; · decide
                             split; · decide
                             split; · decide
                             split; · decide
                             omega
  unfold muV0 muC0 spV
  rw [if_pos hb, if_pos hb]
  by_cases hz : fabs y = 0
  · left; rw [if_pos (Or.inr (Or.inr (Or.inl ⟨k4, fcls_1 hz⟩)))]; exact ⟨hz, rfl, rfl⟩
  · right
    have := fcls_ne1 hz
    rw [if_neg (by omega), if_pos (Or.inl k4)]; exact ⟨hz, rfl, rfl⟩
theorem mu_inf' {x y : Int} (mode : Int) (hy : fabs y = 9218868437227405312) (hx : fabs x ≤ 9218868437227405312) : (fabs x = 0 ∧ muV0 x y mode = 9221120237041090560 ∧ muC0 x y = false) ∨ (fabs x ≠ 0 ∧ muV0 x y mode = 9218868437227405312 + sgn x y ∧ muC0 x y = false) := by
  have e1 : muV0 x y mode = muV0 y x mode := by unfold muV0; rw [spB_comm, spV_comm, prD_comm, sgn_comm]
  have e2 : muC0 x y = muC0 y x := by unfold muC0; rw [spB_comm, prD_comm]
  rw [e1, e2, sgn_comm]
  exact mu_inf mode hy hx
theorem mu_nan {x y : Int} (mode : Int) (h : 9218868437227405312 < fabs x ∨ 9218868437227405312 < fabs y) : muV0 x y mode = 9221120237041090560 ∧ muC0 x y = false := by
  have h5 : fcls x = 5 ∨ fcls y = 5 := by
    rcases h with h | h
    · exact Or.inl (fcls_5 h)
    · exact Or.inr (fcls_5 h)
  have hb : spB x y = true := by unfold spB; rcases h5 with h | h <;> rw [decide_eq_true h] <;> simp
  unfold muV0 muC0 spV
  rw [if_pos hb, if_pos hb, if_pos (by omega)]; exact ⟨rfl, rfl⟩
/-- THE LAW of the order of products -/
theorem mu_mono {x y z : Int} (mode : Int) (x0 : 0 ≤ x) (x1 : x ≤ 18446744073709551615) (y0 : 0 ≤ y) (y1 : y ≤ 18446744073709551615) (z0 : 0 ≤ z) (z1 : z ≤ 18446744073709551615)
    (e : frerr x = 0) (f : frerr y = 0) (g : frerr z = 0) (h : frank x ≤ frank y) (hz : 0 ≤ frank z) (k1 : frerr (muV0 x z mode) = 0) (k2 : frerr (muV0 y z mode) = 0) : frank (muV0 x z mode) ≤ frank (muV0 y z mode) := by
  have hx := frerr_0 e
  have hy := frerr_0 f
  have hzz := frerr_0 g
  have nn : frerr 9221120237041090560 ≠ 0 := by decide
  have bd := fun v => frank_bd v
  have bx := fabs_bd x
  have bY := fabs_bd y
  have bz := fabs_bd z
  have fx := frank_fng hx
  have fy := frank_fng hy
  have fz := frank_fng hzz
  by_cases zi : fabs z = 9218868437227405312
  · have gz : fng z = false := by
      cases hg : fng z
      · rfl
      · rw [hg, if_pos rfl] at fz; omega
    rcases mu_inf' (x := x) mode zi hx with ⟨-, a, -⟩ | ⟨a0, a, -⟩
    · rw [a] at k1; exact absurd k1 nn
    rcases mu_inf' (x := y) mode zi hy with ⟨-, b, -⟩ | ⟨b0, b, -⟩
    · rw [b] at k2; exact absurd k2 nn
    rw [a, b, (inf_sgn x z).1, (inf_sgn y z).1, gz]
    cases hgx : fng x <;> cases hgy : fng y <;> rw [hgx] at fx <;> rw [hgy] at fy <;> simp at fx fy ⊢
    omega
  · have hz1 : fabs z < 9218868437227405312 := by omega
    clear hzz
    by_cases xi : fabs x = 9218868437227405312
    · rcases mu_inf (y := z) mode xi (by omega) with ⟨-, a, -⟩ | ⟨a0, a, -⟩
      · rw [a] at k1; exact absurd k1 nn
      have gz : fng z = false := by
        cases hg : fng z
        · rfl
        · rw [hg, if_pos rfl] at fz; omega
      rw [a, (inf_sgn x z).1, gz]
      cases hgx : fng x
      · rw [hgx] at fx; simp only [Bool.false_eq_true, if_false] at fx
        have yi : fabs y = 9218868437227405312 := by
          have := (frank_le_fabs y).1; omega
        rcases mu_inf (y := z) mode yi (by omega) with ⟨b0, b, -⟩ | ⟨b0, b, -⟩
        · omega
        have gy : fng y = false := by
          cases hg : fng y
          · rfl
          · rw [hg, if_pos rfl] at fy; omega
        rw [b, (inf_sgn y z).1, gz, gy]; simp
      · simp only [Bool.true_eq_false, if_false]
        exact (bd _).1
    · have hx1 : fabs x < 9218868437227405312 := by omega
      by_cases yi : fabs y = 9218868437227405312
      · rcases mu_inf (y := z) mode yi (by omega) with ⟨b0, b, -⟩ | ⟨b0, b, -⟩
        · rw [b] at k2; exact absurd k2 nn
        have gz : fng z = false := by
          cases hg : fng z
          · rfl
          · rw [hg, if_pos rfl] at fz; omega
        have gy : fng y = false := by
          cases hg : fng y
          · rfl
          · rw [hg, if_pos rfl] at fy; have := (frank_le_fabs x).2; omega
        rw [b, (inf_sgn y z).1, gz, gy]; simp only [if_true]
        exact (bd _).2
      · have hy1 : fabs y < 9218868437227405312 := by omega
        rw [(mu_fin hx1 hz1 mode).1, (mu_fin hy1 hz1 mode).1]
        obtain ⟨a1, a2⟩ := prD_vl x0 x1 z0 z1 hx1 hz1
        obtain ⟨b1, b2⟩ := prD_vl y0 y1 z0 z1 hy1 hz1
        refine rg_vl2 mode 2148 (by decide) a2 b2 ?_
        rw [a1, b1]
        exact Int.mul_le_mul_of_nonneg_right (smag_mono hx1 hy1 h) (smag_nonneg hz1 hz)
/-- exact just if nothing is lost -/
theorem mu_exact {x y : Int} (hx : fabs x < 9218868437227405312) (hy : fabs y < 9218868437227405312) (mode : Int) : (muC0 x y = false ∧ hasV (muV0 x y mode) = true ∧ valD (muV0 x y mode) = prD x y) ∨ (muC0 x y = true ∧ (hasV (muV0 x y mode) = true → valD (muV0 x y mode) ≠ prD x y)) := by
  obtain ⟨a1, a2, a3, a4, a5⟩ := mu_fin hx hy mode
  have hb : 0 ≤ muV0 x y mode ∧ muV0 x y mode ≤ 18446744073709551615 := by
    have := muV_bd x y 0
    have a := sgn_bd x y
    have b := spV_bd x y
    have c := numR_bd (prD x y) mode
    unfold muV0; split
    · omega
    · split <;> omega
  cases hc : muC0 x y
  · left
    refine ⟨rfl, ?_⟩
    by_cases hz : (prD x y).m = 0
    · rw [nf_z (prD_nf x y) hz]; exact hasV_z (a3 hz)
    · rw [a4 hz]
      have := valD_numR (prD_nf x y) mode (a2 ▸ hc)
      exact ⟨this.2, this.1⟩
  · right
    refine ⟨rfl, fun hv he => ?_⟩
    have hv' : fabs (muV0 x y mode) < 9218868437227405312 := by unfold hasV at hv; simpa using hv
    have := (valD_num _ hb.1 hb.2 hv' mode).1
    rw [he, ← a2, hc] at this; cases this
end Go.Proofs.YtapdjclhpcakeaaDoor
