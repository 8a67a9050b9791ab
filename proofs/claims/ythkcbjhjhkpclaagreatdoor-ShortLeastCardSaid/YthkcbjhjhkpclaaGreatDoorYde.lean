/-
  SOME OF MY TEXTS in one: Yd Ye. Each says what it proves.
-/
import Derived.Test.YthkcbjhjhkpclaaGreatDoorYab
import Derived.Test.YthkcbjhjhkpclaaGreatDoorZu
import Derived.Test.YthkcbjhjhkpclaaGreatDoorLk
set_option linter.unusedVariables false
set_option linter.unusedSimpArgs false
/-
  PLAIN: the fewest digits (STEELE, WHITE): what short.Digits tells.
-/
namespace Go.Proofs.YthkcbjhjhkpclaaGreatDoor
open Nt Fm Fl

theorem sg_pos (a b : Nat) : 0 < sgn2 (a : Int) (b : Int) ↔ b < a := by unfold sgn2; split <;> (try split) <;> omega
theorem sg_neg (a b : Nat) : sgn2 (a : Int) (b : Int) < 0 ↔ a < b := by unfold sgn2; split <;> (try split) <;> omega
theorem sg_nul (a b : Nat) : sgn2 (a : Int) (b : Int) = 0 ↔ a = b := by unfold sgn2; split <;> (try split) <;> omega
/-- both sides' factors -/
def shA (k e : Int) : Nat := 10 ^ k.toNat * 2 ^ (-e).toNat
def shB (k e : Int) : Nat := 2 ^ e.toNat * 10 ^ (-k).toNat
theorem shA_pos (k e : Int) : 0 < shA k e := Nat.mul_pos (Nat.pow_pos (by omega)) (Nat.two_pow_pos _)
theorem shB_pos (k e : Int) : 0 < shB k e := Nat.mul_pos (Nat.two_pow_pos _) (Nat.pow_pos (by omega))
theorem cpA_eq (a : Nat) (k e : Int) : cpA a k e = a * shA k e := by unfold cpA shA; rw [Nat.mul_assoc]
theorem cpB_eq (b : Nat) (k e : Int) : cpB b k e = b * shB k e := by unfold cpB shB; rw [Nat.mul_assoc]
theorem ft_iff (n L H : Nat) (k e : Int) (ev : Bool) : ftB n L H k e ev = true ↔ (L * shB k e < n * shA k e ∧ n * shA k e < H * shB k e) ∨ (ev = true ∧ (n * shA k e = L * shB k e ∨ n * shA k e = H * shB k e)) := by
  unfold ftB ftLo
  rw [cpA_eq, cpB_eq, cpB_eq, Bool.or_eq_true, Bool.and_eq_true, Bool.and_eq_true, Bool.or_eq_true, decide_eq_true_eq, decide_eq_true_eq, beq_iff_eq, beq_iff_eq, sg_pos, sg_neg, sg_nul, sg_nul]
/-- a number and its parts -/
theorem parts_eq {x : Int} (x0 : 0 ≤ x) (x1 : x ≤ 18446744073709551615) : fabs x = fexp x * 4503599627370496 + ffr x := by unfold fabs fexp ffr; omega
theorem lm_mag {x : Int} (x0 : 0 ≤ x) (x1 : x ≤ 18446744073709551615) : mag (fabs x).toNat = lmM x * 2 ^ ((fexp x).toNat - 1) ∧ ulp (fabs x).toNat = 2 ^ ((fexp x).toNat - 1) ∧ lmE x + 1076 = (((fexp x).toNat - 1 : Nat) : Int) := by
  have hp := parts_eq x0 x1
  have hf := ffr_bd x
  have he := fexp_bd x
  unfold lmM lmE
  generalize fexp x = e at *
  generalize ffr x = f at *
  generalize fabs x = a at *
  subst hp
  refine ⟨?_, ?_, by omega⟩
  · by_cases h : 0 < e
    · rw [if_pos h]
      have := mag_of (f + 4503599627370496).toNat (e.toNat - 1) (Or.inl (by omega)) (by omega)
      rw [← this]
      congr 1
      omega
    · rw [if_neg h]
      have := mag_of f.toNat 0 (Or.inr rfl) (by omega)
      rw [show e.toNat - 1 = 0 by omega, ← this]
      congr 1
      omega
  · unfold ulp
    congr 2
    omega
theorem lm_ulp {x : Int} (x0 : 0 ≤ x) (x1 : x ≤ 18446744073709551615) (hx : 1 ≤ fabs x) :
    4 * ulp ((fabs x).toNat - 1) * 2 = 4 * (4 * lmM x - lmL x) * 2 ^ ((fexp x).toNat - 1) ∧ 1 ≤ lmM x := by
  have hp := parts_eq x0 x1
  have hf := ffr_bd x
  have he := fexp_bd x
  have hm1 : 1 ≤ lmM x := by unfold lmM; split <;> omega
  refine ⟨?_, hm1⟩
  unfold lmL
  have hM : (4 * lmM x - (if ffr x = 0 ∧ 1 < fexp x then 4 * lmM x - 1 else 4 * lmM x - 2)) = if ffr x = 0 ∧ 1 < fexp x then 1 else 2 := by split <;> omega
  rw [hM]
  clear hM hm1
  generalize fexp x = e at *
  generalize ffr x = f at *
  generalize fabs x = a at *
  subst hp
  unfold ulp
  by_cases h : f = 0 ∧ 1 < e
  · obtain ⟨rfl, h2⟩ := h
    rw [if_pos ⟨rfl, h2⟩, show ((e * 4503599627370496 + 0).toNat - 1) / 4503599627370496 - 1 = e.toNat - 2 by omega, show e.toNat - 1 = (e.toNat - 2) + 1 by omega, Nat.pow_succ]
    omega
  · rw [if_neg h, show ((e * 4503599627370496 + f).toNat - 1) / 4503599627370496 - 1 = e.toNat - 1 by omega]
    omega
/-- what fits is read as it -/
theorem fits_rat {x : Int} (x0 : 0 ≤ x) (x1 : x ≤ 18446744073709551615) (hv : hasV x = true) (hx : 1 ≤ fabs x) (N : Nat) (K : Int) :
    ftB N (lmL x) (4 * lmM x + 2) K (lmE x) (decide (ffr x % 2 = 0)) = true ↔ rat 2 (rdA N K) (rdB K) = (fabs x).toNat := by
  have hMR : MR = 9218868437227405312 := rfl
  have hlt : (fabs x).toNat < MR := by unfold hasV at hv; rw [decide_eq_true_eq] at hv; omega
  obtain ⟨m1, m2, m3⟩ := lm_mag x0 x1
  obtain ⟨m4, m5⟩ := lm_ulp x0 x1 hx
  have s1 := mag_succ (fabs x).toNat
  have s2 := mag_succ ((fabs x).toNat - 1)
  rw [show (fabs x).toNat - 1 + 1 = (fabs x).toNat by omega] at s2
  rw [rat2_iff (rdB_pos K) hlt, ft_iff]
  have hpar : (fabs x).toNat % 2 = 0 ↔ ffr x % 2 = 0 := by have := parts_eq x0 x1; omega
  have hL : lmL x ≤ 4 * lmM x := by unfold lmL; split <;> omega
  rw [decide_eq_true_eq, hpar]
  -- all in one unit
  obtain ⟨g, hg⟩ : ∃ g, g = (fexp x).toNat - 1 := ⟨_, rfl⟩
  rw [← hg] at m1 m2 m3 m4
  have hr0 : ¬ (fabs x).toNat = 0 := by omega
  have eL : 2 * (mag ((fabs x).toNat - 1) + mag (fabs x).toNat) = lmL x * 2 ^ g := by
    have e1 : 4 * (4 * lmM x - lmL x) * 2 ^ g = 4 * (4 * (lmM x * 2 ^ g)) - 4 * (lmL x * 2 ^ g) := by
      rw [Nat.mul_assoc, Nat.sub_mul, Nat.mul_sub, Nat.mul_assoc 4 (lmM x)]
    have e2 : lmL x * 2 ^ g ≤ 4 * (lmM x * 2 ^ g) := by rw [← Nat.mul_assoc]; exact Nat.mul_le_mul_right _ hL
    rw [e1] at m4
    rw [m1] at s2
    omega
  have eH : 2 * (mag (fabs x).toNat + mag ((fabs x).toNat + 1)) = (4 * lmM x + 2) * 2 ^ g := by
    rw [s1, m1, m2, Nat.add_mul, Nat.mul_assoc]; omega
  have hLH : lmL x < 4 * lmM x + 2 := by omega
  have hu := u74_pos
  have hVS : 0 < 2 ^ (lmE x).toNat * 10 ^ (-K).toNat := Nat.mul_pos (Nat.two_pow_pos _) (Nat.pow_pos (by omega))
  unfold rdA rdB shA shB
  generalize mag ((fabs x).toNat - 1) + mag (fabs x).toNat = l at *
  generalize mag (fabs x).toNat + mag ((fabs x).toNat + 1) = h at *
  generalize lmL x = L at *
  generalize 4 * lmM x + 2 = H at *
  generalize lmE x = E at *
  have hU : 2 ^ g * 2 ^ (-E).toNat = 4 * u74 * 2 ^ E.toNat := by
    have h22 : (2 : Nat) ^ 2 = 4 := rfl
    have h4 : 4 * u74 = 2 ^ (K74 + 2) := by rw [u74, Nat.pow_add, h22, Nat.mul_comm]
    rw [h4, ← Nat.pow_add, ← Nat.pow_add]
    have hK : K74 = 1074 := rfl
    have hq : g + (-E).toNat = K74 + 2 + E.toNat := by omega
    rw [hq]
  have hW := Nat.two_pow_pos (-E).toNat
  have hG := Nat.two_pow_pos g
  generalize (10 : Nat) ^ K.toNat = T at *
  generalize (10 : Nat) ^ (-K).toNat = S at *
  generalize (2 : Nat) ^ E.toNat = V at *
  generalize (2 : Nat) ^ (-E).toNat = W at *
  generalize (2 : Nat) ^ g = G at *
  generalize u74 = U at *
  -- l S against 2 N T U: times 2 W
  have c1 : l * S * (2 * W) = L * (V * S) * (4 * U) := by
    calc l * S * (2 * W) = (2 * l) * S * W := by ac_rfl
      _ = L * G * S * W := by rw [eL]
      _ = L * S * (G * W) := by ac_rfl
      _ = L * S * (4 * U * V) := by rw [hU]
      _ = _ := by ac_rfl
  have c2 : h * S * (2 * W) = H * (V * S) * (4 * U) := by
    calc h * S * (2 * W) = (2 * h) * S * W := by ac_rfl
      _ = H * G * S * W := by rw [eH]
      _ = H * S * (G * W) := by ac_rfl
      _ = H * S * (4 * U * V) := by rw [hU]
      _ = _ := by ac_rfl
  have c3 : 2 * (N * T * U) * (2 * W) = N * (T * W) * (4 * U) := by
    calc 2 * (N * T * U) * (2 * W) = (2 * 2) * (N * (T * W) * U) := by ac_rfl
      _ = 4 * (N * (T * W) * U) := rfl
      _ = _ := by ac_rfl
  have hU0 : 0 < 4 * U := by omega
  have h2W : 0 < 2 * W := by omega
  have lt1 : l * S < 2 * (N * T * U) ↔ L * (V * S) < N * (T * W) := by
    rw [← Nat.mul_lt_mul_right h2W, c1, c3, Nat.mul_lt_mul_right hU0]
  have eq1 : l * S = 2 * (N * T * U) ↔ L * (V * S) = N * (T * W) := by
    rw [← Nat.mul_left_inj (show 2 * W ≠ 0 by omega), c1, c3, Nat.mul_left_inj (by omega)]
  have lt2 : 2 * (N * T * U) < h * S ↔ N * (T * W) < H * (V * S) := by
    rw [← Nat.mul_lt_mul_right h2W, c2, c3, Nat.mul_lt_mul_right hU0]
  have eq2 : 2 * (N * T * U) = h * S ↔ N * (T * W) = H * (V * S) := by
    rw [← Nat.mul_left_inj (show 2 * W ≠ 0 by omega), c2, c3, Nat.mul_left_inj (by omega)]
  rw [lt1, eq1, lt2, eq2]
  have hy := Nat.mul_lt_mul_of_pos_right hLH hVS
  generalize L * (V * S) = y1 at *
  generalize N * (T * W) = y2 at *
  generalize H * (V * S) = y3 at *
  generalize (ffr x % 2 = 0) = ev at *
  constructor
  · rintro (⟨h1, h2⟩ | ⟨h1, h2 | h2⟩)
    · exact ⟨Or.inr (Or.inl h1), Or.inl h2⟩
    · exact ⟨Or.inr (Or.inr ⟨h2.symm, h1⟩), Or.inl (by omega)⟩
    · exact ⟨Or.inr (Or.inl (by omega)), Or.inr ⟨h2, h1⟩⟩
  · rintro ⟨h1 | h1 | ⟨h1, h3⟩, h2 | ⟨h2, h4⟩⟩
    · exact absurd h1 hr0
    · exact absurd h1 hr0
    · exact Or.inl ⟨h1, h2⟩
    · exact Or.inr ⟨h4, Or.inr h2⟩
    · exact Or.inr ⟨h3, Or.inl h1.symm⟩
    · exact Or.inr ⟨h3, Or.inl h1.symm⟩
end Go.Proofs.YthkcbjhjhkpclaaGreatDoor

/-
  PLAIN: the fewest digits: where the search stops, and what stands there.
-/
namespace Go.Proofs.YthkcbjhjhkpclaaGreatDoor
open Nt Fm Fl

theorem sh_norm_up (g : Bool) (m : Nat) (x : Int) : norm g (4 * m) (x - 2) = norm g m x := by
  have h1 : 0 ≤ x - 2 + ((((-x).toNat + 2 : Nat)) : Int) := by omega
  generalize ((-x).toNat + 2 : Nat) = T at *
  refine nf_inj (norm_nf _ _ _) (norm_nf _ _ _) (norm_eT h1) (norm_eT (by omega)) ?_
  rw [norm_vl _ _ _ _ h1, norm_vl _ _ _ _ (by omega)]
  unfold D.vl D.sm
  simp only
  rw [show (x + (T : Int)).toNat = 2 + (x - 2 + (T : Int)).toNat by omega, Int.pow_add, ← Int.mul_assoc]
  congr 1
  cases g <;> simp <;> omega
theorem sh_norm_me (a b : Bool) (m : Nat) (e : Int) : (norm a m e).m = (norm b m e).m ∧ (norm a m e).e = (norm b m e).e := by
  unfold norm; split <;> exact ⟨rfl, rfl⟩
/-- the size of a number -/
def shD (x : Int) : D := norm false (4 * lmM x) (lmE x)
theorem shD_eq (x : Int) : (shD x).m = (valD x).m ∧ (shD x).e = (valD x).e := by
  unfold shD valD lmE
  rw [show max (fexp x) 1 - 1077 = max (fexp x) 1 - 1075 - 2 by omega, sh_norm_up]
  exact sh_norm_me _ _ _ _
theorem shD_dN (x t : Int) : dN (shD x) t = dN (valD x) t ∧ dD (shD x) t = dD (valD x) t := by
  obtain ⟨h1, h2⟩ := shD_eq x
  unfold dN dD
  rw [h1, h2]
  exact ⟨rfl, rfl⟩
theorem shD_lg (x : Int) : lgD (shD x) = lgD (valD x) := by
  unfold lgD
  congr 1
  funext p
  unfold IsLg
  rw [(shD_dN x _).1, (shD_dN x _).1, (shD_dN x _).2, (shD_dN x _).2]
theorem shD_mid {x : Int} (x0 : 0 ≤ x) (x1 : x ≤ 18446744073709551615) (hx : 1 ≤ fabs x) : Mid (shD x) ∧ Mid (valD x) := by
  obtain ⟨h1, h2⟩ := shD_eq x
  have hm := (lm_ulp x0 x1 hx).2
  have h0 : (shD x).m ≠ 0 := by
    unfold shD norm
    rw [if_neg (by omega)]
    obtain ⟨q, g1, g2⟩ := ctz_spec (show 4 * lmM x ≠ 0 by omega)
    have : 4 * lmM x / 2 ^ ctz (4 * lmM x) = q := by
      conv => lhs; lhs; rw [g1]
      exact Nat.mul_div_cancel _ (Nat.two_pow_pos _)
    show 4 * lmM x / 2 ^ ctz (4 * lmM x) ≠ 0
    rw [this]; omega
  rcases val_mid x0 x1 with h | h
  · rw [← h1] at h; exact absurd h h0
  · exact ⟨⟨h0, by rw [h1]; exact h.m1, by rw [h2]; exact h.e0, by rw [h2]; exact h.e1⟩, h⟩
/-- the quotient's both sides, by the limits' unit -/
theorem sh_cross (x K : Int) (hm : 1 ≤ lmM x) : dN (shD x) (-K) * shA K (lmE x) = 4 * lmM x * shB K (lmE x) * dD (shD x) (-K) := by
  obtain ⟨q, g1, g2⟩ := ctz_spec (show 4 * lmM x ≠ 0 by omega)
  have hdiv : 4 * lmM x / 2 ^ ctz (4 * lmM x) = q := by
    conv => lhs; lhs; rw [g1]
    exact Nat.mul_div_cancel _ (Nat.two_pow_pos _)
  have e1 : (shD x).m = q ∧ (shD x).e = lmE x + ctz (4 * lmM x) := by
    unfold shD norm
    rw [if_neg (by omega)]
    exact ⟨hdiv, rfl⟩
  unfold dN dD shA shB
  rw [e1.1, e1.2, Int.neg_neg]
  generalize lmE x = E at *
  generalize ctz (4 * lmM x) = z at *
  rw [g1]
  have hz : 2 ^ (E + (z : Int)).toNat * 2 ^ (-E).toNat = 2 ^ z * 2 ^ E.toNat * 2 ^ (-(E + (z : Int))).toNat := by
    rw [← Nat.pow_add, ← Nat.pow_add, ← Nat.pow_add]; congr 1; omega
  calc q * 10 ^ (-K).toNat * 2 ^ (E + (z : Int)).toNat * (10 ^ K.toNat * 2 ^ (-E).toNat) = q * 10 ^ (-K).toNat * 10 ^ K.toNat * (2 ^ (E + (z : Int)).toNat * 2 ^ (-E).toNat) := by ac_rfl
    _ = q * 10 ^ (-K).toNat * 10 ^ K.toNat * (2 ^ z * 2 ^ E.toNat * 2 ^ (-(E + (z : Int))).toNat) := by rw [hz]
    _ = _ := by ac_rfl
/-- the digits' number at n of them -/
noncomputable def shK (x : Int) (n : Nat) : Int := lgD (shD x) + 1 - n
noncomputable def shQ (x : Int) (n : Nat) : Nat := dN (shD x) (-shK x n) / dD (shD x) (-shK x n)
theorem shQ_bd (x : Int) (n : Nat) (hm : 1 ≤ lmM x) : shQ x n * shA (shK x n) (lmE x) ≤ 4 * lmM x * shB (shK x n) (lmE x) ∧ 4 * lmM x * shB (shK x n) (lmE x) < (shQ x n + 1) * shA (shK x n) (lmE x) := by
  have hc := sh_cross x (shK x n) hm
  have hp := dD_pos (shD x) (-shK x n)
  have hA := shA_pos (shK x n) (lmE x)
  have h1 := Nat.div_mul_le_self (dN (shD x) (-shK x n)) (dD (shD x) (-shK x n))
  have h2 := Nat.lt_div_mul_add hp (a := dN (shD x) (-shK x n))
  have hQ : shQ x n = dN (shD x) (-shK x n) / dD (shD x) (-shK x n) := rfl
  rw [← hQ] at h1 h2
  generalize shQ x n = Q at *
  generalize dN (shD x) (-shK x n) = N at *
  generalize dD (shD x) (-shK x n) = D at *
  generalize shA (shK x n) (lmE x) = α at *
  generalize 4 * lmM x * shB (shK x n) (lmE x) = s at *
  constructor
  · apply Nat.le_of_mul_le_mul_right _ hp
    rw [← hc]
    calc Q * α * D = Q * D * α := by ac_rfl
      _ ≤ N * α := Nat.mul_le_mul_right _ h1
  · apply Nat.lt_of_mul_lt_mul_right (a := D)
    rw [← hc]
    calc N * α < (Q * D + D) * α := Nat.mul_lt_mul_of_pos_right h2 hA
      _ = (Q + 1) * α * D := by rw [Nat.add_mul Q 1 α, Nat.one_mul, Nat.add_mul, Nat.add_mul]; congr 1 <;> ac_rfl
theorem shQ_ten {x : Int} (x0 : 0 ≤ x) (x1 : x ≤ 18446744073709551615) (hx : 1 ≤ fabs x) (n : Nat) (hn : 1 ≤ n) : 10 ^ (n - 1) ≤ shQ x n ∧ shQ x n < 10 ^ n := by
  have hl := mid_lg (shD_mid x0 x1 hx).1
  have h1 := lg_ge hl (n - 1)
  have h2 := lg_lt hl n
  have hp := dD_pos (shD x) (-shK x n)
  unfold shQ
  unfold shK at hp ⊢
  rw [show -lgD (shD x) + ((n - 1 : Nat) : Int) = -(lgD (shD x) + 1 - (n : Int)) by omega] at h1
  rw [show -(lgD (shD x) + 1) + (n : Int) = -(lgD (shD x) + 1 - (n : Int)) by omega] at h2
  exact ⟨(Nat.le_div_iff_mul_le hp).2 h1, (Nat.div_lt_iff_lt_mul hp).2 h2⟩
def shEv (x : Int) : Bool := decide (ffr x % 2 = 0)
noncomputable def shFa (x : Int) (n : Nat) : Bool := ftB (shQ x n) (lmL x) (4 * lmM x + 2) (shK x n) (lmE x) (shEv x)
noncomputable def shFc (x : Int) (n : Nat) : Bool := ftB (shQ x n + 1) (lmL x) (4 * lmM x + 2) (shK x n) (lmE x) (shEv x)
noncomputable def shSt (x : Int) (n : Nat) : Bool := shFa x n || shFc x n
/-- seventeen are enough -/
theorem stop17 {x : Int} (x0 : 0 ≤ x) (x1 : x ≤ 18446744073709551615) (hx : 1 ≤ fabs x) : shSt x 17 = true := by
  have hm := (lm_ulp x0 x1 hx).2
  obtain ⟨b1, b2⟩ := shQ_bd x 17 hm
  obtain ⟨t1, t2⟩ := shQ_ten x0 x1 hx 17 (by omega)
  have hB := shB_pos (shK x 17) (lmE x)
  have hf := ffr_bd x
  have hM : lmM x < 9007199254740992 ∧ (ffr x = 0 ∧ 1 < fexp x → lmM x = 4503599627370496) := by unfold lmM; constructor; (split <;> omega); (rintro ⟨h1, h2⟩; rw [if_pos (by omega)]; omega)
  have hL : (lmL x = 4 * lmM x - 2 ∨ (lmL x = 4 * lmM x - 1 ∧ lmM x = 4503599627370496)) := by
    unfold lmL
    split
    · rename_i h; exact Or.inr ⟨rfl, hM.2 h⟩
    · exact Or.inl rfl
  have e16 : (10 : Nat) ^ (17 - 1) = 10000000000000000 := by decide
  rw [e16] at t1
  have key : 10000000000000000 * shA (shK x 17) (lmE x) ≤ 4 * lmM x * shB (shK x 17) (lmE x) := Nat.le_trans (Nat.mul_le_mul_right _ t1) b1
  unfold shSt
  rw [Bool.or_eq_true]
  unfold shFa shFc
  rw [ft_iff, ft_iff]
  rw [Nat.add_mul (shQ x 17) 1, Nat.one_mul] at b2 ⊢
  rw [Nat.mul_assoc] at b1 b2 key
  rw [Nat.add_mul (4 * lmM x) 2, Nat.mul_assoc 4 (lmM x)]
  have hLb : lmL x * shB (shK x 17) (lmE x) + 2 * shB (shK x 17) (lmE x) = 4 * (lmM x * shB (shK x 17) (lmE x)) ∨ (lmL x * shB (shK x 17) (lmE x) + shB (shK x 17) (lmE x) = 4 * (lmM x * shB (shK x 17) (lmE x)) ∧ lmM x = 4503599627370496) := by
    rcases hL with h | ⟨h, h2⟩
    · left
      rw [← Nat.add_mul, show lmL x + 2 = 4 * lmM x by omega, Nat.mul_assoc]
    · right
      refine ⟨?_, h2⟩
      have : lmL x * shB (shK x 17) (lmE x) + 1 * shB (shK x 17) (lmE x) = 4 * (lmM x * shB (shK x 17) (lmE x)) := by
        rw [← Nat.add_mul, show lmL x + 1 = 4 * lmM x by omega, Nat.mul_assoc]
      omega
  have hMb : lmM x * shB (shK x 17) (lmE x) ≤ 9007199254740991 * shB (shK x 17) (lmE x) := Nat.mul_le_mul_right _ (by omega)
  have hMb2 : lmM x = 4503599627370496 → lmM x * shB (shK x 17) (lmE x) = 4503599627370496 * shB (shK x 17) (lmE x) := fun h => by rw [h]
  generalize lmM x * shB (shK x 17) (lmE x) = s at *
  generalize lmL x * shB (shK x 17) (lmE x) = l at *
  generalize shQ x 17 * shA (shK x 17) (lmE x) = q at *
  generalize shA (shK x 17) (lmE x) = α at *
  generalize shB (shK x 17) (lmE x) = β at *
  rcases hLb with h | ⟨h, h2⟩
  · by_cases g : l < q
    · left; left; omega
    · right; left; omega
  · have h3 := hMb2 h2
    by_cases g : l < q
    · left; left; omega
    · right; left; omega
/-- the first one of so many -/
def firstN (f : Nat → Bool) : Nat → Nat → Nat
  | 0, n => n
  | k + 1, n => if f n = true then n else firstN f k (n + 1)
theorem firstN_spec (f : Nat → Bool) : ∀ (k n : Nat), (∃ j, n ≤ j ∧ j ≤ n + k ∧ f j = true) → f (firstN f k n) = true ∧ n ≤ firstN f k n ∧ firstN f k n ≤ n + k ∧ ∀ i, n ≤ i → i < firstN f k n → f i = false
  | 0, n, ⟨j, h1, h2, h3⟩ => by
    obtain rfl : j = n := by omega
    exact ⟨h3, Nat.le_refl _, Nat.le_refl _, fun i hi hj => by unfold firstN at hj; omega⟩
  | k + 1, n, ⟨j, h1, h2, h3⟩ => by
    unfold firstN
    by_cases h : f n = true
    · rw [if_pos h]; exact ⟨h, Nat.le_refl _, by omega, fun i hi hj => by omega⟩
    · rw [if_neg h]
      have hj : n + 1 ≤ j := by
        rcases Nat.lt_or_ge n j with g | g
        · exact g
        · exact absurd (show f n = true by rw [show n = j by omega]; exact h3) h
      obtain ⟨a1, a2, a3, a4⟩ := firstN_spec f k (n + 1) ⟨j, hj, by omega, h3⟩
      refine ⟨a1, by omega, by omega, fun i hi hlt => ?_⟩
      rcases Nat.lt_or_ge n i with g | g
      · exact a4 i g hlt
      · obtain rfl : i = n := by omega
        cases h5 : f i
        · rfl
        · exact absurd h5 h
noncomputable def shN (x : Int) : Nat := firstN (shSt x) 16 1
theorem shN_spec {x : Int} (x0 : 0 ≤ x) (x1 : x ≤ 18446744073709551615) (hx : 1 ≤ fabs x) : shSt x (shN x) = true ∧ 1 ≤ shN x ∧ shN x ≤ 17 ∧ ∀ i, 1 ≤ i → i < shN x → shSt x i = false := by
  obtain ⟨a1, a2, a3, a4⟩ := firstN_spec (shSt x) 16 1 ⟨17, by omega, by omega, stop17 x0 x1 hx⟩
  exact ⟨a1, a2, by unfold shN; omega, a4⟩
/-- the text of the digits, cut off -/
theorem dgT_cut {x : Int} (x0 : 0 ≤ x) (x1 : x ≤ 18446744073709551615) (hx : 1 ≤ fabs x) {n : Nat} (hn : 1 ≤ n) : dgT (shD x) n 3 = Lib.decDigits (shQ x n) := by
  obtain ⟨t1, t2⟩ := shQ_ten x0 x1 hx n hn
  have hQ : dgQ (shD x) n 3 = shQ x n := by
    unfold dgQ dQ shQ shK rq
    rw [show (n : Int) - 1 - lgD (shD x) = -(lgD (shD x) + 1 - (n : Int)) by omega]
    have hu : ∀ (neg odd : Bool) (h : Int), upB neg odd h 3 = false := fun neg odd h => by unfold upB; simp
    rw [hu]
    simp
  unfold dgT
  rw [if_neg (shD_mid x0 x1 hx).1.m0, hQ]
  have hl : (Lib.decDigits (shQ x n)).length ≤ n := by
    refine Nat.not_lt.1 fun h => ?_
    have h1 := dec_dgt (shQ x n)
    obtain ⟨c, l, e1, e2⟩ := dec_head (shQ x n) (by have := Nat.pow_pos (n := n - 1) (show 0 < 10 by omega); omega)
    have h3 := dcN_dec (shQ x n)
    have h4 := dcN_two l (c.toNat - 48)
    have h5 : dcN 0 (c :: l) = dcN (0 * 10 + (c.toNat - 48)) l := rfl
    have hc := h1 c (by rw [e1]; exact List.mem_cons_self ..)
    unfold dgt at hc
    have hne : c.toNat ≠ 48 := fun h => e2 (UInt8.toNat_inj.1 (by rw [h]; rfl))
    rw [e1, h5, Nat.zero_mul, Nat.zero_add, h4] at h3
    rw [e1, List.length_cons] at h
    have h6 : 10 ^ n ≤ 10 ^ l.length := Nat.pow_le_pow_right (by omega) (by omega)
    have h7 : 1 * 10 ^ l.length ≤ (c.toNat - 48) * 10 ^ l.length := Nat.mul_le_mul_right _ (by omega)
    omega
  unfold dgS
  rw [if_neg (by omega)]
/-- is the greater one taken? -/
noncomputable def shHf (x : Int) (n : Nat) : Int := sgn2 (cpA (shQ x n + (shQ x n + 1)) (shK x n) (lmE x + 1)) (cpB (4 * lmM x) (shK x n) (lmE x + 1))
noncomputable def shC (x : Int) (n : Nat) : Bool := if shFa x n = true ∧ shFc x n = true then (decide (shHf x n < 0) || (shHf x n == 0 && decide (shQ x n % 2 = 1))) else shFc x n
noncomputable def shR (x : Int) : Nat := if shC x (shN x) = true then shQ x (shN x) + 1 else shQ x (shN x)
noncomputable def shS (x : Int) : List UInt8 := Lib.decDigits (shR x)
/-- the digits, the exponent -/
noncomputable def shT (x : Int) : List UInt8 := Lib.trimRightB (shS x) 48
noncomputable def shX (x : Int) : Int := shK x (shN x) + ((shS x).length : Int) - ((shT x).length : Int)
theorem shN_eq {x : Int} (x0 : 0 ≤ x) (x1 : x ≤ 18446744073709551615) (hx : 1 ≤ fabs x) {n : Nat} (h1 : 1 ≤ n) (h : shSt x n = true) (hi : ∀ i, 1 ≤ i → i < n → shSt x i = false) : shN x = n := by
  obtain ⟨a1, a2, a3, a4⟩ := shN_spec x0 x1 hx
  rcases Nat.lt_trichotomy (shN x) n with g | g | g
  · have := hi _ a2 g
    rw [a1] at this; exact absurd this (by decide)
  · exact g
  · have := a4 n h1 g
    rw [h] at this; exact absurd this (by decide)
/-- what stands at the end -/
theorem sh_end {x : Int} (x0 : 0 ≤ x) (x1 : x ≤ 18446744073709551615) (hx : 1 ≤ fabs x) {n : Nat} (h1 : 1 ≤ n) (h : shSt x n = true) (hi : ∀ i, 1 ≤ i → i < n → shSt x i = false) {b : Bool} (hc : shC x n = b) :
    shT x = Lib.trimRightB (Lib.decDigits (if b = true then shQ x n + 1 else shQ x n)) 48 ∧ shX x = shK x n + ((Lib.decDigits (if b = true then shQ x n + 1 else shQ x n)).length : Int) - ((shT x).length : Int) := by
  have hn := shN_eq x0 x1 hx h1 h hi
  have e : shS x = Lib.decDigits (if b = true then shQ x n + 1 else shQ x n) := by
    unfold shS shR
    rw [hn, hc]
  refine ⟨by unfold shT; rw [e], ?_⟩
  unfold shX
  rw [hn, e]
end Go.Proofs.YthkcbjhjhkpclaaGreatDoor
