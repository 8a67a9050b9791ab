/-
  PLAIN: sums of numbers that have a value; what is told with infinite ones; the order of sums. No Go function here.
-/
import Derived.Test.YtapdjclhpcakeaaDoorCm
import Derived.Test.YtapdjclhpcakeaaDoorNear
set_option linter.unusedVariables false
set_option linter.unusedSimpArgs false
namespace Go.Proofs.YtapdjclhpcakeaaDoor
open Go.RowKit Nt Fm Fl

theorem plus_nz_right {d : D} (h : d.Nf) : plus d nz = d := by rw [plus_comm]; exact plus_nz_left h
theorem valD_z {x : Int} (h : fcls x = 1) : valD x = nz := by
  have hz := fcls_zero h
  have e1 : fexp x = 0 := by unfold fabs at hz; unfold fexp; omega
  have e2 : ffr x = 0 := by unfold fabs at hz; unfold ffr; omega
  unfold valD norm; rw [e1, e2]; rfl
theorem fcls_fin {x : Int} (h : fabs x < 9218868437227405312) : fcls x ≠ 5 ∧ fcls x ≠ 4 := by
  unfold fcls; split; · decide
  split; · decide
  first | decide | (rw [if_pos h]; decide)
theorem fcls_4 {x : Int} (h : fabs x = 9218868437227405312) : fcls x = 4 := by
  unfold fcls; rw [if_neg (by omega), if_neg (by omega), if_neg (by omega), if_pos h]
theorem fcls_5 {x : Int} (h : 9218868437227405312 < fabs x) : fcls x = 5 := by
  unfold fcls; rw [if_neg (by omega), if_neg (by omega), if_neg (by omega), if_neg (by omega)]
def sumD (l : List Int) : D := l.foldl (fun s x => plus s (valD x)) nz
theorem step_fin {x : Int} (st : St) (hn : st.s.Nf) (hx : fabs x < 9218868437227405312) :
    (stp st x).nan = st.nan ∧ (stp st x).clash = st.clash ∧ (stp st x).inf = st.inf ∧ (stp st x).s = plus st.s (valD x) := by
  have hc := fcls_fin hx
  rcases kinds x with k | k | k | ⟨k, k'⟩ | ⟨k5, k4, k1⟩
  · exact absurd k hc.1
  · exact absurd k hc.2
  · subst k; rw [kst_pz, valD_z (by rfl), plus_nz_right hn]; exact ⟨rfl, rfl, rfl, rfl⟩
  · rw [kst_mz _ k k', valD_z k, plus_nz_right hn]; exact ⟨rfl, rfl, rfl, rfl⟩
  · rw [kst_fin _ k5 k4 k1]; exact ⟨rfl, rfl, rfl, rfl⟩
theorem fold_fin : ∀ (l : List Int) (st : St), st.s.Nf → (∀ x ∈ l, fabs x < 9218868437227405312) →
    (l.foldl stp st).nan = st.nan ∧ (l.foldl stp st).clash = st.clash ∧ (l.foldl stp st).inf = st.inf ∧ (l.foldl stp st).s = l.foldl (fun s x => plus s (valD x)) st.s
  | [], st, _, _ => ⟨rfl, rfl, rfl, rfl⟩
  | x :: l, st, hn, h => by
    obtain ⟨s1, s2, s3, s4⟩ := step_fin st hn (h x (by simp))
    have hnf : (stp st x).s.Nf := by rw [s4]; exact plus_Nf _ _
    obtain ⟨a, b, c, d⟩ := fold_fin l (stp st x) hnf (fun y hy => h y (by simp [hy]))
    simp only [List.foldl_cons]
    rw [a, b, c, d, s1, s2, s3, s4]
    exact ⟨rfl, rfl, rfl, rfl⟩
theorem sumD_nf (l : List Int) : (sumD l).Nf := by
  unfold sumD
  rcases List.eq_nil_or_concat l with h | ⟨k, x, h⟩
  · rw [h]; exact Or.inl rfl
  · rw [h, List.concat_eq_append, List.foldl_append]; exact plus_Nf _ _
theorem allV_of {l : List Int} (mode : Int) (a : (stL l).nan = false) (b : (stL l).clash = false) (c : (stL l).inf = 0) :
    allV l mode = (if (stL l).s.m ≠ 0 then numR (stL l).s mode else if (stL l).ps = l.length then 0 else if (stL l).ng = l.length then 9223372036854775808 else if mode = 2 then 9223372036854775808 else 0) ∧
    allC l = (if (stL l).s.m ≠ 0 then numC (stL l).s else false) := by
  unfold allV allC
  simp only [a, b, c, Bool.or_self, Bool.false_eq_true, if_false, ne_eq, not_true_eq_false, and_self]
theorem allV_fin (l : List Int) (h : ∀ x ∈ l, fabs x < 9218868437227405312) (mode : Int) :
    frank (allV l mode) = rg (sumD l).neg mode (sumD l).m (sumD l).e ∧ fabs (allV l mode) ≤ 9218868437227405312 ∧ allC l = numC (sumD l) ∧
    ((sumD l).m ≠ 0 → allV l mode = numR (sumD l) mode) ∧ ((sumD l).m = 0 → fabs (allV l mode) = 0) := by
  obtain ⟨a, b, c, d⟩ := fold_fin l st0 (Or.inl rfl) h
  have a' : (stL l).nan = false := a
  have b' : (stL l).clash = false := b
  have c' : (stL l).inf = 0 := c
  have d' : (stL l).s = sumD l := d
  obtain ⟨f1, f2⟩ := allV_of mode a' b' c'
  rw [f1, f2, d']
  by_cases hz : (sumD l).m = 0
  · have r0 : rg (sumD l).neg mode (sumD l).m (sumD l).e = 0 := by unfold rg numk; rw [hz]; simp
    have c0 : numC (sumD l) = false := by unfold numC chg; simp [hz]
    rw [r0, c0, if_neg (not_not_intro hz), if_neg (not_not_intro hz)]
    have key : ∀ v : Int, v = 0 ∨ v = 9223372036854775808 → frank v = 0 ∧ fabs v ≤ 9218868437227405312 ∧ fabs v = 0 := by
      intro v hv; rcases hv with rfl | rfl <;> decide
    generalize hv : (if (stL l).ps = l.length then (0 : Int) else if (stL l).ng = l.length then 9223372036854775808 else if mode = 2 then 9223372036854775808 else 0) = v
    have hv2 : v = 0 ∨ v = 9223372036854775808 := by
      rw [← hv]; split; · exact Or.inl rfl
      split; · exact Or.inr rfl
      split; · exact Or.inr rfl
      exact Or.inl rfl
    obtain ⟨k1, k2, k3⟩ := key v hv2
    exact ⟨k1, k2, rfl, fun h => absurd hz h, fun _ => k3⟩
  · rw [if_pos hz, if_pos hz]
    obtain ⟨r1, r2⟩ := rank_numR (sumD l) mode
    refine ⟨r1, ?_, rfl, fun _ => rfl, fun h => absurd h hz⟩
    unfold frerr at r2
    split at r2
    · omega
    · omega
theorem two_inf {x z : Int} (mode : Int) (hx : fabs x = 9218868437227405312) (hz : fabs z < 9218868437227405312 ∨ z = x) : allV [x, z] mode = x ∧ allC [x, z] = false := by
  have x0 : x ≠ 0 := by intro h; subst h; revert hx; decide
  have e1 : stp st0 x = ⟨x, false, false, 0, 0, nz⟩ := by rw [kst_inf _ (fcls_4 hx)]; rfl
  have h : (stL [x, z]).nan = false ∧ (stL [x, z]).clash = false ∧ (stL [x, z]).inf = x := by
    rw [stL_two, e1]
    rcases hz with hz | hz
    · obtain ⟨s1, s2, s3, s4⟩ := step_fin ⟨x, false, false, 0, 0, nz⟩ (Or.inl rfl) hz
      rw [s1, s2, s3]; exact ⟨rfl, rfl, rfl⟩
    · subst hz; rw [kst_inf _ (fcls_4 hx)]; simp
  unfold allV allC
  rw [h.1, h.2.1, h.2.2]
  have e : ¬ (false || false) = true := by decide
  rw [if_neg e, if_neg e, if_pos x0, if_pos x0]
  exact ⟨rfl, rfl⟩
theorem two_inf' {x z : Int} (mode : Int) (hx : fabs x < 9218868437227405312) (hz : fabs z = 9218868437227405312) : allV [x, z] mode = z ∧ allC [x, z] = false := by
  rw [(two_swap x z mode).1, (two_swap x z mode).2]
  exact two_inf mode hz (Or.inl hx)
theorem nan_stays (st : St) (x : Int) (h : (st.nan || st.clash) = true) : ((stp st x).nan || (stp st x).clash) = true := by
  rcases kinds x with k | k | k | ⟨k, k'⟩ | ⟨k5, k4, k1⟩
  · rw [kst_nan _ k]; rfl
  · rw [kst_inf _ k]; simp only [Bool.or_eq_true] at h ⊢; rcases h with h | h
    · exact Or.inl h
    · exact Or.inr (Or.inl h)
  · subst k; rw [kst_pz]; exact h
  · rw [kst_mz _ k k']; exact h
  · rw [kst_fin _ k5 k4 k1]; exact h
theorem two_nan {x z : Int} (mode : Int) (h : 9218868437227405312 < fabs x ∨ 9218868437227405312 < fabs z ∨ (fabs x = 9218868437227405312 ∧ fabs z = 9218868437227405312 ∧ x ≠ z)) :
    allV [x, z] mode = 9221120237041090560 ∧ allC [x, z] = false := by
  have h : ((stL [x, z]).nan || (stL [x, z]).clash) = true := by
    rw [stL_two]
    rcases h with h | h | ⟨h1, h2, h3⟩
    · exact nan_stays _ _ (by rw [kst_nan _ (fcls_5 h)]; rfl)
    · rw [kst_nan _ (fcls_5 h)]; rfl
    · have x0 : x ≠ 0 := by intro h; subst h; revert h1; decide
      rw [kst_inf _ (fcls_4 h1), kst_inf _ (fcls_4 h2)]; simp [x0, h3]
  unfold allV allC
  rw [if_pos h, if_pos h]
  exact ⟨rfl, rfl⟩

/-- the magnitude of a number with its sign -/
def smag (x : Int) : Int := if fng x then -((mag (fabs x).toNat : Nat) : Int) else ((mag (fabs x).toNat : Nat) : Int)
theorem valD_sm {x : Int} (x0 : 0 ≤ x) (x1 : x ≤ 18446744073709551615) (hv : fabs x < 9218868437227405312) : (valD x).vl 1074 = smag x := by
  have := valD_vl x x0 x1 hv 0
  simpa [smag] using this
theorem valD_e {x : Int} (x0 : 0 ≤ x) (x1 : x ≤ 18446744073709551615) : 0 ≤ (valD x).e + ((1074 : Nat) : Int) := by
  have := (valD_facts x x0 x1).2.2.1; omega
theorem smag_mono {x y : Int} (hx : fabs x < 9218868437227405312) (hy : fabs y < 9218868437227405312) (h : frank x ≤ frank y) : smag x ≤ smag y := by
  have bx := fabs_bd x
  have bY := fabs_bd y
  have f : ∀ v : Int, fabs v < 9218868437227405312 → frank v = if 9223372036854775808 ≤ v then -fabs v else fabs v := fun v hv => by unfold frank; rw [if_neg (by omega)]
  rw [f x hx, f y hy] at h
  clear f
  unfold smag fng
  simp only [decide_eq_true_eq]
  split at h <;> split at h
  · rename_i a b; rw [if_pos a, if_pos b]
    have := @mag_mono (fabs y).toNat (fabs x).toNat (by omega); omega
  · rename_i a b; rw [if_pos a, if_neg b]; omega
  · rename_i a b; rw [if_neg a, if_pos b]
    rw [show (fabs x).toNat = 0 by omega, show (fabs y).toNat = 0 by omega, mag_zero]; decide
  · rename_i a b; rw [if_neg a, if_neg b]
    have := @mag_mono (fabs x).toNat (fabs y).toNat (by omega); omega
theorem rg_vl {c d : D} (mode : Int) (h1 : 0 ≤ c.e + ((1074 : Nat) : Int)) (h2 : 0 ≤ d.e + ((1074 : Nat) : Int)) (h : c.vl 1074 ≤ d.vl 1074) : rg c.neg mode c.m c.e ≤ rg d.neg mode d.m d.e := by
  refine rg_mono (t := 0) (by omega) (by omega) mode ?_
  rw [sg_vl c 0, sg_vl d 0]; exact h
theorem sumD_two (x z : Int) : sumD [x, z] = plus (valD x) (valD z) := by
  show plus (plus nz (valD x)) (valD z) = _
  rw [plus_nz_left (valD_nf x)]
theorem sumD_two_vl {x z : Int} (x0 : 0 ≤ x) (x1 : x ≤ 18446744073709551615) (z0 : 0 ≤ z) (z1 : z ≤ 18446744073709551615) (hx : fabs x < 9218868437227405312) (hz : fabs z < 9218868437227405312) :
    (sumD [x, z]).vl 1074 = smag x + smag z ∧ 0 ≤ (sumD [x, z]).e + ((1074 : Nat) : Int) := by
  have e1 := valD_e x0 x1
  have e2 := valD_e z0 z1
  rw [sumD_two, plus_vl _ _ _ e1 e2, valD_sm x0 x1 hx, valD_sm z0 z1 hz]
  exact ⟨rfl, plus_eT e1 e2⟩
theorem sum_mono {x y z : Int} (mode : Int) (x0 : 0 ≤ x) (x1 : x ≤ 18446744073709551615) (y0 : 0 ≤ y) (y1 : y ≤ 18446744073709551615) (z0 : 0 ≤ z) (z1 : z ≤ 18446744073709551615)
    (hx : fabs x < 9218868437227405312) (hy : fabs y < 9218868437227405312) (hz : fabs z < 9218868437227405312) (h : frank x ≤ frank y) : frank (allV [x, z] mode) ≤ frank (allV [y, z] mode) := by
  rw [(allV_fin [x, z] (by simp [hx, hz]) mode).1, (allV_fin [y, z] (by simp [hy, hz]) mode).1]
  obtain ⟨a1, a2⟩ := sumD_two_vl x0 x1 z0 z1 hx hz
  obtain ⟨b1, b2⟩ := sumD_two_vl y0 y1 z0 z1 hy hz
  refine rg_vl mode a2 b2 ?_
  have := smag_mono hx hy h
  omega
theorem frank_numR_valD {x : Int} (x0 : 0 ≤ x) (x1 : x ≤ 18446744073709551615) (hx : fabs x < 9218868437227405312) (mode : Int) : frank x = rg (valD x).neg mode (valD x).m (valD x).e := by
  rw [← (rank_numR (valD x) mode).1]
  rcases (valD_num x x0 x1 hx mode).2 with h | ⟨h, h'⟩
  · rw [h]
  · rw [h', h]; decide
theorem smag_nonneg {z : Int} (hz : fabs z < 9218868437227405312) (h : 0 ≤ frank z) : 0 ≤ smag z := by
  have := smag_mono (x := 0) (y := z) (by decide) hz h
  have e : smag 0 = 0 := by unfold smag; simp [fng, fabs, mag_zero]
  omega
theorem sum_more {x z : Int} (mode : Int) (x0 : 0 ≤ x) (x1 : x ≤ 18446744073709551615) (z0 : 0 ≤ z) (z1 : z ≤ 18446744073709551615)
    (hx : fabs x < 9218868437227405312) (hz : fabs z < 9218868437227405312) (h : 0 ≤ frank z) : frank x ≤ frank (allV [x, z] mode) := by
  rw [(allV_fin [x, z] (by simp [hx, hz]) mode).1, frank_numR_valD x0 x1 hx mode]
  obtain ⟨a1, a2⟩ := sumD_two_vl x0 x1 z0 z1 hx hz
  refine rg_vl mode (valD_e x0 x1) a2 ?_
  rw [a1, valD_sm x0 x1 hx]
  have := smag_nonneg hz h
  omega
theorem frank_le_fabs (x : Int) : frank x ≤ fabs x ∧ -fabs x ≤ frank x := by
  have := fabs_bd x
  unfold frank; split; · omega
  split <;> omega
theorem frerr_0 {x : Int} (h : frerr x = 0) : fabs x ≤ 9218868437227405312 := by
  unfold frerr at h; split at h; · omega
  omega
theorem frank_inf {x : Int} (h : fabs x = 9218868437227405312) : frank x = 9218868437227405312 ∨ frank x = -9218868437227405312 := by
  unfold frank; rw [if_neg (by omega)]; split <;> omega
/-- THE LAW of the order of sums -/
theorem sumOrder_law {x y z : Int} (mode : Int) (x0 : 0 ≤ x) (x1 : x ≤ 18446744073709551615) (y0 : 0 ≤ y) (y1 : y ≤ 18446744073709551615) (z0 : 0 ≤ z) (z1 : z ≤ 18446744073709551615)
    (e : frerr x = 0) (f : frerr y = 0) (h : frank x ≤ frank y) :
    (frerr (allV [x, z] mode) = 0 → frerr (allV [y, z] mode) = 0 → frank (allV [x, z] mode) ≤ frank (allV [y, z] mode)) ∧
    (frerr (allV [x, z] mode) = 0 → frerr z = 0 → 0 ≤ frank z → frank x ≤ frank (allV [x, z] mode)) := by
  have hx := frerr_0 e
  have hy := frerr_0 f
  have nn : frerr 9221120237041090560 ≠ 0 := by decide
  have bd := fun v => frank_bd v
  by_cases hzn : 9218868437227405312 < fabs z
  · rw [(two_nan mode (Or.inr (Or.inl hzn))).1]
    exact ⟨fun k => absurd k nn, fun k => absurd k nn⟩
  have hz : fabs z ≤ 9218868437227405312 := by omega
  clear hzn
  by_cases zi : fabs z = 9218868437227405312
  · have key : ∀ v : Int, fabs v ≤ 9218868437227405312 → frerr (allV [v, z] mode) = 0 → allV [v, z] mode = z := by
      intro v hv hk
      by_cases vi : fabs v = 9218868437227405312
      · by_cases vz : v = z
        · rw [(two_inf mode vi (Or.inr vz.symm)).1, vz]
        · rw [(two_nan mode (Or.inr (Or.inr ⟨vi, zi, vz⟩))).1] at hk; exact absurd hk nn
      · exact (two_inf' mode (by omega) zi).1
    refine ⟨fun k1 k2 => ?_, fun k1 k2 k3 => ?_⟩
    · rw [key x hx k1, key y hy k2]; exact Int.le_refl _
    · rw [key x hx k1]
      rcases frank_inf zi with k | k
      · rw [k]; exact (bd x).2
      · omega
  · have hz : fabs z < 9218868437227405312 := by omega
    clear zi
    by_cases xi : fabs x = 9218868437227405312
    · have ex := (two_inf (z := z) mode xi (Or.inl hz)).1
      rw [ex]
      refine ⟨fun k1 k2 => ?_, fun k1 k2 k3 => Int.le_refl _⟩
      by_cases yi : fabs y = 9218868437227405312
      · rw [(two_inf (z := z) mode yi (Or.inl hz)).1]; exact h
      · rcases frank_inf xi with k | k
        · have := (frank_le_fabs y).1; omega
        · rw [k]; exact (bd _).1
    · have hx : fabs x < 9218868437227405312 := by omega
      refine ⟨fun k1 k2 => ?_, fun k1 k2 k3 => sum_more mode x0 x1 z0 z1 hx hz k3⟩
      by_cases yi : fabs y = 9218868437227405312
      · rw [(two_inf (z := z) mode yi (Or.inl hz)).1]
        rcases frank_inf yi with k | k
        · rw [k]; exact (bd _).2
        · have := (frank_le_fabs x).2; omega
      · exact sum_mono mode x0 x1 y0 y1 z0 z1 hx (by omega) hz h
end Go.Proofs.YtapdjclhpcakeaaDoor
