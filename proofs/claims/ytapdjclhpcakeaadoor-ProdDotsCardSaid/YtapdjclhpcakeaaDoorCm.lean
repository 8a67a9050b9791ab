/-
  PLAIN: the sum of two numbers, in either order, and turned. No Go function here.
-/
import Derived.Test.YtapdjclhpcakeaaDoorSa
import Derived.Test.YtapdjclhpcakeaaDoorBa
set_option linter.unusedVariables false
set_option linter.unusedSimpArgs false
namespace Go.Proofs.YtapdjclhpcakeaaDoor
open Go.RowKit Nt Fm Fl

def swapM (mode : Int) : Int := if mode = 1 then 2 else if mode = 2 then 1 else mode
theorem numR_turned (neg : Bool) (m : Nat) (e mode : Int) : numR ⟨!neg, m, e⟩ (swapM mode) = fneg (numR ⟨neg, m, e⟩ mode) := by
  have hk := kd_not neg mode
  have := numk_le_MR (kd neg mode) m e
  have hMR : MR = 9218868437227405312 := rfl
  unfold numR swapM fneg
  simp only
  rw [hk]
  cases neg <;> simp <;> omega
theorem plus_nz_left {d : D} (h : d.Nf) : plus nz d = d := by
  have h1 : 0 ≤ d.e + (((-d.e).toNat : Nat) : Int) := by omega
  generalize (-d.e).toNat = T at *
  have h0 : 0 ≤ nz.e + (T : Int) := by unfold nz; simp only; omega
  exact (plus_of h h0 h1 h1 (by rw [vl_zero (d := nz) rfl]; omega)).symm
theorem valD_nf (x : Int) : (valD x).Nf := by unfold valD; exact norm_nf _ _ _
theorem fneg_two {x : Int} (x0 : 0 ≤ x) (x1 : x ≤ 18446744073709551615) : fneg (fneg x) = x := by
  unfold fneg; split <;> split <;> omega
theorem fabs_fneg (x : Int) : fabs (fneg x) = fabs x := by
  unfold fabs fneg; split <;> omega
theorem fcls_fneg (x : Int) : fcls (fneg x) = fcls x := by
  unfold fcls; rw [fabs_fneg]
theorem fcls_inf {x : Int} (h : fcls x = 4) : fabs x = 9218868437227405312 := by
  unfold fcls at h; split at h; · omega
  split at h; · omega
  split at h; · omega
  split at h; · assumption
  omega
theorem fcls_zero {x : Int} (h : fcls x = 1) : fabs x = 0 := by
  unfold fcls at h; split at h; · assumption
  split at h; · omega
  split at h; · omega
  split at h; · omega
  omega
theorem opp_nf {d : D} (h : d.Nf) : (opp d).Nf := by
  rcases h with h | h
  · rw [h]; exact Or.inl rfl
  · exact Or.inr h
theorem opp_plus (a b : D) : opp (plus a b) = plus (opp a) (opp b) := by
  obtain ⟨T, h1, h2⟩ := exT a.e b.e
  have k1 : 0 ≤ (opp a).e + (T : Int) := h1
  have k2 : 0 ≤ (opp b).e + (T : Int) := h2
  have k3 : 0 ≤ (opp (plus a b)).e + (T : Int) := plus_eT h1 h2
  exact plus_of (opp_nf (plus_Nf _ _)) k1 k2 k3 (by rw [opp_vl, plus_vl _ _ _ h1 h2, opp_vl, opp_vl, Int.neg_add])
theorem norm_turned (neg : Bool) (m : Nat) (e : Int) : norm (!neg) m e = opp (norm neg m e) := by
  unfold norm
  by_cases h : m = 0
  · rw [if_pos h, if_pos h]; rfl
  · rw [if_neg h, if_neg h]
    obtain ⟨q, h1, h2⟩ := ctz_spec h
    have hp := Nat.two_pow_pos (ctz m)
    have : m / 2 ^ ctz m = q := by
      conv => lhs; arg 1; rw [h1]
      exact Nat.mul_div_cancel _ hp
    rw [this]
    unfold opp
    simp only
    rw [decide_eq_true (show q ≠ 0 by omega), Bool.and_true]
theorem valD_fneg {x : Int} (x0 : 0 ≤ x) (x1 : x ≤ 18446744073709551615) : valD (fneg x) = opp (valD x) := by
  have h1 : fexp (fneg x) = fexp x := by unfold fexp fneg; split <;> omega
  have h2 : ffr (fneg x) = ffr x := by unfold ffr fneg; split <;> omega
  have h3 : fng (fneg x) = !fng x := by
    unfold fng
    by_cases h : 9223372036854775808 ≤ x
    · have : ¬ 9223372036854775808 ≤ fneg x := by unfold fneg; rw [if_pos h]; omega
      simp [h, this]
    · have : 9223372036854775808 ≤ fneg x := by unfold fneg; rw [if_neg h]; omega
      simp [h, this]
  unfold valD
  rw [h1, h2, h3, norm_turned]

theorem stL_two (x y : Int) : stL [x, y] = stp (stp st0 x) y := rfl
theorem kst_nan {x : Int} (st : St) (h : fcls x = 5) : stp st x = ⟨st.inf, st.clash, true, st.ng, st.ps, st.s⟩ := by
  unfold stp; rw [if_pos h]
theorem kst_inf {x : Int} (st : St) (h : fcls x = 4) : stp st x = ⟨x, st.clash || (decide (st.inf ≠ 0) && decide (st.inf ≠ x)), st.nan, st.ng, st.ps, st.s⟩ := by
  unfold stp; rw [if_neg (by omega), if_pos h]
theorem kst_pz (st : St) : stp st 0 = ⟨st.inf, st.clash, st.nan, st.ng, st.ps + 1, st.s⟩ := by
  unfold stp; rw [if_neg (by decide), if_neg (by decide), if_pos (by decide), if_pos rfl]
theorem kst_mz {x : Int} (st : St) (h : fcls x = 1) (hx : x ≠ 0) : stp st x = ⟨st.inf, st.clash, st.nan, st.ng + 1, st.ps, st.s⟩ := by
  unfold stp; rw [if_neg (by omega), if_neg (by omega), if_pos h, if_neg hx]
theorem kst_fin {x : Int} (st : St) (h5 : fcls x ≠ 5) (h4 : fcls x ≠ 4) (h1 : fcls x ≠ 1) : stp st x = ⟨st.inf, st.clash, st.nan, st.ng, st.ps, plus st.s (valD x)⟩ := by
  unfold stp; rw [if_neg h5, if_neg h4, if_neg h1]
/-- which kind -/
theorem kinds (x : Int) : fcls x = 5 ∨ fcls x = 4 ∨ x = 0 ∨ (fcls x = 1 ∧ x ≠ 0) ∨ (fcls x ≠ 5 ∧ fcls x ≠ 4 ∧ fcls x ≠ 1) := by
  by_cases h5 : fcls x = 5
  · exact Or.inl h5
  · by_cases h4 : fcls x = 4
    · exact Or.inr (Or.inl h4)
    · by_cases h1 : fcls x = 1
      · by_cases h0 : x = 0
        · exact Or.inr (Or.inr (Or.inl h0))
        · exact Or.inr (Or.inr (Or.inr (Or.inl ⟨h1, h0⟩)))
      · exact Or.inr (Or.inr (Or.inr (Or.inr ⟨h5, h4, h1⟩)))
theorem stp_swap (st : St) (x y : Int) (hn : st.s.Nf) : (fcls x = 4 ∧ fcls y = 4) ∨ stp (stp st x) y = stp (stp st y) x := by
  rcases kinds x with h | h | h | ⟨h, h'⟩ | ⟨h5, h4, h1⟩ <;> rcases kinds y with k | k | k | ⟨k, k'⟩ | ⟨k5, k4, k1⟩
  all_goals try (exact Or.inl ⟨h, k⟩)
  all_goals right
  all_goals try subst h
  all_goals try subst k
  all_goals try rfl
  all_goals simp only [kst_nan, kst_inf, kst_pz, kst_mz, kst_fin, ne_eq, not_false_eq_true, *]
  all_goals try rfl
  rw [plus_assoc, plus_assoc, plus_comm (valD x)]
theorem two_swap (x y mode : Int) : allV [x, y] mode = allV [y, x] mode ∧ allC [x, y] = allC [y, x] := by
  unfold allV allC
  rw [stL_two, stL_two]
  rcases stp_swap st0 x y (Or.inl rfl) with ⟨h, k⟩ | h
  · rw [kst_inf _ h, kst_inf _ k, kst_inf _ h, kst_inf _ k]
    by_cases e : x = y
    · subst e; exact ⟨rfl, rfl⟩
    · have x0 : x ≠ 0 := by intro z; subst z; revert h; decide
      have y0 : y ≠ 0 := by intro z; subst z; revert k; decide
      simp [st0, x0, y0, e, Ne.symm e, show ¬ y = x from fun h => e h.symm]
  · rw [h]; exact ⟨rfl, rfl⟩

/-- the one state is the other one, turned -/
def Rv (st st' : St) : Prop := st'.nan = st.nan ∧ st'.clash = st.clash ∧ st'.s = opp st.s ∧ (st.inf = 0 ∧ st'.inf = 0 ∨ st.inf ≠ 0 ∧ st'.inf ≠ 0 ∧ (0 ≤ st.inf ∧ st.inf ≤ 18446744073709551615) ∧ st'.inf = fneg st.inf)
theorem Rv.step {st st' : St} {x : Int} (x0 : 0 ≤ x) (x1 : x ≤ 18446744073709551615) (h : Rv st st') : Rv (stp st x) (stp st' (fneg x)) := by
  obtain ⟨h1, h2, h3, h4⟩ := h
  have hc := fcls_fneg x
  rcases kinds x with k | k | k | ⟨k, k'⟩ | ⟨k5, k4, k1⟩
  · rw [kst_nan _ k, kst_nan _ (hc.trans k)]
    exact ⟨rfl, h2, h3, h4⟩
  · rw [kst_inf _ k, kst_inf _ (hc.trans k)]
    have z : x ≠ 0 := by intro z; subst z; revert k; decide
    have z' : fneg x ≠ 0 := by
      intro z'
      rw [z'] at hc; rw [k] at hc; revert hc; decide
    refine ⟨h1, ?_, h3, Or.inr ⟨z, z', ⟨x0, x1⟩, rfl⟩⟩
    simp only
    rw [h2]
    rcases h4 with ⟨a, b⟩ | ⟨a, b, c, d⟩
    · rw [a, b]; rfl
    · have e : (fneg st.inf = fneg x) ↔ (st.inf = x) := by
        constructor
        · intro e
          have := congrArg fneg e
          rw [fneg_two c.1 c.2, fneg_two x0 x1] at this
          exact this
        · intro e; rw [e]
      rw [d] at b
      simp only [d, a, b, e, ne_eq, not_false_eq_true]
  · have k1 : fcls x = 1 := by subst k; rfl
    subst k
    rw [kst_pz, kst_mz _ (hc.trans k1) (by decide)]
    exact ⟨h1, h2, h3, h4⟩
  · have e : x = 9223372036854775808 := by
      have := fcls_zero k; unfold fabs at this; omega
    have e2 : fneg x = 0 := by subst e; rfl
    rw [e2, kst_pz, kst_mz _ k k']
    exact ⟨h1, h2, h3, h4⟩
  · rw [kst_fin _ k5 k4 k1, kst_fin _ (by rw [hc]; exact k5) (by rw [hc]; exact k4) (by rw [hc]; exact k1), h3, valD_fneg x0 x1, ← opp_plus]
    exact ⟨h1, h2, rfl, h4⟩
theorem two_turned (x y mode : Int) (x0 : 0 ≤ x) (x1 : x ≤ 18446744073709551615) (y0 : 0 ≤ y) (y1 : y ≤ 18446744073709551615) :
    (fcls (allV [x, y] mode) = 5 ∧ fcls (allV [fneg x, fneg y] (swapM mode)) = 5) ∨ (fcls (allV [x, y] mode) = 1 ∧ fcls (allV [fneg x, fneg y] (swapM mode)) = 1) ∨
    allV [fneg x, fneg y] (swapM mode) = fneg (allV [x, y] mode) := by
  have h : Rv (stL [x, y]) (stL [fneg x, fneg y]) := by
    rw [stL_two, stL_two]
    exact Rv.step y0 y1 (Rv.step x0 x1 ⟨rfl, rfl, rfl, Or.inl ⟨rfl, rfl⟩⟩)
  obtain ⟨h1, h2, h3, h4⟩ := h
  unfold allV
  rw [h1, h2, h3]
  generalize stL [x, y] = st at *
  generalize stL [fneg x, fneg y] = st' at *
  by_cases hn : (st.nan || st.clash) = true
  · rw [if_pos hn, if_pos hn]; left; decide
  · rw [if_neg hn, if_neg hn]
    rcases h4 with ⟨a, b⟩ | ⟨a, b, c, d⟩
    · rw [if_neg (not_not_intro a), if_neg (not_not_intro b)]
      have hm : (opp st.s).m = st.s.m := rfl
      rw [hm]
      by_cases hz : st.s.m ≠ 0
      · rw [if_pos hz, if_pos hz]
        right; right
        have : opp st.s = ⟨!st.s.neg, st.s.m, st.s.e⟩ := by unfold opp; rw [decide_eq_true hz, Bool.and_true]
        rw [this, numR_turned]
      · rw [if_neg hz, if_neg hz]
        right; left
        constructor
        · split; · rfl
          split; · rfl
          split <;> rfl
        · split; · rfl
          split; · rfl
          split <;> rfl
    · rw [if_pos a, if_pos b]
      right; right; exact d
/-- THE LAW: the differences -/
theorem diff_turned (x y mode : Int) (x0 : 0 ≤ x) (x1 : x ≤ 18446744073709551615) (y0 : 0 ≤ y) (y1 : y ≤ 18446744073709551615) :
    (fcls (allV [x, fneg y] mode) = 5 ∧ fcls (allV [y, fneg x] (swapM mode)) = 5) ∨ (fcls (allV [x, fneg y] mode) = 1 ∧ fcls (allV [y, fneg x] (swapM mode)) = 1) ∨
    allV [y, fneg x] (swapM mode) = fneg (allV [x, fneg y] mode) := by
  have hb := fneg_bd y0 y1
  have h := two_turned x (fneg y) mode x0 x1 hb.1 hb.2
  rw [fneg_two y0 y1, (two_swap (fneg x) y (swapM mode)).1] at h
  exact h
theorem allV_bd (l : List Int) (h : ∀ x ∈ l, 0 ≤ x ∧ x ≤ 18446744073709551615) (mode : Int) : 0 ≤ allV l mode ∧ allV l mode ≤ 18446744073709551615 := by
  have hi := stL_inf l h l.length (Nat.le_refl _)
  rw [List.take_length] at hi
  unfold allV
  split; · omega
  split; · omega
  split
  · have := numk_le_MR (kd (stL l).s.neg mode) (stL l).s.m (stL l).s.e
    have hMR : MR = 9218868437227405312 := rfl
    unfold numR; split <;> omega
  split; · omega
  split; · omega
  split <;> omega
end Go.Proofs.YtapdjclhpcakeaaDoor
