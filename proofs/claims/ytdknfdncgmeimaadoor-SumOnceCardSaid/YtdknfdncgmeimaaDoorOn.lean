/-
  PLAIN: sums in whatever order; with a number and itself turned. No Go function here.
-/
import Derived.Test.YtdknfdncgmeimaaDoorSo
set_option linter.unusedVariables false
set_option linter.unusedSimpArgs false
namespace Go.Proofs.YtdknfdncgmeimaaDoor
open Go.RowKit Nt Fm Fl

def can (st : St) : Option St := if (st.nan || st.clash) = true then none else some st
def stF (o : Option St) (x : Int) : Option St := match o with | none => none | some st => can (stp st x)
theorem can_none {st : St} (h : (st.nan || st.clash) = true) : can st = none := if_pos h
theorem stF_can (st : St) (x : Int) : stF (can st) x = can (stp st x) := by
  unfold can
  split
  · rename_i h; rw [if_pos (nan_stays _ _ h)]; rfl
  · rfl
theorem fold_can : ∀ (l : List Int) (st : St), l.foldl stF (can st) = can (l.foldl stp st)
  | [], st => rfl
  | x :: l, st => by simp only [List.foldl_cons]; rw [stF_can]; exact fold_can l _
theorem stp_swap' (st : St) (x y : Int) : (fcls x = 4 ∧ fcls y = 4) ∨ stp (stp st x) y = stp (stp st y) x := by
  rcases kinds x with h | h | h | ⟨h, h'⟩ | ⟨h5, h4, h1⟩ <;> rcases kinds y with k | k | k | ⟨k, k'⟩ | ⟨k5, k4, k1⟩
  all_goals try (exact Or.inl ⟨h, k⟩)
  all_goals right
  all_goals try subst h
  all_goals try subst k
  all_goals try rfl
  all_goals simp only [kst_nan, kst_inf, kst_pz, kst_mz, kst_fin, ne_eq, not_false_eq_true, *]
  all_goals try rfl
  rw [plus_assoc, plus_assoc, plus_comm (valD x)]
theorem swap_can (st : St) (x y : Int) : can (stp (stp st x) y) = can (stp (stp st y) x) := by
  rcases stp_swap' st x y with ⟨h, k⟩ | h
  · by_cases e : x = y
    · rw [e]
    · have x0 : x ≠ 0 := by intro z; subst z; revert h; decide
      have y0 : y ≠ 0 := by intro z; subst z; revert k; decide
      rw [kst_inf _ h, kst_inf _ k, kst_inf _ k, kst_inf _ h]
      rw [can_none (by simp [x0, e]), can_none (by simp [y0, Ne.symm e, show ¬ y = x from fun h => e h.symm])]
  · rw [h]
theorem stF_comm (o : Option St) (x y : Int) : stF (stF o x) y = stF (stF o y) x := by
  cases o with
  | none => rfl
  | some st => show stF (can (stp st x)) y = stF (can (stp st y)) x; rw [stF_can, stF_can, swap_can]
theorem can_rev (l : List Int) : can (stL l.reverse) = can (stL l) := by
  unfold stL; rw [← fold_can, ← fold_can]
  exact (List.reverse_perm l).foldl_eq' (fun x _ y _ z => stF_comm z x y) _
def tellV (o : Option St) (n : Nat) (mode : Int) : Int := match o with
  | none => 9221120237041090560
  | some st => if st.inf ≠ 0 then st.inf else if st.s.m ≠ 0 then numR st.s mode else if st.ps = n then 0 else if st.ng = n then 9223372036854775808 else if mode = 2 then 9223372036854775808 else 0
def tellC (o : Option St) : Bool := match o with
  | none => false
  | some st => if st.inf ≠ 0 then false else if st.s.m ≠ 0 then numC st.s else false
theorem allV_can (l : List Int) (mode : Int) : allV l mode = tellV (can (stL l)) l.length mode ∧ allC l = tellC (can (stL l)) := by
  unfold allV allC can
  by_cases h : ((stL l).nan || (stL l).clash) = true
  · rw [if_pos h, if_pos h, if_pos h]; exact ⟨rfl, rfl⟩
  · rw [if_neg h, if_neg h, if_neg h]; exact ⟨rfl, rfl⟩
theorem allV_rev (l : List Int) (mode : Int) : allV l.reverse mode = allV l mode ∧ allC l.reverse = allC l := by
  obtain ⟨a, b⟩ := allV_can l mode
  obtain ⟨c, d⟩ := allV_can l.reverse mode
  rw [a, b, c, d, can_rev, List.length_reverse]
  exact ⟨rfl, rfl⟩
theorem tell_zero (st : St) (n : Nat) (mode : Int) (hi : st.inf = 0) (hm : st.s.m = 0) : fcls (tellV (some st) n mode) = 1 ∧ tellC (some st) = false := by
  unfold tellV tellC
  simp only
  rw [if_neg (not_not_intro hi), if_neg (not_not_intro hm), if_neg (not_not_intro hi), if_neg (not_not_intro hm)]
  refine ⟨?_, rfl⟩
  split; · decide
  split; · decide
  split <;> decide
/-- with a number and itself turned -/
theorem allV_more (l : List Int) (x mode : Int) (x0 : 0 ≤ x) (x1 : x ≤ 18446744073709551615) (hx : fabs x < 9218868437227405312) (hn : (stL l).s.Nf) :
    allC (l ++ [x, fneg x]) = allC l ∧ (allV (l ++ [x, fneg x]) mode = allV l mode ∨ (fcls (allV (l ++ [x, fneg x]) mode) = 1 ∧ fcls (allV l mode) = 1)) := by
  obtain ⟨a, b⟩ := allV_can l mode
  obtain ⟨c, d⟩ := allV_can (l ++ [x, fneg x]) mode
  rw [a, b, c, d]
  have e : stL (l ++ [x, fneg x]) = stp (stp (stL l) x) (fneg x) := by unfold stL; rw [List.foldl_append]; rfl
  rw [e]
  have hx' : fabs (fneg x) < 9218868437227405312 := by rw [fabs_fneg]; exact hx
  obtain ⟨s1, s2, s3, s4⟩ := step_fin (stL l) hn hx
  obtain ⟨t1, t2, t3, t4⟩ := step_fin (stp (stL l) x) (by rw [s4]; exact plus_Nf _ _) hx'
  rw [s1] at t1; rw [s2] at t2; rw [s3] at t3
  rw [s4, valD_fneg x0 x1, plus_opp_cancel _ _ hn] at t4
  generalize stp (stp (stL l) x) (fneg x) = st' at *
  generalize stL l = st at *
  unfold can
  rw [t1, t2]
  by_cases h : (st.nan || st.clash) = true
  · rw [if_pos h, if_pos h]; exact ⟨rfl, Or.inl rfl⟩
  · rw [if_neg h, if_neg h]
    by_cases hi : st.inf = 0
    · by_cases hm : st.s.m = 0
      · obtain ⟨u1, u2⟩ := tell_zero st l.length mode hi hm
        obtain ⟨v1, v2⟩ := tell_zero st' (l ++ [x, fneg x]).length mode (by rw [t3]; exact hi) (by rw [t4]; exact hm)
        rw [u2, v2]; exact ⟨rfl, Or.inr ⟨v1, u1⟩⟩
      · unfold tellV tellC
        simp only
        rw [t3, t4, if_neg (not_not_intro hi), if_pos hm, if_neg (not_not_intro hi), if_pos hm, if_neg (not_not_intro hi), if_pos hm]
        exact ⟨rfl, Or.inl rfl⟩
    · unfold tellV tellC
      simp only
      rw [t3]
      simp only [hi, ne_eq, not_false_eq_true, if_true]
      exact ⟨trivial, Or.inl trivial⟩
end Go.Proofs.YtdknfdncgmeimaaDoor
