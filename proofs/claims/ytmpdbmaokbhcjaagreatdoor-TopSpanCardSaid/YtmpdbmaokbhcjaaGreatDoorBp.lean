/-
  SOME OF MY TEXTS in one: Sa Cm So St Pm Pn Po Sal Pd Pf. Each says what it proves.
-/
import Derived.Test.YtmpdbmaokbhcjaaGreatDoorBm
import Derived.Test.YtmpdbmaokbhcjaaGreatDoorBa
import Derived.Test.YtmpdbmaokbhcjaaGreatDoorBe
import Derived.Test.YtmpdbmaokbhcjaaGreatDoorBh
import Derived.Test.YtmpdbmaokbhcjaaGreatDoorTi
import Derived.Test.YtmpdbmaokbhcjaaGreatDoorPl
set_option linter.unusedVariables false
set_option linter.unusedSimpArgs false
/-
  THE WALKS of sum.Add, sum.Sub, sumLives.
-/
namespace Go.Proofs.YtmpdbmaokbhcjaaGreatDoor
open Go.RowKit Nt Fm Fl

def adE (mode : Int) : Int := if knownB mode then 0 else 1
def adV (x y mode : Int) : Int := if knownB mode then allV [x, y] mode else 0
def adC (x y mode : Int) : Bool := if knownB mode then allC [x, y] else false
theorem two_lu (w : World) (x y : Int) (T : TypeId) (x0 : 0 ≤ x) (x1 : x ≤ 18446744073709551615) (y0 : 0 ≤ y) (y1 : y ≤ 18446744073709551615) : LU (w.alloc (.cells #[.int .u64 x, .int .u64 y] T)) (.slice (some ⟨w.heap.size, 0, none⟩) 2 2) [x, y] := by
  refine ⟨?_, some ⟨w.heap.size, 0, none⟩, 2, rfl, Nat.le_refl 2, by unfold maxLen; omega, Or.inr ⟨w.heap.size, 0, rfl, by simp, ?_⟩⟩
  · intro d hd
    simp at hd
    rcases hd with rfl | rfl
    · exact ⟨x0, x1⟩
    · exact ⟨y0, y1⟩
  · intro i hi
    match i, hi with
    | 0, _ => simp [go_sem]
    | 1, _ => simp [go_sem]

set_option maxHeartbeats 2000000 in
theorem sadd_any (x y mode : Int) (x0 : 0 ≤ x) (x1 : x ≤ 18446744073709551615) (y0 : 0 ≤ y) (y1 : y ≤ 18446744073709551615) (w : World) (hT : Tab w) :
    Calls Tryz.prog 40 #[.int .u64 x, .int .u64 y, .int .i64 mode] w fun e w' => e = .returned (.tuple #[.int .u64 (adV x y mode), .bool (adC x y mode), .int .i64 (adE mode)]) ∧ Below w.heap.size w w' := by
  cases hk : knownB mode
  · have e1 : adV x y mode = 0 := by unfold adV; rw [hk]; rfl
    have e2 : adC x y mode = false := by unfold adC; rw [hk]; rfl
    have e3 : adE mode = 1 := by unfold adE; rw [hk]; rfl
    rw [e1, e2, e3]; clear e1 e2 e3 hT
    go_enter Tryz.func40, Tryz.ntmps40
    go_wp2_with (go_at_call 53; refine (known_any _ _).mono ?_; rintro e w' ⟨rfl, rfl⟩)
    go_ret3
    exact ⟨rfl, Below.refl _ _⟩
  · have e1 : adV x y mode = allV [x, y] mode := by unfold adV; rw [hk]; rfl
    have e2 : adC x y mode = allC [x, y] := by unfold adC; rw [hk]; rfl
    have e3 : adE mode = 0 := by unfold adE; rw [hk]; rfl
    have hm : 0 ≤ mode ∧ mode ≤ 4 := by unfold knownB at hk; simpa using hk
    rw [e1, e2, e3]
    have hall := fun v w' h0 h1 => all_any v [x, y] mode w' h0 h1 (by simp) hm.1 hm.2
    have hlu := fun w T => two_lu w x y T x0 x1 y0 y1
    generalize allV [x, y] mode = V at *
    generalize allC [x, y] = C at *
    have HALL := Lib.hid hall
    have HLU := Lib.hid hlu
    have HT := Lib.hid hT
    clear e1 e2 e3 hT hall hlu hm
    go_enter Tryz.func40, Tryz.ntmps40
    go_wp2_with (go_at_call 53; refine (known_any _ _).mono ?_; rintro e w' ⟨rfl, rfl⟩)
    refine (HALL.out _ _ (HT.out.alloc _) (HLU.out _ _)).mono ?_
    rintro r w1 ⟨rfl, hb⟩
    have B1 := Lib.hid (bl_thru ((Below.refl w.heap.size w).alloc (Nat.le_refl _) _) (Nat.le_refl _) hb)
    clear hb
    go_wp2
    go_ret3
    exact ⟨rfl, B1.out⟩
theorem fneg_in {x : Int} (x0 : 0 ≤ x) (x1 : x ≤ 18446744073709551615) : 0 ≤ fneg x ∧ fneg x ≤ 18446744073709551615 := by unfold fneg; split <;> omega
set_option maxHeartbeats 2000000 in
theorem ssub_any (x y mode : Int) (x0 : 0 ≤ x) (x1 : x ≤ 18446744073709551615) (y0 : 0 ≤ y) (y1 : y ≤ 18446744073709551615) (w : World) (hT : Tab w) :
    Calls Tryz.prog 203 #[.int .u64 x, .int .u64 y, .int .i64 mode] w fun e w' => e = .returned (.tuple #[.int .u64 (adV x (fneg y) mode), .bool (adC x (fneg y) mode), .int .i64 (adE mode)]) ∧ Below w.heap.size w w' := by
  have hn := fneg_in y0 y1
  have hadd := fun w' h => sadd_any x (fneg y) mode x0 x1 hn.1 hn.2 w' h
  generalize adV x (fneg y) mode = V at *
  generalize adC x (fneg y) mode = C at *
  generalize adE mode = E at *
  have HADD := Lib.hid hadd
  have HT := Lib.hid hT
  clear hadd hT hn
  go_enter Tryz.func203, Tryz.ntmps203
  go_wp2_with (go_at_call 216; refine (neg_any _ (by omega) (by omega) _).mono ?_; rintro e w' ⟨rfl, rfl⟩)
  refine (HADD.out _ HT.out).mono ?_
  rintro r w1 ⟨rfl, hb⟩
  have B1 := Lib.hid hb
  clear hb
  go_wp2
  go_ret3
  exact ⟨rfl, B1.out⟩

theorem slives_facts : adV 4607182418800017408 4607182418800017408 0 = 4611686018427387904 ∧ adC 4607182418800017408 4607182418800017408 0 = false ∧ adV 4607182418800017408 1 1 = 4607182418800017409 ∧ adC 4607182418800017408 1 1 = true ∧ adE 0 = 0 ∧ adE 1 = 0 :=
  ⟨by kernel_rfl, by kernel_rfl, by kernel_rfl, by kernel_rfl, by kernel_rfl, by kernel_rfl⟩
end Go.Proofs.YtmpdbmaokbhcjaaGreatDoor

/-
  PLAIN: the sum of two numbers, in either order, and turned. No Go function here.
-/
namespace Go.Proofs.YtmpdbmaokbhcjaaGreatDoor
open Go.RowKit Nt Fm Fl

def swapM (mode : Int) : Int := if mode = 1 then 2 else if mode = 2 then 1 else mode
theorem numR_turned (neg : Bool) (m : Nat) (e mode : Int) : numR ⟨!neg, m, e⟩ (swapM mode) = fneg (numR ⟨neg, m, e⟩ mode) := by
  have hk := kd_not neg mode
  have := numk_le_MR (kd neg mode) m e
  have hMR : MR = 9218868437227405312 := rfl
  unfold numR swapM fneg
  simp only
  rw [hk]
  cases neg <;> simp <;> omega
theorem plus_nz_left {d : D} (h : d.Nf) : plus nz d = d := by
  have h1 : 0 ≤ d.e + (((-d.e).toNat : Nat) : Int) := by omega
  generalize (-d.e).toNat = T at *
  have h0 : 0 ≤ nz.e + (T : Int) := by unfold nz; simp only; omega
  exact (plus_of h h0 h1 h1 (by rw [vl_zero (d := nz) rfl]; omega)).symm
theorem valD_nf (x : Int) : (valD x).Nf := by unfold valD; exact norm_nf _ _ _
theorem fneg_two {x : Int} (x0 : 0 ≤ x) (x1 : x ≤ 18446744073709551615) : fneg (fneg x) = x := by
  unfold fneg; split <;> split <;> omega
theorem fabs_fneg (x : Int) : fabs (fneg x) = fabs x := by
  unfold fabs fneg; split <;> omega
theorem fcls_fneg (x : Int) : fcls (fneg x) = fcls x := by
  unfold fcls; rw [fabs_fneg]
theorem fcls_inf {x : Int} (h : fcls x = 4) : fabs x = 9218868437227405312 := by
  unfold fcls at h; split at h; · omega
  split at h; · omega
  split at h; · omega
  split at h; · assumption
  omega
theorem fcls_zero {x : Int} (h : fcls x = 1) : fabs x = 0 := by
  unfold fcls at h; split at h; · assumption
  split at h; · omega
  split at h; · omega
  split at h; · omega
  omega
theorem opp_nf {d : D} (h : d.Nf) : (opp d).Nf := by
  rcases h with h | h
  · rw [h]; exact Or.inl rfl
  · exact Or.inr h
theorem opp_plus (a b : D) : opp (plus a b) = plus (opp a) (opp b) := by
  obtain ⟨T, h1, h2⟩ := exT a.e b.e
  have k1 : 0 ≤ (opp a).e + (T : Int) := h1
  have k2 : 0 ≤ (opp b).e + (T : Int) := h2
  have k3 : 0 ≤ (opp (plus a b)).e + (T : Int) := plus_eT h1 h2
  exact plus_of (opp_nf (plus_Nf _ _)) k1 k2 k3 (by rw [opp_vl, plus_vl _ _ _ h1 h2, opp_vl, opp_vl, Int.neg_add])
theorem norm_turned (neg : Bool) (m : Nat) (e : Int) : norm (!neg) m e = opp (norm neg m e) := by
  unfold norm
  by_cases h : m = 0
  · rw [if_pos h, if_pos h]; rfl
  · rw [if_neg h, if_neg h]
    obtain ⟨q, h1, h2⟩ := ctz_spec h
    have hp := Nat.two_pow_pos (ctz m)
    have : m / 2 ^ ctz m = q := by
      conv => lhs; arg 1; rw [h1]
      exact Nat.mul_div_cancel _ hp
    rw [this]
    unfold opp
    simp only
    rw [decide_eq_true (show q ≠ 0 by omega), Bool.and_true]
theorem valD_fneg {x : Int} (x0 : 0 ≤ x) (x1 : x ≤ 18446744073709551615) : valD (fneg x) = opp (valD x) := by
  have h1 : fexp (fneg x) = fexp x := by unfold fexp fneg; split <;> omega
  have h2 : ffr (fneg x) = ffr x := by unfold ffr fneg; split <;> omega
  have h3 : fng (fneg x) = !fng x := by
    unfold fng
    by_cases h : 9223372036854775808 ≤ x
    · have : ¬ 9223372036854775808 ≤ fneg x := by unfold fneg; rw [if_pos h]; omega
      simp [h, this]
    · have : 9223372036854775808 ≤ fneg x := by unfold fneg; rw [if_neg h]; omega
      simp [h, this]
  unfold valD
  rw [h1, h2, h3, norm_turned]

theorem stL_two (x y : Int) : stL [x, y] = stp (stp st0 x) y := rfl
theorem kst_nan {x : Int} (st : St) (h : fcls x = 5) : stp st x = ⟨st.inf, st.clash, true, st.ng, st.ps, st.s⟩ := by
  unfold stp; rw [if_pos h]
theorem kst_inf {x : Int} (st : St) (h : fcls x = 4) : stp st x = ⟨x, st.clash || (decide (st.inf ≠ 0) && decide (st.inf ≠ x)), st.nan, st.ng, st.ps, st.s⟩ := by
  unfold stp; rw [if_neg (by omega), if_pos h]
theorem kst_pz (st : St) : stp st 0 = ⟨st.inf, st.clash, st.nan, st.ng, st.ps + 1, st.s⟩ := by
  unfold stp; rw [if_neg (by decide), if_neg (by decide), if_pos (by decide), if_pos rfl]
theorem kst_mz {x : Int} (st : St) (h : fcls x = 1) (hx : x ≠ 0) : stp st x = ⟨st.inf, st.clash, st.nan, st.ng + 1, st.ps, st.s⟩ := by
  unfold stp; rw [if_neg (by omega), if_neg (by omega), if_pos h, if_neg hx]
theorem kst_fin {x : Int} (st : St) (h5 : fcls x ≠ 5) (h4 : fcls x ≠ 4) (h1 : fcls x ≠ 1) : stp st x = ⟨st.inf, st.clash, st.nan, st.ng, st.ps, plus st.s (valD x)⟩ := by
  unfold stp; rw [if_neg h5, if_neg h4, if_neg h1]
/-- which kind -/
theorem kinds (x : Int) : fcls x = 5 ∨ fcls x = 4 ∨ x = 0 ∨ (fcls x = 1 ∧ x ≠ 0) ∨ (fcls x ≠ 5 ∧ fcls x ≠ 4 ∧ fcls x ≠ 1) := by
  by_cases h5 : fcls x = 5
  · exact Or.inl h5
  · by_cases h4 : fcls x = 4
    · exact Or.inr (Or.inl h4)
    · by_cases h1 : fcls x = 1
      · by_cases h0 : x = 0
        · exact Or.inr (Or.inr (Or.inl h0))
        · exact Or.inr (Or.inr (Or.inr (Or.inl ⟨h1, h0⟩)))
      · exact Or.inr (Or.inr (Or.inr (Or.inr ⟨h5, h4, h1⟩)))
theorem stp_swap (st : St) (x y : Int) (hn : st.s.Nf) : (fcls x = 4 ∧ fcls y = 4) ∨ stp (stp st x) y = stp (stp st y) x := by
  rcases kinds x with h | h | h | ⟨h, h'⟩ | ⟨h5, h4, h1⟩ <;> rcases kinds y with k | k | k | ⟨k, k'⟩ | ⟨k5, k4, k1⟩
  all_goals try (exact Or.inl ⟨h, k⟩)
  all_goals right
  all_goals try subst h
  all_goals try subst k
  all_goals try rfl
  all_goals simp only [kst_nan, kst_inf, kst_pz, kst_mz, kst_fin, ne_eq, not_false_eq_true, *]
  all_goals try rfl
  rw [plus_assoc, plus_assoc, plus_comm (valD x)]
theorem two_swap (x y mode : Int) : allV [x, y] mode = allV [y, x] mode ∧ allC [x, y] = allC [y, x] := by
  unfold allV allC
  rw [stL_two, stL_two]
  rcases stp_swap st0 x y (Or.inl rfl) with ⟨h, k⟩ | h
  · rw [kst_inf _ h, kst_inf _ k, kst_inf _ h, kst_inf _ k]
    by_cases e : x = y
    · subst e; exact ⟨rfl, rfl⟩
    · have x0 : x ≠ 0 := by intro z; subst z; revert h; decide
      have y0 : y ≠ 0 := by intro z; subst z; revert k; decide
      simp [st0, x0, y0, e, Ne.symm e, show ¬ y = x from fun h => e h.symm]
  · rw [h]; exact ⟨rfl, rfl⟩

/-- the one state is the other one, turned -/
def Rv (st st' : St) : Prop := st'.nan = st.nan ∧ st'.clash = st.clash ∧ st'.s = opp st.s ∧ (st.inf = 0 ∧ st'.inf = 0 ∨ st.inf ≠ 0 ∧ st'.inf ≠ 0 ∧ (0 ≤ st.inf ∧ st.inf ≤ 18446744073709551615) ∧ st'.inf = fneg st.inf)
theorem Rv.step {st st' : St} {x : Int} (x0 : 0 ≤ x) (x1 : x ≤ 18446744073709551615) (h : Rv st st') : Rv (stp st x) (stp st' (fneg x)) := by
  obtain ⟨h1, h2, h3, h4⟩ := h
  have hc := fcls_fneg x
  rcases kinds x with k | k | k | ⟨k, k'⟩ | ⟨k5, k4, k1⟩
  · rw [kst_nan _ k, kst_nan _ (hc.trans k)]
    exact ⟨rfl, h2, h3, h4⟩
  · rw [kst_inf _ k, kst_inf _ (hc.trans k)]
    have z : x ≠ 0 := by intro z; subst z; revert k; decide
    have z' : fneg x ≠ 0 := by
      intro z'
      rw [z'] at hc; rw [k] at hc; revert hc; decide
    refine ⟨h1, ?_, h3, Or.inr ⟨z, z', ⟨x0, x1⟩, rfl⟩⟩
    simp only
    rw [h2]
    rcases h4 with ⟨a, b⟩ | ⟨a, b, c, d⟩
    · rw [a, b]; rfl
    · have e : (fneg st.inf = fneg x) ↔ (st.inf = x) := by
        constructor
        · intro e
          have := congrArg fneg e
          rw [fneg_two c.1 c.2, fneg_two x0 x1] at this
          exact this
        · intro e; rw [e]
      rw [d] at b
      simp only [d, a, b, e, ne_eq, not_false_eq_true]
  · have k1 : fcls x = 1 := by subst k; rfl
    subst k
    rw [kst_pz, kst_mz _ (hc.trans k1) (by decide)]
    exact ⟨h1, h2, h3, h4⟩
  · have e : x = 9223372036854775808 := by
      have := fcls_zero k; unfold fabs at this; omega
    have e2 : fneg x = 0 := by subst e; rfl
    rw [e2, kst_pz, kst_mz _ k k']
    exact ⟨h1, h2, h3, h4⟩
  · rw [kst_fin _ k5 k4 k1, kst_fin _ (by rw [hc]; exact k5) (by rw [hc]; exact k4) (by rw [hc]; exact k1), h3, valD_fneg x0 x1, ← opp_plus]
    exact ⟨h1, h2, rfl, h4⟩
theorem two_turned (x y mode : Int) (x0 : 0 ≤ x) (x1 : x ≤ 18446744073709551615) (y0 : 0 ≤ y) (y1 : y ≤ 18446744073709551615) :
    (fcls (allV [x, y] mode) = 5 ∧ fcls (allV [fneg x, fneg y] (swapM mode)) = 5) ∨ (fcls (allV [x, y] mode) = 1 ∧ fcls (allV [fneg x, fneg y] (swapM mode)) = 1) ∨
    allV [fneg x, fneg y] (swapM mode) = fneg (allV [x, y] mode) := by
  have h : Rv (stL [x, y]) (stL [fneg x, fneg y]) := by
    rw [stL_two, stL_two]
    exact Rv.step y0 y1 (Rv.step x0 x1 ⟨rfl, rfl, rfl, Or.inl ⟨rfl, rfl⟩⟩)
  obtain ⟨h1, h2, h3, h4⟩ := h
  unfold allV
  rw [h1, h2, h3]
  generalize stL [x, y] = st at *
  generalize stL [fneg x, fneg y] = st' at *
  by_cases hn : (st.nan || st.clash) = true
  · rw [if_pos hn, if_pos hn]; left; decide
  · rw [if_neg hn, if_neg hn]
    rcases h4 with ⟨a, b⟩ | ⟨a, b, c, d⟩
    · rw [if_neg (not_not_intro a), if_neg (not_not_intro b)]
      have hm : (opp st.s).m = st.s.m := rfl
      rw [hm]
      by_cases hz : st.s.m ≠ 0
      · rw [if_pos hz, if_pos hz]
        right; right
        have : opp st.s = ⟨!st.s.neg, st.s.m, st.s.e⟩ := by unfold opp; rw [decide_eq_true hz, Bool.and_true]
        rw [this, numR_turned]
      · rw [if_neg hz, if_neg hz]
        right; left
        constructor
        · split; · rfl
          split; · rfl
          split <;> rfl
        · split; · rfl
          split; · rfl
          split <;> rfl
    · rw [if_pos a, if_pos b]
      right; right; exact d
/-- THE LAW: the differences -/
theorem diff_turned (x y mode : Int) (x0 : 0 ≤ x) (x1 : x ≤ 18446744073709551615) (y0 : 0 ≤ y) (y1 : y ≤ 18446744073709551615) :
    (fcls (allV [x, fneg y] mode) = 5 ∧ fcls (allV [y, fneg x] (swapM mode)) = 5) ∨ (fcls (allV [x, fneg y] mode) = 1 ∧ fcls (allV [y, fneg x] (swapM mode)) = 1) ∨
    allV [y, fneg x] (swapM mode) = fneg (allV [x, fneg y] mode) := by
  have hb := fneg_bd y0 y1
  have h := two_turned x (fneg y) mode x0 x1 hb.1 hb.2
  rw [fneg_two y0 y1, (two_swap (fneg x) y (swapM mode)).1] at h
  exact h
theorem allV_bd (l : List Int) (h : ∀ x ∈ l, 0 ≤ x ∧ x ≤ 18446744073709551615) (mode : Int) : 0 ≤ allV l mode ∧ allV l mode ≤ 18446744073709551615 := by
  have hi := stL_inf l h l.length (Nat.le_refl _)
  rw [List.take_length] at hi
  unfold allV
  split; · omega
  split; · omega
  split
  · have := numk_le_MR (kd (stL l).s.neg mode) (stL l).s.m (stL l).s.e
    have hMR : MR = 9218868437227405312 := rfl
    unfold numR; split <;> omega
  split; · omega
  split; · omega
  split <;> omega
end Go.Proofs.YtmpdbmaokbhcjaaGreatDoor

/-
  PLAIN: sums of numbers that have a value; what is told with infinite ones; the order of sums. No Go function here.
-/
namespace Go.Proofs.YtmpdbmaokbhcjaaGreatDoor
open Go.RowKit Nt Fm Fl

theorem plus_nz_right {d : D} (h : d.Nf) : plus d nz = d := by rw [plus_comm]; exact plus_nz_left h
theorem valD_z {x : Int} (h : fcls x = 1) : valD x = nz := by
  have hz := fcls_zero h
  have e1 : fexp x = 0 := by unfold fabs at hz; unfold fexp; omega
  have e2 : ffr x = 0 := by unfold fabs at hz; unfold ffr; omega
  unfold valD norm; rw [e1, e2]; rfl
theorem fcls_fin {x : Int} (h : fabs x < 9218868437227405312) : fcls x ≠ 5 ∧ fcls x ≠ 4 := by
  unfold fcls; split; · decide
  split; · decide
  first | decide | (rw [if_pos h]; decide)
theorem fcls_4 {x : Int} (h : fabs x = 9218868437227405312) : fcls x = 4 := by
  unfold fcls; rw [if_neg (by omega), if_neg (by omega), if_neg (by omega), if_pos h]
theorem fcls_5 {x : Int} (h : 9218868437227405312 < fabs x) : fcls x = 5 := by
  unfold fcls; rw [if_neg (by omega), if_neg (by omega), if_neg (by omega), if_neg (by omega)]
def sumD (l : List Int) : D := l.foldl (fun s x => plus s (valD x)) nz
theorem step_fin {x : Int} (st : St) (hn : st.s.Nf) (hx : fabs x < 9218868437227405312) :
    (stp st x).nan = st.nan ∧ (stp st x).clash = st.clash ∧ (stp st x).inf = st.inf ∧ (stp st x).s = plus st.s (valD x) := by
  have hc := fcls_fin hx
  rcases kinds x with k | k | k | ⟨k, k'⟩ | ⟨k5, k4, k1⟩
  · exact absurd k hc.1
  · exact absurd k hc.2
  · subst k; rw [kst_pz, valD_z (by rfl), plus_nz_right hn]; exact ⟨rfl, rfl, rfl, rfl⟩
  · rw [kst_mz _ k k', valD_z k, plus_nz_right hn]; exact ⟨rfl, rfl, rfl, rfl⟩
  · rw [kst_fin _ k5 k4 k1]; exact ⟨rfl, rfl, rfl, rfl⟩
theorem fold_fin : ∀ (l : List Int) (st : St), st.s.Nf → (∀ x ∈ l, fabs x < 9218868437227405312) →
    (l.foldl stp st).nan = st.nan ∧ (l.foldl stp st).clash = st.clash ∧ (l.foldl stp st).inf = st.inf ∧ (l.foldl stp st).s = l.foldl (fun s x => plus s (valD x)) st.s
  | [], st, _, _ => ⟨rfl, rfl, rfl, rfl⟩
  | x :: l, st, hn, h => by
    obtain ⟨s1, s2, s3, s4⟩ := step_fin st hn (h x (by simp))
    have hnf : (stp st x).s.Nf := by rw [s4]; exact plus_Nf _ _
    obtain ⟨a, b, c, d⟩ := fold_fin l (stp st x) hnf (fun y hy => h y (by simp [hy]))
    simp only [List.foldl_cons]
    rw [a, b, c, d, s1, s2, s3, s4]
    exact ⟨rfl, rfl, rfl, rfl⟩
theorem sumD_nf (l : List Int) : (sumD l).Nf := by
  unfold sumD
  rcases List.eq_nil_or_concat l with h | ⟨k, x, h⟩
  · rw [h]; exact Or.inl rfl
  · rw [h, List.concat_eq_append, List.foldl_append]; exact plus_Nf _ _
theorem allV_of {l : List Int} (mode : Int) (a : (stL l).nan = false) (b : (stL l).clash = false) (c : (stL l).inf = 0) :
    allV l mode = (if (stL l).s.m ≠ 0 then numR (stL l).s mode else if (stL l).ps = l.length then 0 else if (stL l).ng = l.length then 9223372036854775808 else if mode = 2 then 9223372036854775808 else 0) ∧
    allC l = (if (stL l).s.m ≠ 0 then numC (stL l).s else false) := by
  unfold allV allC
  simp only [a, b, c, Bool.or_self, Bool.false_eq_true, if_false, ne_eq, not_true_eq_false, and_self]
theorem allV_fin (l : List Int) (h : ∀ x ∈ l, fabs x < 9218868437227405312) (mode : Int) :
    frank (allV l mode) = rg (sumD l).neg mode (sumD l).m (sumD l).e ∧ fabs (allV l mode) ≤ 9218868437227405312 ∧ allC l = numC (sumD l) ∧
    ((sumD l).m ≠ 0 → allV l mode = numR (sumD l) mode) ∧ ((sumD l).m = 0 → fabs (allV l mode) = 0) := by
  obtain ⟨a, b, c, d⟩ := fold_fin l st0 (Or.inl rfl) h
  have a' : (stL l).nan = false := a
  have b' : (stL l).clash = false := b
  have c' : (stL l).inf = 0 := c
  have d' : (stL l).s = sumD l := d
  obtain ⟨f1, f2⟩ := allV_of mode a' b' c'
  rw [f1, f2, d']
  by_cases hz : (sumD l).m = 0
  · have r0 : rg (sumD l).neg mode (sumD l).m (sumD l).e = 0 := by unfold rg numk; rw [hz]; simp
    have c0 : numC (sumD l) = false := by unfold numC chg; simp [hz]
    rw [r0, c0, if_neg (not_not_intro hz), if_neg (not_not_intro hz)]
    have key : ∀ v : Int, v = 0 ∨ v = 9223372036854775808 → frank v = 0 ∧ fabs v ≤ 9218868437227405312 ∧ fabs v = 0 := by
      intro v hv; rcases hv with rfl | rfl <;> decide
    generalize hv : (if (stL l).ps = l.length then (0 : Int) else if (stL l).ng = l.length then 9223372036854775808 else if mode = 2 then 9223372036854775808 else 0) = v
    have hv2 : v = 0 ∨ v = 9223372036854775808 := by
      rw [← hv]; split; · exact Or.inl rfl
      split; · exact Or.inr rfl
      split; · exact Or.inr rfl
      exact Or.inl rfl
    obtain ⟨k1, k2, k3⟩ := key v hv2
    exact ⟨k1, k2, rfl, fun h => absurd hz h, fun _ => k3⟩
  · rw [if_pos hz, if_pos hz]
    obtain ⟨r1, r2⟩ := rank_numR (sumD l) mode
    refine ⟨r1, ?_, rfl, fun _ => rfl, fun h => absurd h hz⟩
    unfold frerr at r2
    split at r2
    · omega
    · omega
theorem two_inf {x z : Int} (mode : Int) (hx : fabs x = 9218868437227405312) (hz : fabs z < 9218868437227405312 ∨ z = x) : allV [x, z] mode = x ∧ allC [x, z] = false := by
  have x0 : x ≠ 0 := by intro h; subst h; revert hx; decide
  have e1 : stp st0 x = ⟨x, false, false, 0, 0, nz⟩ := by rw [kst_inf _ (fcls_4 hx)]; rfl
  have h : (stL [x, z]).nan = false ∧ (stL [x, z]).clash = false ∧ (stL [x, z]).inf = x := by
    rw [stL_two, e1]
    rcases hz with hz | hz
    · obtain ⟨s1, s2, s3, s4⟩ := step_fin ⟨x, false, false, 0, 0, nz⟩ (Or.inl rfl) hz
      rw [s1, s2, s3]; exact ⟨rfl, rfl, rfl⟩
    · subst hz; rw [kst_inf _ (fcls_4 hx)]; simp
  unfold allV allC
  rw [h.1, h.2.1, h.2.2]
  have e : ¬ (false || false) = true := by decide
  rw [if_neg e, if_neg e, if_pos x0, if_pos x0]
  exact ⟨rfl, rfl⟩
theorem two_inf' {x z : Int} (mode : Int) (hx : fabs x < 9218868437227405312) (hz : fabs z = 9218868437227405312) : allV [x, z] mode = z ∧ allC [x, z] = false := by
  rw [(two_swap x z mode).1, (two_swap x z mode).2]
  exact two_inf mode hz (Or.inl hx)
theorem nan_stays (st : St) (x : Int) (h : (st.nan || st.clash) = true) : ((stp st x).nan || (stp st x).clash) = true := by
  rcases kinds x with k | k | k | ⟨k, k'⟩ | ⟨k5, k4, k1⟩
  · rw [kst_nan _ k]; rfl
  · rw [kst_inf _ k]; simp only [Bool.or_eq_true] at h ⊢; rcases h with h | h
    · exact Or.inl h
    · exact Or.inr (Or.inl h)
  · subst k; rw [kst_pz]; exact h
  · rw [kst_mz _ k k']; exact h
  · rw [kst_fin _ k5 k4 k1]; exact h
theorem two_nan {x z : Int} (mode : Int) (h : 9218868437227405312 < fabs x ∨ 9218868437227405312 < fabs z ∨ (fabs x = 9218868437227405312 ∧ fabs z = 9218868437227405312 ∧ x ≠ z)) :
    allV [x, z] mode = 9221120237041090560 ∧ allC [x, z] = false := by
  have h : ((stL [x, z]).nan || (stL [x, z]).clash) = true := by
    rw [stL_two]
    rcases h with h | h | ⟨h1, h2, h3⟩
    · exact nan_stays _ _ (by rw [kst_nan _ (fcls_5 h)]; rfl)
    · rw [kst_nan _ (fcls_5 h)]; rfl
    · have x0 : x ≠ 0 := by intro h; subst h; revert h1; decide
      rw [kst_inf _ (fcls_4 h1), kst_inf _ (fcls_4 h2)]; simp [x0, h3]
  unfold allV allC
  rw [if_pos h, if_pos h]
  exact ⟨rfl, rfl⟩

/-- the magnitude of a number with its sign -/
def smag (x : Int) : Int := if fng x then -((mag (fabs x).toNat : Nat) : Int) else ((mag (fabs x).toNat : Nat) : Int)
theorem valD_sm {x : Int} (x0 : 0 ≤ x) (x1 : x ≤ 18446744073709551615) (hv : fabs x < 9218868437227405312) : (valD x).vl 1074 = smag x := by
  have := valD_vl x x0 x1 hv 0
  simpa [smag] using this
theorem valD_e {x : Int} (x0 : 0 ≤ x) (x1 : x ≤ 18446744073709551615) : 0 ≤ (valD x).e + ((1074 : Nat) : Int) := by
  have := (valD_facts x x0 x1).2.2.1; omega
theorem smag_mono {x y : Int} (hx : fabs x < 9218868437227405312) (hy : fabs y < 9218868437227405312) (h : frank x ≤ frank y) : smag x ≤ smag y := by
  have bx := fabs_bd x
  have bY := fabs_bd y
  have f : ∀ v : Int, fabs v < 9218868437227405312 → frank v = if 9223372036854775808 ≤ v then -fabs v else fabs v := fun v hv => by unfold frank; rw [if_neg (by omega)]
  rw [f x hx, f y hy] at h
  clear f
  unfold smag fng
  simp only [decide_eq_true_eq]
  split at h <;> split at h
  · rename_i a b; rw [if_pos a, if_pos b]
    have := @mag_mono (fabs y).toNat (fabs x).toNat (by omega); omega
  · rename_i a b; rw [if_pos a, if_neg b]; omega
  · rename_i a b; rw [if_neg a, if_pos b]
    rw [show (fabs x).toNat = 0 by omega, show (fabs y).toNat = 0 by omega, mag_zero]; decide
  · rename_i a b; rw [if_neg a, if_neg b]
    have := @mag_mono (fabs x).toNat (fabs y).toNat (by omega); omega
theorem rg_vl {c d : D} (mode : Int) (h1 : 0 ≤ c.e + ((1074 : Nat) : Int)) (h2 : 0 ≤ d.e + ((1074 : Nat) : Int)) (h : c.vl 1074 ≤ d.vl 1074) : rg c.neg mode c.m c.e ≤ rg d.neg mode d.m d.e := by
  refine rg_mono (t := 0) (by omega) (by omega) mode ?_
  rw [sg_vl c 0, sg_vl d 0]; exact h
theorem sumD_two (x z : Int) : sumD [x, z] = plus (valD x) (valD z) := by
  show plus (plus nz (valD x)) (valD z) = _
  rw [plus_nz_left (valD_nf x)]
theorem sumD_two_vl {x z : Int} (x0 : 0 ≤ x) (x1 : x ≤ 18446744073709551615) (z0 : 0 ≤ z) (z1 : z ≤ 18446744073709551615) (hx : fabs x < 9218868437227405312) (hz : fabs z < 9218868437227405312) :
    (sumD [x, z]).vl 1074 = smag x + smag z ∧ 0 ≤ (sumD [x, z]).e + ((1074 : Nat) : Int) := by
  have e1 := valD_e x0 x1
  have e2 := valD_e z0 z1
  rw [sumD_two, plus_vl _ _ _ e1 e2, valD_sm x0 x1 hx, valD_sm z0 z1 hz]
  exact ⟨rfl, plus_eT e1 e2⟩
theorem sum_mono {x y z : Int} (mode : Int) (x0 : 0 ≤ x) (x1 : x ≤ 18446744073709551615) (y0 : 0 ≤ y) (y1 : y ≤ 18446744073709551615) (z0 : 0 ≤ z) (z1 : z ≤ 18446744073709551615)
    (hx : fabs x < 9218868437227405312) (hy : fabs y < 9218868437227405312) (hz : fabs z < 9218868437227405312) (h : frank x ≤ frank y) : frank (allV [x, z] mode) ≤ frank (allV [y, z] mode) := by
  rw [(allV_fin [x, z] (by simp [hx, hz]) mode).1, (allV_fin [y, z] (by simp [hy, hz]) mode).1]
  obtain ⟨a1, a2⟩ := sumD_two_vl x0 x1 z0 z1 hx hz
  obtain ⟨b1, b2⟩ := sumD_two_vl y0 y1 z0 z1 hy hz
  refine rg_vl mode a2 b2 ?_
  have := smag_mono hx hy h
  omega
theorem frank_numR_valD {x : Int} (x0 : 0 ≤ x) (x1 : x ≤ 18446744073709551615) (hx : fabs x < 9218868437227405312) (mode : Int) : frank x = rg (valD x).neg mode (valD x).m (valD x).e := by
  rw [← (rank_numR (valD x) mode).1]
  rcases (valD_num x x0 x1 hx mode).2 with h | ⟨h, h'⟩
  · rw [h]
  · rw [h', h]; decide
theorem smag_nonneg {z : Int} (hz : fabs z < 9218868437227405312) (h : 0 ≤ frank z) : 0 ≤ smag z := by
  have := smag_mono (x := 0) (y := z) (by decide) hz h
  have e : smag 0 = 0 := by unfold smag; simp [fng, fabs, mag_zero]
  omega
theorem sum_more {x z : Int} (mode : Int) (x0 : 0 ≤ x) (x1 : x ≤ 18446744073709551615) (z0 : 0 ≤ z) (z1 : z ≤ 18446744073709551615)
    (hx : fabs x < 9218868437227405312) (hz : fabs z < 9218868437227405312) (h : 0 ≤ frank z) : frank x ≤ frank (allV [x, z] mode) := by
  rw [(allV_fin [x, z] (by simp [hx, hz]) mode).1, frank_numR_valD x0 x1 hx mode]
  obtain ⟨a1, a2⟩ := sumD_two_vl x0 x1 z0 z1 hx hz
  refine rg_vl mode (valD_e x0 x1) a2 ?_
  rw [a1, valD_sm x0 x1 hx]
  have := smag_nonneg hz h
  omega
theorem frank_le_fabs (x : Int) : frank x ≤ fabs x ∧ -fabs x ≤ frank x := by
  have := fabs_bd x
  unfold frank; split; · omega
  split <;> omega
theorem frerr_0 {x : Int} (h : frerr x = 0) : fabs x ≤ 9218868437227405312 := by
  unfold frerr at h; split at h; · omega
  omega
theorem frank_inf {x : Int} (h : fabs x = 9218868437227405312) : frank x = 9218868437227405312 ∨ frank x = -9218868437227405312 := by
  unfold frank; rw [if_neg (by omega)]; split <;> omega
/-- THE LAW of the order of sums -/
theorem sumOrder_law {x y z : Int} (mode : Int) (x0 : 0 ≤ x) (x1 : x ≤ 18446744073709551615) (y0 : 0 ≤ y) (y1 : y ≤ 18446744073709551615) (z0 : 0 ≤ z) (z1 : z ≤ 18446744073709551615)
    (e : frerr x = 0) (f : frerr y = 0) (h : frank x ≤ frank y) :
    (frerr (allV [x, z] mode) = 0 → frerr (allV [y, z] mode) = 0 → frank (allV [x, z] mode) ≤ frank (allV [y, z] mode)) ∧
    (frerr (allV [x, z] mode) = 0 → frerr z = 0 → 0 ≤ frank z → frank x ≤ frank (allV [x, z] mode)) := by
  have hx := frerr_0 e
  have hy := frerr_0 f
  have nn : frerr 9221120237041090560 ≠ 0 := by decide
  have bd := fun v => frank_bd v
  by_cases hzn : 9218868437227405312 < fabs z
  · rw [(two_nan mode (Or.inr (Or.inl hzn))).1]
    exact ⟨fun k => absurd k nn, fun k => absurd k nn⟩
  have hz : fabs z ≤ 9218868437227405312 := by omega
  clear hzn
  by_cases zi : fabs z = 9218868437227405312
  · have key : ∀ v : Int, fabs v ≤ 9218868437227405312 → frerr (allV [v, z] mode) = 0 → allV [v, z] mode = z := by
      intro v hv hk
      by_cases vi : fabs v = 9218868437227405312
      · by_cases vz : v = z
        · rw [(two_inf mode vi (Or.inr vz.symm)).1, vz]
        · rw [(two_nan mode (Or.inr (Or.inr ⟨vi, zi, vz⟩))).1] at hk; exact absurd hk nn
      · exact (two_inf' mode (by omega) zi).1
    refine ⟨fun k1 k2 => ?_, fun k1 k2 k3 => ?_⟩
    · rw [key x hx k1, key y hy k2]; exact Int.le_refl _
    · rw [key x hx k1]
      rcases frank_inf zi with k | k
      · rw [k]; exact (bd x).2
      · omega
  · have hz : fabs z < 9218868437227405312 := by omega
    clear zi
    by_cases xi : fabs x = 9218868437227405312
    · have ex := (two_inf (z := z) mode xi (Or.inl hz)).1
      rw [ex]
      refine ⟨fun k1 k2 => ?_, fun k1 k2 k3 => Int.le_refl _⟩
      by_cases yi : fabs y = 9218868437227405312
      · rw [(two_inf (z := z) mode yi (Or.inl hz)).1]; exact h
      · rcases frank_inf xi with k | k
        · have := (frank_le_fabs y).1; omega
        · rw [k]; exact (bd _).1
    · have hx : fabs x < 9218868437227405312 := by omega
      refine ⟨fun k1 k2 => ?_, fun k1 k2 k3 => sum_more mode x0 x1 z0 z1 hx hz k3⟩
      by_cases yi : fabs y = 9218868437227405312
      · rw [(two_inf (z := z) mode yi (Or.inl hz)).1]
        rcases frank_inf yi with k | k
        · rw [k]; exact (bd _).2
        · have := (frank_le_fabs x).2; omega
      · exact sum_mono mode x0 x1 y0 y1 z0 z1 hx (by omega) hz h
end Go.Proofs.YtmpdbmaokbhcjaaGreatDoor

/-
  PLAIN: which exact numbers are floats; the difference of two numbers that are near each other (Sterbenz). No Go function here.
-/
namespace Go.Proofs.YtmpdbmaokbhcjaaGreatDoor
open Go.RowKit Nt Fm Fl

/-- what is rounded with nothing lost is the number itself -/
theorem valD_numR {d : D} (hn : d.Nf) (mode : Int) (hc : numC d = false) : valD (numR d mode) = d ∧ hasV (numR d mode) = true := by
  have hMR : MR = 9218868437227405312 := rfl
  have hb := numk_le_MR (kd d.neg mode) d.m d.e
  have xb : 0 ≤ numR d mode ∧ numR d mode ≤ 18446744073709551615 := by unfold numR; split <;> omega
  obtain ⟨f1, f2⟩ := fng_numR d mode
  obtain ⟨t, ht⟩ : ∃ t : Nat, 0 ≤ d.e + 1074 + t := ⟨(-(d.e + 1074)).toNat, by omega⟩
  obtain ⟨c1, c2⟩ := chg_exact ht (kd d.neg mode) hc
  have hv : fabs (numR d mode) < 9218868437227405312 := by
    have := fabs_bd (numR d mode); omega
  have e1 := (valD_facts _ xb.1 xb.2).2.2.1
  refine ⟨nf_inj (T := 1074 + t) (valD_nf _) hn (by omega) (by omega) ?_, by unfold hasV; simpa using hv⟩
  rw [valD_vl _ xb.1 xb.2 hv, f1, f2, ← sg_vl d t]
  unfold sg
  rw [c2]
theorem hasV_z {x : Int} (h : fabs x = 0) : hasV x = true ∧ valD x = nz := by
  refine ⟨by unfold hasV; rw [h]; decide, valD_z ?_⟩
  unfold fcls; rw [if_pos h]
theorem nf_z {d : D} (hn : d.Nf) (h : d.m = 0) : d = nz := by
  rcases hn with h1 | h1
  · exact h1
  · omega
/-- a sum with nothing lost is the sum -/
theorem allV_exact {l : List Int} (h : ∀ x ∈ l, fabs x < 9218868437227405312) (mode : Int) (hc : allC l = false) : hasV (allV l mode) = true ∧ valD (allV l mode) = sumD l := by
  obtain ⟨-, -, a3, a4, a5⟩ := allV_fin l h mode
  have hn := sumD_nf l
  by_cases hz : (sumD l).m = 0
  · rw [nf_z hn hz]; exact hasV_z (a5 hz)
  · rw [a4 hz]
    have := valD_numR hn mode (a3 ▸ hc)
    exact ⟨this.2, this.1⟩

theorem mag_rep : ∀ (j q : Nat), q ≤ 9007199254740992 → ∃ r, mag r = q * 2 ^ j
  | 0, q, h => ⟨_, mag_of q 0 (Or.inr rfl) h⟩
  | j + 1, q, h => by
    by_cases hq : 4503599627370496 ≤ q
    · exact ⟨_, mag_of q (j + 1) (Or.inl hq) h⟩
    · obtain ⟨r, hr⟩ := mag_rep j (2 * q) (by omega)
      exact ⟨r, by rw [hr, Nat.pow_succ, Nat.mul_comm 2 q, Nat.mul_assoc, Nat.mul_comm 2]⟩
theorem mag_parts (r : Nat) : ∃ q, q < 9007199254740992 ∧ mag r = q * ulp r := by
  unfold mag ulp
  by_cases h : r < 4503599627370496
  · refine ⟨r, by omega, ?_⟩
    rw [if_pos h, show r / 4503599627370496 - 1 = 0 by omega]; simp
  · exact ⟨4503599627370496 + r % 4503599627370496, by omega, by rw [if_neg h]⟩
theorem ulp_dvd {r s : Nat} (h : r ≤ s) : ∃ q, mag s = q * ulp r := by
  obtain ⟨q, -, hq⟩ := mag_parts s
  have : ulp s = 2 ^ (s / 4503599627370496 - 1 - (r / 4503599627370496 - 1)) * ulp r := by
    unfold ulp
    have : r / 4503599627370496 ≤ s / 4503599627370496 := Nat.div_le_div_right h
    rw [← Nat.pow_add]; congr 1; omega
  exact ⟨q * 2 ^ (s / 4503599627370496 - 1 - (r / 4503599627370496 - 1)), by rw [hq, this, Nat.mul_assoc]⟩
theorem sterb {r s : Nat} (h : r ≤ s) (h2 : mag s ≤ 2 * mag r) : ∃ k, k ≤ r ∧ mag k = mag s - mag r := by
  obtain ⟨p, hp, ep⟩ := mag_parts r
  obtain ⟨q, eq⟩ := ulp_dvd h
  have hu := ulp_pos r
  have hq : q ≤ 2 * p := by
    rw [ep, eq, ← Nat.mul_assoc] at h2
    exact Nat.le_of_mul_le_mul_right h2 hu
  obtain ⟨k, hk⟩ := mag_rep (r / 4503599627370496 - 1) (q - p) (by omega)
  have e : mag k = mag s - mag r := by
    rw [hk, ep, eq, ← Nat.sub_mul]; rfl
  refine ⟨k, ?_, e⟩
  rw [← mag_le_iff, e]; omega
theorem sterb' {r s : Nat} (h1 : mag r ≤ 2 * mag s) (h2 : mag s ≤ 2 * mag r) : ∃ k, (k ≤ r ∧ k ≤ s) ∧ mag k = ((mag s : Int) - (mag r : Int)).natAbs := by
  rcases Nat.le_total r s with h | h
  · obtain ⟨k, h3, h4⟩ := sterb h h2
    have := mag_mono h
    exact ⟨k, ⟨h3, by omega⟩, by omega⟩
  · obtain ⟨k, h3, h4⟩ := sterb h h1
    have := mag_mono h
    exact ⟨k, ⟨by omega, h3⟩, by omega⟩
/-- a number is a float -/
theorem chg_of {d : D} (he : 0 ≤ d.e + ((1074 : Nat) : Int)) {r : Nat} (hr : r < MR) (h : (d.vl 1074).natAbs = mag r) : numC d = false := by
  unfold numC
  have ht : 0 ≤ d.e + 1074 + ((0 : Nat) : Int) := by omega
  rw [chg_iff ht]
  exact ⟨r, hr, by rw [tt_vl, h]; simp⟩

theorem shift_vl (d : D) (n : Int) {T : Nat} (hT : 0 ≤ d.e + n + T) : (norm d.neg d.m (d.e + n)).vl T = d.sm * 2 ^ (d.e + n + T).toNat := by
  rw [norm_vl _ _ _ _ hT]; rfl
theorem sterb_law {x y : Int} (x0 : 0 ≤ x) (x1 : x ≤ 18446744073709551615) (y0 : 0 ≤ y) (y1 : y ≤ 18446744073709551615) (hx : fabs x < 9218868437227405312) (hy : fabs y < 9218868437227405312)
    (lo hi : D) (h : lo = norm (valD y).neg (valD y).m ((valD y).e + -1) ∧ hi = norm (valD y).neg (valD y).m ((valD y).e + 1) ∧ (valD y).neg = false ∨
      lo = norm (valD y).neg (valD y).m ((valD y).e + 1) ∧ hi = norm (valD y).neg (valD y).m ((valD y).e + -1) ∧ (valD y).neg = true)
    (h1 : cmp lo (valD x) ≤ 0) (h2 : cmp (valD x) hi ≤ 0) : numC (plus (valD x) (opp (valD y))) = false := by
  have e1 := valD_e x0 x1
  have e2 := valD_e y0 y1
  have e3 : 0 ≤ (opp (valD y)).e + ((1074 : Nat) : Int) := e2
  have hsx := valD_sm x0 x1 hx
  have hsy := valD_sm y0 y1 hy
  have hS : (plus (valD x) (opp (valD y))).vl 1074 = smag x - smag y := by
    rw [plus_vl _ _ _ e1 e3, opp_vl, hsx, hsy, Int.sub_eq_add_neg]
  have l1 : (norm (valD y).neg (valD y).m ((valD y).e + -1)).vl 1075 = smag y := by
    rw [shift_vl _ _ (by omega), ← hsy]; unfold D.vl; congr 2; omega
  have l2 : (norm (valD y).neg (valD y).m ((valD y).e + 1)).vl 1075 = 4 * smag y := by
    rw [shift_vl _ _ (by omega), ← hsy]; unfold D.vl
    rw [show ((valD y).e + 1 + ((1075 : Nat) : Int)).toNat = 2 + ((valD y).e + ((1074 : Nat) : Int)).toNat by omega, Int.pow_add, Int.mul_left_comm]; rfl
  have l3 : (valD x).vl 1075 = 2 * smag x := by
    rw [← hsx]; unfold D.vl
    rw [show ((valD x).e + ((1075 : Nat) : Int)).toNat = 1 + ((valD x).e + ((1074 : Nat) : Int)).toNat by omega, Int.pow_add, Int.mul_left_comm]; rfl
  have el : 0 ≤ lo.e + ((1075 : Nat) : Int) := by
    rcases h with ⟨h, -⟩ | ⟨h, -⟩ <;> rw [h] <;> exact norm_eT (by omega)
  have eh : 0 ≤ hi.e + ((1075 : Nat) : Int) := by
    rcases h with ⟨-, h, -⟩ | ⟨-, h, -⟩ <;> rw [h] <;> exact norm_eT (by omega)
  rw [cmp_le (T := 1075) el (by omega)] at h1
  rw [cmp_le (T := 1075) (by omega) eh] at h2
  have key : (0 ≤ smag y ∧ smag y ≤ 2 * smag x ∧ 2 * smag x ≤ 4 * smag y) ∨ (smag y ≤ 0 ∧ 4 * smag y ≤ 2 * smag x ∧ 2 * smag x ≤ smag y) := by
    have hsm : smag y = (valD y).sm * 2 ^ ((valD y).e + ((1074 : Nat) : Int)).toNat := hsy.symm
    have hp : (0 : Int) ≤ 2 ^ ((valD y).e + ((1074 : Nat) : Int)).toNat := Int.le_of_lt (Int.pow_pos (by decide))
    rcases h with ⟨a, b, c⟩ | ⟨a, b, c⟩
    · left
      rw [a, l1, l3] at h1; rw [b, l2, l3] at h2
      refine ⟨?_, h1, h2⟩
      rw [hsm]; refine Int.mul_nonneg ?_ hp
      unfold D.sm; rw [c]; simp
    · right
      rw [a, l2, l3] at h1; rw [b, l1, l3] at h2
      refine ⟨?_, h1, h2⟩
      rw [hsm]; refine Int.mul_nonpos_of_nonpos_of_nonneg ?_ hp
      unfold D.sm; rw [c]; simp
  have hMR : MR = 9218868437227405312 := rfl
  have bx := fabs_bd x
  have bY := fabs_bd y
  have ax : (smag x).natAbs = mag (fabs x).toNat := by unfold smag; split <;> simp
  have ay : (smag y).natAbs = mag (fabs y).toNat := by unfold smag; split <;> simp
  obtain ⟨k, ⟨k1, k2⟩, k3⟩ := sterb' (r := (fabs y).toNat) (s := (fabs x).toNat) (by omega) (by omega)
  refine chg_of (plus_eT e1 e3) (r := k) (by omega) ?_
  rw [hS, k3]
  omega
end Go.Proofs.YtmpdbmaokbhcjaaGreatDoor

/-
  PLAIN: products of numbers; a product and a number at once. No Go function here.
-/
namespace Go.Proofs.YtmpdbmaokbhcjaaGreatDoor
open Go.RowKit Nt Fm Fl

def sgn (x y : Int) : Int := if fng x = fng y then 0 else 9223372036854775808
def spB (x y : Int) : Bool := decide (fcls x = 5) || (decide (fcls y = 5) || (decide (fcls x = 4) || decide (fcls y = 4)))
def spV (x y : Int) : Int := if fcls x = 5 ∨ fcls y = 5 ∨ (fcls x = 4 ∧ fcls y = 1) ∨ (fcls x = 1 ∧ fcls y = 4) then 9221120237041090560 else if fcls x = 4 ∨ fcls y = 4 then 9218868437227405312 + sgn x y else 0
def prD (x y : Int) : D := times (valD x) (valD y)
def muV0 (x y mode : Int) : Int := if spB x y = true then spV x y else if (prD x y).m = 0 then sgn x y else numR (prD x y) mode
def muC0 (x y : Int) : Bool := if spB x y = true then false else if (prD x y).m = 0 then false else numC (prD x y)
def muV (x y mode : Int) : Int := if knownB mode = true then muV0 x y mode else 0
def muC (x y mode : Int) : Bool := if knownB mode = true then muC0 x y else false
def fsD (x y z : Int) : D := plus (prD x y) (valD z)
def fmV0 (x y z mode : Int) : Int :=
  if fcls z = 5 ∨ (spB x y = true ∧ spV x y = 9221120237041090560) then 9221120237041090560 else if spB x y = true then allV [spV x y, z] mode else if fcls z = 4 then z
  else if (fsD x y z).m ≠ 0 then numR (fsD x y z) mode else if (prD x y).m = 0 then allV [sgn x y, z] mode else if mode = 2 then 9223372036854775808 else 0
def fmC0 (x y z : Int) : Bool :=
  if fcls z = 5 ∨ (spB x y = true ∧ spV x y = 9221120237041090560) then false else if spB x y = true then allC [spV x y, z] else if fcls z = 4 then false
  else if (fsD x y z).m ≠ 0 then numC (fsD x y z) else if (prD x y).m = 0 then allC [sgn x y, z] else false
def fmV (x y z mode : Int) : Int := if knownB mode = true then fmV0 x y z mode else 0
def fmC (x y z mode : Int) : Bool := if knownB mode = true then fmC0 x y z else false

theorem sgn_comm (x y : Int) : sgn x y = sgn y x := by
  unfold sgn
  by_cases h : fng x = fng y
  · rw [if_pos h, if_pos h.symm]
  · rw [if_neg h, if_neg (fun e => h e.symm)]
theorem sgn_bd (x y : Int) : 0 ≤ sgn x y ∧ sgn x y ≤ 9223372036854775808 := by unfold sgn; split <;> omega
theorem sgn_abs (x y : Int) : fabs (sgn x y) = 0 := by unfold sgn; split <;> decide
theorem spB_comm (x y : Int) : spB x y = spB y x := by
  unfold spB
  cases decide (fcls x = 5) <;> cases decide (fcls y = 5) <;> cases decide (fcls x = 4) <;> cases decide (fcls y = 4) <;> rfl
theorem spV_comm (x y : Int) : spV x y = spV y x := by
  unfold spV; rw [sgn_comm x y]
  by_cases h : fcls x = 5 ∨ fcls y = 5 ∨ (fcls x = 4 ∧ fcls y = 1) ∨ (fcls x = 1 ∧ fcls y = 4)
  · have h' : fcls y = 5 ∨ fcls x = 5 ∨ (fcls y = 4 ∧ fcls x = 1) ∨ (fcls y = 1 ∧ fcls x = 4) := by omega
    rw [if_pos h, if_pos h']
  · have h' : ¬ (fcls y = 5 ∨ fcls x = 5 ∨ (fcls y = 4 ∧ fcls x = 1) ∨ (fcls y = 1 ∧ fcls x = 4)) := by omega
    rw [if_neg h, if_neg h']
    by_cases k : fcls x = 4 ∨ fcls y = 4
    · have k' : fcls y = 4 ∨ fcls x = 4 := by omega
      rw [if_pos k, if_pos k']
    · have k' : ¬ (fcls y = 4 ∨ fcls x = 4) := by omega
      rw [if_neg k, if_neg k']
theorem prD_comm (x y : Int) : prD x y = prD y x := times_comm _ _
theorem mu_comm (x y mode : Int) : muV x y mode = muV y x mode ∧ muC x y mode = muC y x mode := by
  unfold muV muC muV0 muC0
  rw [spB_comm, spV_comm, prD_comm, sgn_comm]
  exact ⟨rfl, rfl⟩
theorem prD_nf (x y : Int) : (prD x y).Nf := times_Nf _ _
theorem prD_vl {x y : Int} (x0 : 0 ≤ x) (x1 : x ≤ 18446744073709551615) (y0 : 0 ≤ y) (y1 : y ≤ 18446744073709551615) (hx : fabs x < 9218868437227405312) (hy : fabs y < 9218868437227405312) :
    (prD x y).vl 2148 = smag x * smag y ∧ 0 ≤ (prD x y).e + ((2148 : Nat) : Int) := by
  have e1 := valD_e x0 x1
  have e2 := valD_e y0 y1
  have h := times_vl (valD x) (valD y) 1074 1074 e1 e2
  have k := times_eT e1 e2
  rw [valD_sm x0 x1 hx, valD_sm y0 y1 hy] at h
  exact ⟨h, k⟩
theorem spB_fin {x y : Int} (hx : fabs x < 9218868437227405312) (hy : fabs y < 9218868437227405312) : spB x y = false := by
  obtain ⟨a, b⟩ := fcls_fin hx
  obtain ⟨c, d⟩ := fcls_fin hy
  unfold spB; rw [decide_eq_false a, decide_eq_false b, decide_eq_false c, decide_eq_false d]; rfl
theorem spB_false {x y : Int} (h : spB x y = false) : fabs x < 9218868437227405312 ∧ fabs y < 9218868437227405312 := by
  unfold spB at h
  simp only [Bool.or_eq_false_iff, decide_eq_false_iff_not] at h
  obtain ⟨a, b, c, d⟩ := h
  constructor
  · apply Classical.byContradiction; intro k
    by_cases e : fabs x = 9218868437227405312
    · exact c (fcls_4 e)
    · exact a (fcls_5 (by omega))
  · apply Classical.byContradiction; intro k
    by_cases e : fabs y = 9218868437227405312
    · exact d (fcls_4 e)
    · exact b (fcls_5 (by omega))
theorem numR_bd (d : D) (mode : Int) : 0 ≤ numR d mode ∧ numR d mode ≤ 18446744073709551615 := by
  have := numk_le_MR (kd d.neg mode) d.m d.e
  have hMR : MR = 9218868437227405312 := rfl
  unfold numR; split <;> omega
theorem spV_bd (x y : Int) : 0 ≤ spV x y ∧ spV x y ≤ 18446744073709551615 := by
  have := sgn_bd x y
  unfold spV; split; · omega
  split <;> omega
theorem muV_bd (x y mode : Int) : 0 ≤ muV x y mode ∧ muV x y mode ≤ 18446744073709551615 := by
  have a := sgn_bd x y
  have b := spV_bd x y
  have c := numR_bd (prD x y) mode
  unfold muV muV0; split
  · split; · omega
    split <;> omega
  · omega
theorem fmV_bd (x y z mode : Int) (z0 : 0 ≤ z) (z1 : z ≤ 18446744073709551615) : 0 ≤ fmV x y z mode ∧ fmV x y z mode ≤ 18446744073709551615 := by
  have a := sgn_bd x y
  have b := spV_bd x y
  have c := numR_bd (fsD x y z) mode
  have d := allV_bd [spV x y, z] (by simp; omega) mode
  have e := allV_bd [sgn x y, z] (by simp; omega) mode
  unfold fmV fmV0; split
  · split; · omega
    split; · omega
    split; · omega
    split; · omega
    split; · omega
    split <;> omega
  · omega

/-- a product of numbers that have values: its rank -/
theorem mu_fin {x y : Int} (hx : fabs x < 9218868437227405312) (hy : fabs y < 9218868437227405312) (mode : Int) :
    frank (muV0 x y mode) = rg (prD x y).neg mode (prD x y).m (prD x y).e ∧ muC0 x y = numC (prD x y) ∧ ((prD x y).m = 0 → fabs (muV0 x y mode) = 0) ∧ ((prD x y).m ≠ 0 → muV0 x y mode = numR (prD x y) mode) ∧ fabs (muV0 x y mode) ≤ 9218868437227405312 := by
  unfold muV0 muC0
  rw [spB_fin hx hy]
  simp only [Bool.false_eq_true, if_false]
  by_cases hz : (prD x y).m = 0
  · rw [if_pos hz, if_pos hz]
    have r0 : rg (prD x y).neg mode (prD x y).m (prD x y).e = 0 := by unfold rg numk; rw [hz]; simp
    have c0 : numC (prD x y) = false := by unfold numC chg; simp [hz]
    rw [r0, c0]
    have := sgn_abs x y
    refine ⟨?_, rfl, fun _ => this, fun h => absurd hz h, by omega⟩
    unfold sgn; split <;> decide
  · rw [if_neg hz, if_neg hz]
    obtain ⟨r1, r2⟩ := rank_numR (prD x y) mode
    exact ⟨r1, rfl, fun h => absurd h hz, fun _ => rfl, frerr_0 r2⟩
theorem rg_vl2 {c d : D} (mode : Int) (T : Nat) (hT : 1074 ≤ T) (h1 : 0 ≤ c.e + (T : Int)) (h2 : 0 ≤ d.e + (T : Int)) (h : c.vl T ≤ d.vl T) : rg c.neg mode c.m c.e ≤ rg d.neg mode d.m d.e := by
  obtain ⟨t, rfl⟩ : ∃ t, T = 1074 + t := ⟨T - 1074, by omega⟩
  refine rg_mono (t := t) (by omega) (by omega) mode ?_
  rw [sg_vl c t, sg_vl d t]; exact h
theorem frank_fng {x : Int} (h : fabs x ≤ 9218868437227405312) : frank x = if fng x = true then -fabs x else fabs x := by
  unfold frank fng; rw [if_neg (by omega)]; simp only [decide_eq_true_eq]
theorem inf_sgn (x y : Int) : frank (9218868437227405312 + sgn x y) = (if fng x = fng y then 9218868437227405312 else -9218868437227405312) ∧ frerr (9218868437227405312 + sgn x y) = 0 := by
  unfold sgn; split <;> decide
theorem fcls_ne1 {x : Int} (h : fabs x ≠ 0) : fcls x ≠ 1 := by
  unfold fcls; rw [if_neg h]; split; · decide
  split; · decide
  split <;> decide
theorem fcls_1 {x : Int} (h : fabs x = 0) : fcls x = 1 := by unfold fcls; rw [if_pos h]
/-- an infinite one times what isn't 0, and is a number -/
theorem mu_inf {x y : Int} (mode : Int) (hx : fabs x = 9218868437227405312) (hy : fabs y ≤ 9218868437227405312) : (fabs y = 0 ∧ muV0 x y mode = 9221120237041090560 ∧ muC0 x y = false) ∨ (fabs y ≠ 0 ∧ muV0 x y mode = 9218868437227405312 + sgn x y ∧ muC0 x y = false) := by
  have k4 := fcls_4 hx
  have hb : spB x y = true := by unfold spB; rw [decide_eq_true k4]; simp
  have h5 : fcls y ≠ 5 := by unfold fcls; split; · decide
                             split; · decide
                             split; · decide
                             split; · decide
                             omega
  unfold muV0 muC0 spV
  rw [if_pos hb, if_pos hb]
  by_cases hz : fabs y = 0
  · left; rw [if_pos (Or.inr (Or.inr (Or.inl ⟨k4, fcls_1 hz⟩)))]; exact ⟨hz, rfl, rfl⟩
  · right
    have := fcls_ne1 hz
    rw [if_neg (by omega), if_pos (Or.inl k4)]; exact ⟨hz, rfl, rfl⟩
theorem mu_inf' {x y : Int} (mode : Int) (hy : fabs y = 9218868437227405312) (hx : fabs x ≤ 9218868437227405312) : (fabs x = 0 ∧ muV0 x y mode = 9221120237041090560 ∧ muC0 x y = false) ∨ (fabs x ≠ 0 ∧ muV0 x y mode = 9218868437227405312 + sgn x y ∧ muC0 x y = false) := by
  have e1 : muV0 x y mode = muV0 y x mode := by unfold muV0; rw [spB_comm, spV_comm, prD_comm, sgn_comm]
  have e2 : muC0 x y = muC0 y x := by unfold muC0; rw [spB_comm, prD_comm]
  rw [e1, e2, sgn_comm]
  exact mu_inf mode hy hx
theorem mu_nan {x y : Int} (mode : Int) (h : 9218868437227405312 < fabs x ∨ 9218868437227405312 < fabs y) : muV0 x y mode = 9221120237041090560 ∧ muC0 x y = false := by
  have h5 : fcls x = 5 ∨ fcls y = 5 := by
    rcases h with h | h
    · exact Or.inl (fcls_5 h)
    · exact Or.inr (fcls_5 h)
  have hb : spB x y = true := by unfold spB; rcases h5 with h | h <;> rw [decide_eq_true h] <;> simp
  unfold muV0 muC0 spV
  rw [if_pos hb, if_pos hb, if_pos (by omega)]; exact ⟨rfl, rfl⟩
/-- THE LAW of the order of products -/
theorem mu_mono {x y z : Int} (mode : Int) (x0 : 0 ≤ x) (x1 : x ≤ 18446744073709551615) (y0 : 0 ≤ y) (y1 : y ≤ 18446744073709551615) (z0 : 0 ≤ z) (z1 : z ≤ 18446744073709551615)
    (e : frerr x = 0) (f : frerr y = 0) (g : frerr z = 0) (h : frank x ≤ frank y) (hz : 0 ≤ frank z) (k1 : frerr (muV0 x z mode) = 0) (k2 : frerr (muV0 y z mode) = 0) : frank (muV0 x z mode) ≤ frank (muV0 y z mode) := by
  have hx := frerr_0 e
  have hy := frerr_0 f
  have hzz := frerr_0 g
  have nn : frerr 9221120237041090560 ≠ 0 := by decide
  have bd := fun v => frank_bd v
  have bx := fabs_bd x
  have bY := fabs_bd y
  have bz := fabs_bd z
  have fx := frank_fng hx
  have fy := frank_fng hy
  have fz := frank_fng hzz
  by_cases zi : fabs z = 9218868437227405312
  · have gz : fng z = false := by
      cases hg : fng z
      · rfl
      · rw [hg, if_pos rfl] at fz; omega
    rcases mu_inf' (x := x) mode zi hx with ⟨-, a, -⟩ | ⟨a0, a, -⟩
    · rw [a] at k1; exact absurd k1 nn
    rcases mu_inf' (x := y) mode zi hy with ⟨-, b, -⟩ | ⟨b0, b, -⟩
    · rw [b] at k2; exact absurd k2 nn
    rw [a, b, (inf_sgn x z).1, (inf_sgn y z).1, gz]
    cases hgx : fng x <;> cases hgy : fng y <;> rw [hgx] at fx <;> rw [hgy] at fy <;> simp at fx fy ⊢
    omega
  · have hz1 : fabs z < 9218868437227405312 := by omega
    clear hzz
    by_cases xi : fabs x = 9218868437227405312
    · rcases mu_inf (y := z) mode xi (by omega) with ⟨-, a, -⟩ | ⟨a0, a, -⟩
      · rw [a] at k1; exact absurd k1 nn
      have gz : fng z = false := by
        cases hg : fng z
        · rfl
        · rw [hg, if_pos rfl] at fz; omega
      rw [a, (inf_sgn x z).1, gz]
      cases hgx : fng x
      · rw [hgx] at fx; simp only [Bool.false_eq_true, if_false] at fx
        have yi : fabs y = 9218868437227405312 := by
          have := (frank_le_fabs y).1; omega
        rcases mu_inf (y := z) mode yi (by omega) with ⟨b0, b, -⟩ | ⟨b0, b, -⟩
        · omega
        have gy : fng y = false := by
          cases hg : fng y
          · rfl
          · rw [hg, if_pos rfl] at fy; omega
        rw [b, (inf_sgn y z).1, gz, gy]; simp
      · simp only [Bool.true_eq_false, if_false]
        exact (bd _).1
    · have hx1 : fabs x < 9218868437227405312 := by omega
      by_cases yi : fabs y = 9218868437227405312
      · rcases mu_inf (y := z) mode yi (by omega) with ⟨b0, b, -⟩ | ⟨b0, b, -⟩
        · rw [b] at k2; exact absurd k2 nn
        have gz : fng z = false := by
          cases hg : fng z
          · rfl
          · rw [hg, if_pos rfl] at fz; omega
        have gy : fng y = false := by
          cases hg : fng y
          · rfl
          · rw [hg, if_pos rfl] at fy; have := (frank_le_fabs x).2; omega
        rw [b, (inf_sgn y z).1, gz, gy]; simp only [if_true]
        exact (bd _).2
      · have hy1 : fabs y < 9218868437227405312 := by omega
        rw [(mu_fin hx1 hz1 mode).1, (mu_fin hy1 hz1 mode).1]
        obtain ⟨a1, a2⟩ := prD_vl x0 x1 z0 z1 hx1 hz1
        obtain ⟨b1, b2⟩ := prD_vl y0 y1 z0 z1 hy1 hz1
        refine rg_vl2 mode 2148 (by decide) a2 b2 ?_
        rw [a1, b1]
        exact Int.mul_le_mul_of_nonneg_right (smag_mono hx1 hy1 h) (smag_nonneg hz1 hz)
/-- exact just if nothing is lost -/
theorem mu_exact {x y : Int} (hx : fabs x < 9218868437227405312) (hy : fabs y < 9218868437227405312) (mode : Int) : (muC0 x y = false ∧ hasV (muV0 x y mode) = true ∧ valD (muV0 x y mode) = prD x y) ∨ (muC0 x y = true ∧ (hasV (muV0 x y mode) = true → valD (muV0 x y mode) ≠ prD x y)) := by
  obtain ⟨a1, a2, a3, a4, a5⟩ := mu_fin hx hy mode
  have hb : 0 ≤ muV0 x y mode ∧ muV0 x y mode ≤ 18446744073709551615 := by
    have := muV_bd x y 0
    have a := sgn_bd x y
    have b := spV_bd x y
    have c := numR_bd (prD x y) mode
    unfold muV0; split
    · omega
    · split <;> omega
  cases hc : muC0 x y
  · left
    refine ⟨rfl, ?_⟩
    by_cases hz : (prD x y).m = 0
    · rw [nf_z (prD_nf x y) hz]; exact hasV_z (a3 hz)
    · rw [a4 hz]
      have := valD_numR (prD_nf x y) mode (a2 ▸ hc)
      exact ⟨this.2, this.1⟩
  · right
    refine ⟨rfl, fun hv he => ?_⟩
    have hv' : fabs (muV0 x y mode) < 9218868437227405312 := by unfold hasV at hv; simpa using hv
    have := (valD_num _ hb.1 hb.2 hv' mode).1
    rw [he, ← a2, hc] at this; cases this
end Go.Proofs.YtmpdbmaokbhcjaaGreatDoor

/-
  PLAIN: products turned, times 1, times a power of two; a product and a number at once; what is left of a product. No Go function here.
-/
namespace Go.Proofs.YtmpdbmaokbhcjaaGreatDoor
open Go.RowKit Nt Fm Fl

theorem fng_fneg {x : Int} (x0 : 0 ≤ x) (x1 : x ≤ 18446744073709551615) : fng (fneg x) = !fng x := by
  unfold fng
  by_cases h : 9223372036854775808 ≤ x
  · have : ¬ 9223372036854775808 ≤ fneg x := by unfold fneg; rw [if_pos h]; omega
    simp [h, this]
  · have : 9223372036854775808 ≤ fneg x := by unfold fneg; rw [if_neg h]; omega
    simp [h, this]
theorem times_opp (c d : D) : times (opp c) d = opp (times c d) := by
  have h1 : 0 ≤ c.e + (((-c.e).toNat : Nat) : Int) := by omega
  have h2 : 0 ≤ d.e + (((-d.e).toNat : Nat) : Int) := by omega
  generalize (-c.e).toNat = T at *
  generalize (-d.e).toNat = U at *
  have k := times_eT h1 h2
  refine (times_of (T := T) (U := U) (opp_nf (times_Nf _ _)) (show 0 ≤ (opp c).e + (T : Int) from h1) h2 k ?_).symm
  rw [opp_vl, times_vl _ _ _ _ h1 h2, opp_vl, Int.neg_mul]
theorem sgn_fneg {x : Int} (x0 : 0 ≤ x) (x1 : x ≤ 18446744073709551615) (y : Int) : sgn (fneg x) y = 9223372036854775808 - sgn x y := by
  unfold sgn; rw [fng_fneg x0 x1]
  cases fng x <;> cases fng y <;> simp
theorem fneg_sgn (x y : Int) (a : Int) (ha : a = 0 ∨ a = 9218868437227405312) : fneg (a + sgn x y) = a + (9223372036854775808 - sgn x y) := by
  unfold sgn
  rcases ha with rfl | rfl <;> split <;> decide
/-- turned -/
theorem mu_turned {x y : Int} (mode : Int) (x0 : 0 ≤ x) (x1 : x ≤ 18446744073709551615) :
    muC0 (fneg x) y = muC0 x y ∧ ((muV0 x y mode = 9221120237041090560 ∧ muV0 (fneg x) y (swapM mode) = 9221120237041090560) ∨ muV0 (fneg x) y (swapM mode) = fneg (muV0 x y mode)) := by
  have hc := fcls_fneg x
  have hb : spB (fneg x) y = spB x y := by unfold spB; rw [hc]
  have hD : prD (fneg x) y = opp (prD x y) := by unfold prD; rw [valD_fneg x0 x1, times_opp]
  have hm : (opp (prD x y)).m = (prD x y).m := rfl
  have he : (opp (prD x y)).e = (prD x y).e := rfl
  refine ⟨?_, ?_⟩
  · unfold muC0; rw [hb, hD, hm]; unfold numC; rw [hm, he]
  · unfold muV0; rw [hb, hD, hm]
    by_cases h : spB x y = true
    · rw [if_pos h, if_pos h]; unfold spV; rw [hc]
      split
      · exact Or.inl ⟨rfl, rfl⟩
      · right
        rw [sgn_fneg x0 x1]
        split
        · exact (fneg_sgn x y _ (Or.inr rfl)).symm
        · rename_i h1 h2
          exfalso
          unfold spB at h; simp only [Bool.or_eq_true, decide_eq_true_eq] at h; omega
    · rw [if_neg h, if_neg h]
      right
      by_cases hz : (prD x y).m = 0
      · rw [if_pos hz, if_pos hz, sgn_fneg x0 x1]
        have := fneg_sgn x y 0 (Or.inl rfl)
        rw [Int.zero_add, Int.zero_add] at this
        exact this.symm
      · rw [if_neg hz, if_neg hz]
        have : opp (prD x y) = ⟨!(prD x y).neg, (prD x y).m, (prD x y).e⟩ := by unfold opp; rw [decide_eq_true hz, Bool.and_true]
        rw [this, numR_turned]
theorem valD_one : valD 4607182418800017408 = ⟨false, 1, 0⟩ := by kernel_rfl
theorem times_one {d : D} (h : d.Nf) : times d ⟨false, 1, 0⟩ = d := by
  have h1 : 0 ≤ d.e + (((-d.e).toNat : Nat) : Int) := by omega
  generalize (-d.e).toNat = T at *
  refine (times_of (T := T) (U := 0) h h1 (by decide) (by simpa using h1) ?_).symm
  have : (⟨false, 1, 0⟩ : D).vl 0 = 1 := by decide
  rw [this, Int.mul_one]; rfl
theorem prD_one (x : Int) : prD x 4607182418800017408 = valD x := by unfold prD; rw [valD_one, times_one (valD_nf x)]
theorem sgn_one {x : Int} (h : fabs x = 0) (x0 : 0 ≤ x) (x1 : x ≤ 18446744073709551615) : sgn x 4607182418800017408 = x := by
  have : fng 4607182418800017408 = false := by decide
  unfold sgn; rw [this]; unfold fng fabs at *
  simp only [decide_eq_false_iff_not]; split <;> omega
theorem inf_one {x : Int} (h : fabs x = 9218868437227405312) (x0 : 0 ≤ x) (x1 : x ≤ 18446744073709551615) : 9218868437227405312 + sgn x 4607182418800017408 = x := by
  have : fng 4607182418800017408 = false := by decide
  unfold sgn; rw [this]; unfold fng fabs at *
  simp only [decide_eq_false_iff_not]; split <;> omega
theorem valD_m0 {x : Int} (x0 : 0 ≤ x) (x1 : x ≤ 18446744073709551615) (hx : fabs x < 9218868437227405312) (h : (valD x).m = 0) : fabs x = 0 := by
  have := valD_sm x0 x1 hx
  rw [vl_zero h] at this
  have e : mag (fabs x).toNat = mag 0 := by
    rw [mag_zero]
    unfold smag at this; split at this <;> omega
  have := mag_inj e
  have := fabs_bd x
  omega
/-- times 1 -/
theorem mu_one {x : Int} (mode : Int) (x0 : 0 ≤ x) (x1 : x ≤ 18446744073709551615) : muC0 x 4607182418800017408 = false ∧ (fcls x = 5 ∨ muV0 x 4607182418800017408 mode = x) := by
  have h1 : fabs 4607182418800017408 < 9218868437227405312 := by decide
  by_cases hn : 9218868437227405312 < fabs x
  · exact ⟨(mu_nan mode (Or.inl hn)).2, Or.inl (fcls_5 hn)⟩
  · by_cases hi : fabs x = 9218868437227405312
    · rcases mu_inf (y := 4607182418800017408) mode hi (by omega) with ⟨h, -, -⟩ | ⟨-, a, b⟩
      · exact absurd h (by decide)
      · exact ⟨b, Or.inr (by rw [a, inf_one hi x0 x1])⟩
    · have hx : fabs x < 9218868437227405312 := by omega
      obtain ⟨a1, a2, a3, a4, a5⟩ := mu_fin hx h1 mode
      obtain ⟨v1, v2⟩ := valD_num x x0 x1 hx mode
      rw [prD_one] at a2 a3 a4
      refine ⟨by rw [a2, v1], Or.inr ?_⟩
      by_cases hz : (valD x).m = 0
      · have := valD_m0 x0 x1 hx hz
        unfold muV0
        rw [spB_fin hx h1, if_neg (by decide), prD_one, if_pos hz, sgn_one this x0 x1]
      · rw [a4 hz]
        rcases v2 with h | ⟨h, -⟩
        · exact h
        · exfalso; apply hz; rw [valD_z (x := x) (by rw [h]; decide)]; rfl
theorem spV_nan {x y : Int} (h : spB x y = true) : spV x y = 9221120237041090560 ∨ (spV x y = 9218868437227405312 + sgn x y ∧ spV x y ≠ 9221120237041090560) := by
  unfold spV; split
  · exact Or.inl rfl
  · rename_i h1
    have h2 : fcls x = 4 ∨ fcls y = 4 := by
      unfold spB at h; simp only [Bool.or_eq_true, decide_eq_true_eq] at h; omega
    rw [if_pos h2]
    right; refine ⟨rfl, ?_⟩
    unfold sgn; split <;> decide
/-- with 1: the sum -/
theorem fm_one {x z : Int} (mode : Int) (x0 : 0 ≤ x) (x1 : x ≤ 18446744073709551615) (z0 : 0 ≤ z) (z1 : z ≤ 18446744073709551615) :
    fmV0 x 4607182418800017408 z mode = allV [x, z] mode ∧ fmC0 x 4607182418800017408 z = allC [x, z] := by
  have h1 : fabs 4607182418800017408 < 9218868437227405312 := by decide
  have c1 : fcls 4607182418800017408 = 3 := by decide
  by_cases hzn : 9218868437227405312 < fabs z
  · obtain ⟨a, b⟩ := two_nan (x := x) mode (Or.inr (Or.inl hzn))
    rw [a, b]; unfold fmV0 fmC0
    rw [if_pos (Or.inl (fcls_5 hzn)), if_pos (Or.inl (fcls_5 hzn))]; exact ⟨rfl, rfl⟩
  have z5 : fcls z ≠ 5 := by
    by_cases e : fabs z = 9218868437227405312
    · rw [fcls_4 e]; decide
    · exact (fcls_fin (by omega)).1
  by_cases hn : 9218868437227405312 < fabs x
  · obtain ⟨a, b⟩ := two_nan (x := x) (z := z) mode (Or.inl hn)
    have c5 := fcls_5 hn
    have hb : spB x 4607182418800017408 = true := by unfold spB; rw [decide_eq_true c5]; rfl
    have hv : spV x 4607182418800017408 = 9221120237041090560 := by unfold spV; rw [if_pos (Or.inl c5)]
    rw [a, b]; unfold fmV0 fmC0
    rw [if_pos (Or.inr ⟨hb, hv⟩), if_pos (Or.inr ⟨hb, hv⟩)]; exact ⟨rfl, rfl⟩
  by_cases hi : fabs x = 9218868437227405312
  · have c4 := fcls_4 hi
    have hb : spB x 4607182418800017408 = true := by unfold spB; rw [decide_eq_true c4]; simp
    have hv : spV x 4607182418800017408 = x := by
      unfold spV; rw [if_neg (by omega), if_pos (Or.inl c4), inf_one hi x0 x1]
    have hne : ¬ (fcls z = 5 ∨ (spB x 4607182418800017408 = true ∧ spV x 4607182418800017408 = 9221120237041090560)) := by
      rintro (h | ⟨-, h⟩)
      · exact z5 h
      · rw [hv] at h; rw [h] at hi; revert hi; decide
    unfold fmV0 fmC0
    rw [if_neg hne, if_neg hne, if_pos hb, if_pos hb, hv]; exact ⟨rfl, rfl⟩
  have hx : fabs x < 9218868437227405312 := by omega
  have hb : spB x 4607182418800017408 = false := spB_fin hx h1
  have hne : ¬ (fcls z = 5 ∨ (spB x 4607182418800017408 = true ∧ spV x 4607182418800017408 = 9221120237041090560)) := by
    rintro (h | ⟨h, -⟩)
    · exact z5 h
    · rw [hb] at h; cases h
  unfold fmV0 fmC0
  rw [if_neg hne, if_neg hne, hb]
  simp only [Bool.false_eq_true, if_false]
  by_cases zi : fabs z = 9218868437227405312
  · obtain ⟨a, b⟩ := two_inf' (x := x) (z := z) mode hx zi
    rw [if_pos (fcls_4 zi), if_pos (fcls_4 zi), a, b]; exact ⟨rfl, rfl⟩
  have hz : fabs z < 9218868437227405312 := by omega
  rw [if_neg (fcls_fin hz).2, if_neg (fcls_fin hz).2]
  have hS : fsD x 4607182418800017408 z = sumD [x, z] := by unfold fsD; rw [prD_one, sumD_two]
  obtain ⟨a1, a2, a3, a4, a5⟩ := allV_fin [x, z] (by simp [hx, hz]) mode
  rw [hS, prD_one]
  by_cases hm : (sumD [x, z]).m ≠ 0
  · rw [if_pos hm, if_pos hm, a4 hm, a3]; exact ⟨rfl, rfl⟩
  · rw [if_neg hm, if_neg hm]
    by_cases hv : (valD x).m = 0
    · rw [if_pos hv, if_pos hv, sgn_one (valD_m0 x0 x1 hx hv) x0 x1]; exact ⟨rfl, rfl⟩
    · rw [if_neg hv, if_neg hv]
      have hc0 : numC (sumD [x, z]) = false := by unfold numC chg; simp at hm; simp [hm]
      refine ⟨?_, by rw [a3, hc0]⟩
      have hx1 : fcls x ≠ 1 := fun h => hv (by rw [valD_z h]; rfl)
      have e1 : stp st0 x = ⟨0, false, false, 0, 0, plus nz (valD x)⟩ := by
        rw [kst_fin _ (fcls_fin hx).1 (fcls_fin hx).2 hx1]; rfl
      obtain ⟨s1, s2, s3, s4⟩ := step_fin (x := z) ⟨0, false, false, 0, 0, plus nz (valD x)⟩ (plus_Nf _ _) hz
      have hL : stL [x, z] = stp ⟨0, false, false, 0, 0, plus nz (valD x)⟩ z := by rw [stL_two, e1]
      have hps : (stL [x, z]).ps ≤ 1 ∧ (stL [x, z]).ng ≤ 1 := by
        rw [hL]; unfold stp; split; · simp
        split; · simp
        split
        · split <;> simp
        · simp
      have hs : (stL [x, z]).s = sumD [x, z] := by rw [hL, s4]; rfl
      have hl2 : [x, z].length = 2 := rfl
      rw [(allV_of (l := [x, z]) mode (by rw [hL, s1]) (by rw [hL, s2]) (by rw [hL, s3])).1, hs, if_neg hm, hl2, if_neg (show ¬ (stL [x, z]).ps = 2 by omega), if_neg (show ¬ (stL [x, z]).ng = 2 by omega)]
/-- with nothing added: the product -/
theorem fm_zero {x y : Int} (mode : Int) (x0 : 0 ≤ x) (x1 : x ≤ 18446744073709551615) (y0 : 0 ≤ y) (y1 : y ≤ 18446744073709551615) :
    (fmV0 x y 0 mode = muV0 x y mode ∨ (fcls (fmV0 x y 0 mode) = 1 ∧ fcls (muV0 x y mode) = 1)) ∧ fmC0 x y 0 = muC0 x y := by
  have z5 : fcls 0 = 1 := by decide
  by_cases h : spB x y = true
  · unfold muV0 muC0
    rw [if_pos h, if_pos h]
    rcases spV_nan h with hv | ⟨hv, hne⟩
    · unfold fmV0 fmC0
      rw [if_pos (Or.inr ⟨h, hv⟩), if_pos (Or.inr ⟨h, hv⟩), hv]; exact ⟨Or.inl rfl, rfl⟩
    · have hn : ¬ (fcls 0 = 5 ∨ (spB x y = true ∧ spV x y = 9221120237041090560)) := fun k => by
        rcases k with k | ⟨-, k⟩
        · omega
        · exact hne k
      unfold fmV0 fmC0
      rw [if_neg hn, if_neg hn, if_pos h, if_pos h]
      have hi : fabs (spV x y) = 9218868437227405312 := by rw [hv]; unfold sgn; split <;> decide
      obtain ⟨a, b⟩ := two_inf (z := 0) mode hi (Or.inl (by decide))
      rw [a, b]; exact ⟨Or.inl rfl, rfl⟩
  · have hn : ¬ (fcls 0 = 5 ∨ (spB x y = true ∧ spV x y = 9221120237041090560)) := fun k => by
      rcases k with k | ⟨k, -⟩
      · omega
      · exact h k
    have hD : fsD x y 0 = prD x y := by unfold fsD; rw [valD_z (x := 0) (by decide), plus_nz_right (prD_nf x y)]
    unfold fmV0 fmC0 muV0 muC0
    have c04 : ¬ fcls 0 = 4 := by decide
    rw [if_neg hn, if_neg hn, if_neg h, if_neg h, if_neg h, if_neg h, if_neg c04, if_neg c04, hD]
    by_cases hz : (prD x y).m = 0
    · rw [if_neg (not_not_intro hz), if_neg (not_not_intro hz), if_pos hz, if_pos hz, if_pos hz, if_pos hz]
      have k1 := sgn_abs x y
      obtain ⟨a1, a2, a3, a4, a5⟩ := allV_fin [sgn x y, 0] (by simp [k1]; decide) mode
      have e : sumD [sgn x y, 0] = nz := by
        rw [sumD_two, valD_z (x := 0) (by decide), valD_z (fcls_1 k1)]; rfl
      rw [e] at a3 a5
      exact ⟨Or.inr ⟨fcls_1 (a5 rfl), fcls_1 k1⟩, a3⟩
    · rw [if_pos hz, if_pos hz, if_neg hz, if_neg hz]; exact ⟨Or.inl rfl, rfl⟩

theorem numk_near01 (k m : Nat) (e : Int) : numk 0 m e ≤ numk k m e ∧ numk k m e ≤ numk 0 m e + 1 := by
  obtain ⟨h1, h2⟩ := @numk_sides m e k
  cases hc : chg m e
  · have ht : (0 : Int) ≤ e + 1074 + ((-(e + 1074)).toNat : Nat) := by omega
    obtain ⟨a1, a2⟩ := chg_exact ht 0 hc
    have := numk_exact ht k _ a1 a2
    omega
  · have := h1 hc; omega
/-- the exponent of the last place -/
def ulE (x : Int) : Int := max (fexp x) 1 - 1075
theorem chg_of2 {d : D} (t : Nat) (he : 0 ≤ d.e + ((1074 + t : Nat) : Int)) {r : Nat} (hr : r < MR) (h : (d.vl (1074 + t)).natAbs = mag r * 2 ^ t) : numC d = false := by
  unfold numC
  have ht : 0 ≤ d.e + 1074 + (t : Int) := by omega
  rw [chg_iff ht]
  exact ⟨r, hr, by rw [tt_vl, h]⟩
theorem mag_q {x : Int} (x0 : 0 ≤ x) (x1 : x ≤ 18446744073709551615) (hx : fabs x < 9218868437227405312) : ∃ q j : Nat, q < 9007199254740992 ∧ mag (fabs x).toNat = q * 2 ^ j ∧ (j : Int) = ulE x + 1074 := by
  obtain ⟨q, hq, h⟩ := mag_parts (fabs x).toNat
  refine ⟨q, _, hq, h, ?_⟩
  have := fabs_bd x
  unfold ulE fexp
  unfold fabs at *
  omega
theorem jj_le {b : Nat} {e : Int} {t K X jn : Nat} (hX : X ≤ 106 + K) (ht : 0 ≤ e + 1074 + t) (h4 : b - 1 + (e + 1074 + t).toNat < X + t) (b2 : 0 < b) (hj : (jn : Int) = max (b + e - 53) (-1074) + 1074) : jn ≤ K + 53 := by omega
/-- what is left between a multiple of 2^K and what it is rounded to -/
theorem rest_rep {m : Nat} {e : Int} {t N K k X : Nat} (hX : X ≤ 106 + K) (ht : 0 ≤ e + 1074 + t) (hm : m ≠ 0) (hN : tt t m e = N * 2 ^ t) {q : Nat} (hq : N = q * 2 ^ K) (hlt : N < 2 ^ X) (hk : numk k m e + 1 < MR) :
    ∃ r, r < MR ∧ mag r = ((N : Int) - (mag (numk k m e) : Nat)).natAbs := by
  have hw := Nat.two_pow_pos t
  have f1 := floor_le hm ht
  have f2 := lt_succ hm ht
  rw [hN] at f1 f2
  have f1 := Nat.le_of_mul_le_mul_right f1 hw
  have f2 := Nat.lt_of_mul_lt_mul_right f2
  obtain ⟨s1, s2⟩ := numk_near01 k m e
  have e0 : numk 0 m e = r0 m e := by
    have h1 : r1 0 m e = r0 m e := by unfold r1 upk; simp
    have h2 : numk 0 m e = if MR ≤ r0 m e then MR - 1 else r0 m e := by unfold numk; rw [if_neg hm, h1, if_pos rfl]
    rw [h2] at s1 ⊢
    split
    · rename_i h; rw [if_pos h] at s1; omega
    · rfl
  rw [e0] at s1 s2
  have g0 := mag_r0 hm e
  have g1 := mag_r1 hm e
  have hj := jj_eq m e
  have hjK : jj m e ≤ K + 53 := by
    have b1 := bl_le hm
    have b2 := bl_pos hm
    have : 2 ^ (bl m - 1 + (e + 1074 + t).toNat) ≤ m * 2 ^ (e + 1074 + t).toNat := by rw [Nat.pow_add]; exact Nat.mul_le_mul_right _ b1
    have h3 : m * 2 ^ (e + 1074 + t).toNat < 2 ^ (X + t) := by
      have : m * 2 ^ (e + 1074 + t).toNat = N * 2 ^ t := hN
      rw [this, Nat.pow_add]; exact Nat.mul_lt_mul_of_pos_right hlt hw
    have h4 := (Nat.pow_lt_pow_iff_right (by decide : 1 < 2)).1 (Nat.lt_of_le_of_lt this h3)
    unfold kk at hj; exact jj_le hX ht h4 b2 hj
  clear hlt hN ht
  obtain ⟨b, hb, en⟩ : ∃ b, b ≤ 1 ∧ numk k m e = r0 m e + b := ⟨numk k m e - r0 m e, by omega, by omega⟩
  have emag : mag (numk k m e) = (qq m e + b) * 2 ^ jj m e := by
    rw [en]
    have hb' : b = 0 ∨ b = 1 := by omega
    rcases hb' with h | h
    · rw [h, Nat.add_zero, Nat.add_zero]; exact g0
    · rw [h]; exact g1
  have hjp := Nat.two_pow_pos (jj m e)
  have hdiff : ((N : Int) - (mag (numk k m e) : Nat)).natAbs ≤ 2 ^ jj m e := by
    have e1 : mag (r0 m e + 1) = mag (r0 m e) + 2 ^ jj m e := by rw [g0, g1, Nat.add_mul, Nat.one_mul]
    have e2 : mag (numk k m e) = mag (r0 m e) + b * 2 ^ jj m e := by rw [emag, g0, Nat.add_mul]
    have hb' : b = 0 ∨ b = 1 := by omega
    rcases hb' with rfl | rfl <;> omega
  -- both are multiples of 2^g
  obtain ⟨g, hg, hgK, hgj⟩ : ∃ g, g = min K (jj m e) ∧ g ≤ K ∧ g ≤ jj m e := ⟨_, rfl, by omega, by omega⟩
  have hgp := Nat.two_pow_pos g
  obtain ⟨A, hA⟩ : ∃ A, N = A * 2 ^ g := ⟨q * 2 ^ (K - g), by rw [hq, Nat.mul_assoc, ← Nat.pow_add]; congr 2; omega⟩
  obtain ⟨C, hC⟩ : ∃ C, mag (numk k m e) = C * 2 ^ g := ⟨(qq m e + b) * 2 ^ (jj m e - g), by rw [emag, Nat.mul_assoc, ← Nat.pow_add]; congr 2; omega⟩
  have hdv : ((N : Int) - (mag (numk k m e) : Nat)).natAbs = ((A : Int) - C).natAbs * 2 ^ g := by
    rw [hA, hC]
    have : (((A * 2 ^ g : Nat) : Int) - ((C * 2 ^ g : Nat) : Int)) = ((A : Int) - C) * (2 ^ g : Nat) := by rw [Int.sub_mul]; simp
    rw [this, Int.natAbs_mul, Int.natAbs_natCast]
  have hD : ((A : Int) - C).natAbs ≤ 9007199254740992 := by
    rw [hdv] at hdiff
    have : 2 ^ jj m e ≤ 9007199254740992 * 2 ^ g := by
      rw [show (9007199254740992 : Nat) = 2 ^ 53 by decide, ← Nat.pow_add]
      exact Nat.pow_le_pow_right (by decide) (by omega)
    exact Nat.le_of_mul_le_mul_right (Nat.le_trans hdiff this) hgp
  obtain ⟨r, hr⟩ := mag_rep g _ hD
  refine ⟨r, ?_, by rw [hr, hdv]⟩
  have : mag r ≤ mag (r0 m e + 1) := by
    rw [hr, ← hdv, g1, Nat.add_mul, Nat.one_mul]; omega
  have := mag_le_iff.1 this
  omega
end Go.Proofs.YtmpdbmaokbhcjaaGreatDoor

/-
  PLAIN: what is left of a product is a number; a product by a power of two. No Go function here.
-/
namespace Go.Proofs.YtmpdbmaokbhcjaaGreatDoor
open Go.RowKit Nt Fm Fl

theorem muV0_bd (x y mode : Int) : 0 ≤ muV0 x y mode ∧ muV0 x y mode ≤ 18446744073709551615 := by
  have a := sgn_bd x y
  have b := spV_bd x y
  have c := numR_bd (prD x y) mode
  unfold muV0; split
  · omega
  · split <;> omega
theorem smag_abs (x : Int) : (smag x).natAbs = mag (fabs x).toNat := by unfold smag; split <;> simp
theorem prD_vl' {x y : Int} (x0 : 0 ≤ x) (x1 : x ≤ 18446744073709551615) (y0 : 0 ≤ y) (y1 : y ≤ 18446744073709551615) (hx : fabs x < 9218868437227405312) (hy : fabs y < 9218868437227405312) (t : Nat) (ht : t = 1074) :
    (prD x y).vl (1074 + t) = smag x * smag y ∧ 0 ≤ (prD x y).e + ((1074 + t : Nat) : Int) := by
  subst ht; exact prD_vl x0 x1 y0 y1 hx hy
theorem fm_rest {x y : Int} (mode : Int) (x0 : 0 ≤ x) (x1 : x ≤ 18446744073709551615) (y0 : 0 ≤ y) (y1 : y ≤ 18446744073709551615) (hx : fabs x < 9218868437227405312) (hy : fabs y < 9218868437227405312)
    (hu : -1074 ≤ ulE x + ulE y) (hp : fabs (muV0 x y mode) < 9218868437227405311) : fmC0 x y (fneg (muV0 x y mode)) = false := by
  have hMR : MR = 9218868437227405312 := rfl
  obtain ⟨a1, a2, a3, a4, a5⟩ := mu_fin hx hy mode
  have pb := muV0_bd x y mode
  generalize muV0 x y mode = p at *
  have pf : fabs (fneg p) < 9218868437227405312 := by rw [fabs_fneg]; omega
  have hne : ¬ (fcls (fneg p) = 5 ∨ (spB x y = true ∧ spV x y = 9221120237041090560)) := by
    rintro (h | ⟨h, -⟩)
    · exact (fcls_fin pf).1 h
    · rw [spB_fin hx hy] at h; cases h
  unfold fmC0
  rw [if_neg hne, spB_fin hx hy, if_neg (by decide), if_neg (fcls_fin pf).2]
  have zz : ∀ a b : Int, fabs a = 0 → fabs b = 0 → allC [a, b] = false := by
    intro a b ha hb
    obtain ⟨-, -, c3, -, -⟩ := allV_fin [a, b] (by simp [ha, hb]) 0
    rw [c3, sumD_two, valD_z (fcls_1 ha), valD_z (fcls_1 hb)]; decide
  by_cases hz : (prD x y).m = 0
  · have h0 : fabs (fneg p) = 0 := by rw [fabs_fneg]; exact a3 hz
    have : fsD x y (fneg p) = nz := by unfold fsD; rw [nf_z (prD_nf x y) hz, valD_z (fcls_1 h0)]; rfl
    rw [this, if_neg (by decide), if_pos hz]
    exact zz _ _ (sgn_abs x y) h0
  · by_cases hS : (fsD x y (fneg p)).m ≠ 0
    · rw [if_pos hS]
      have hnp := a4 hz
      obtain ⟨f1, f2⟩ := fng_numR (prD x y) mode
      rw [← hnp] at f1 f2
      obtain ⟨t, ht⟩ : ∃ t : Nat, t = 1074 := ⟨_, rfl⟩
      obtain ⟨v, ve⟩ := prD_vl' x0 x1 y0 y1 hx hy t ht
      obtain ⟨qx, jx, hqx, mx, ejx⟩ := mag_q x0 x1 hx
      obtain ⟨qy, jy, hqy, my, ejy⟩ := mag_q y0 y1 hy
      obtain ⟨K, hK⟩ : ∃ K, K + t = jx + jy := ⟨jx + jy - t, by omega⟩
      have hN : tt t (prD x y).m (prD x y).e = (qx * qy * 2 ^ K) * 2 ^ t := by
        rw [tt_vl (prD x y) t, v, Int.natAbs_mul, smag_abs, smag_abs, mx, my, Nat.mul_assoc (qx * qy), ← Nat.pow_add, hK, Nat.pow_add, Nat.mul_mul_mul_comm]
      have hlt : qx * qy * 2 ^ K < 2 ^ (106 + K) := by
        rw [Nat.pow_add]
        refine Nat.mul_lt_mul_of_pos_right ?_ (Nat.two_pow_pos _)
        calc qx * qy < 9007199254740992 * 9007199254740992 := Nat.mul_lt_mul'' hqx hqy
          _ = 2 ^ 106 := by decide
      have hb := fabs_bd p
      obtain ⟨r, hr, er⟩ := rest_rep (k := kd (prD x y).neg mode) (t := t) (X := 106 + K) (Nat.le_refl _) (by omega) hz hN rfl hlt (by rw [← f1]; omega)
      rw [← f1] at er
      have e2 : 0 ≤ (valD p).e + ((1074 + t : Nat) : Int) := by have := (valD_facts p pb.1 pb.2).2.2.1; omega
      have e3 : 0 ≤ (opp (valD p)).e + ((1074 + t : Nat) : Int) := e2
      have hfs : fsD x y (fneg p) = plus (prD x y) (opp (valD p)) := by unfold fsD; rw [valD_fneg pb.1 pb.2]
      refine chg_of2 t (by rw [hfs]; exact plus_eT ve e3) hr ?_
      rw [hfs, plus_vl _ _ _ ve e3, opp_vl, valD_vl p pb.1 pb.2 (by omega), f2, ← sg_vl (prD x y) t]
      unfold sg
      rw [hN, er]
      have hw := Nat.two_pow_pos t
      generalize 2 ^ t = Z at *
      generalize qx * qy * 2 ^ K = N at *
      generalize mag (fabs p).toNat = M at *
      have e5 : ((N * Z : Nat) : Int) - ((M * Z : Nat) : Int) = ((N : Int) - M) * (Z : Int) := by rw [Int.sub_mul]; simp
      cases (prD x y).neg
      · simp only [Bool.false_eq_true, if_false]
        rw [← Int.sub_eq_add_neg, e5, Int.natAbs_mul, Int.natAbs_natCast]
      · simp only [if_true]
        rw [show -((N * Z : Nat) : Int) + - -((M * Z : Nat) : Int) = -(((N * Z : Nat) : Int) - ((M * Z : Nat) : Int)) by omega, e5, Int.natAbs_neg, Int.natAbs_mul, Int.natAbs_natCast]
    · rw [if_neg hS, if_neg hz]

theorem fmk_facts {s : Bool} {e f : Int} (e0 : 0 ≤ e) (e1 : e ≤ 2047) (f0 : 0 ≤ f) (f1 : f ≤ 4503599627370495) :
    fabs (fmk s e f) = e * 4503599627370496 + f ∧ fng (fmk s e f) = s ∧ 0 ≤ fmk s e f ∧ fmk s e f ≤ 18446744073709551615 := by
  unfold fmk fabs fng
  cases s <;> simp <;> omega
theorem mag_fmk {s : Bool} {e f : Int} (e0 : 1 ≤ e) (e1 : e ≤ 2046) (f0 : 0 ≤ f) (f1 : f ≤ 4503599627370495) :
    mag (fabs (fmk s e f)).toNat = (f.toNat + 4503599627370496) * 2 ^ (e - 1).toNat := by
  rw [(fmk_facts (by omega) (by omega) f0 f1).1, ← mag_of (f.toNat + 4503599627370496) (e - 1).toNat (by omega) (by omega)]
  congr 1; omega
theorem fmk_self {x : Int} (x0 : 0 ≤ x) (x1 : x ≤ 18446744073709551615) : fmk (fng x) (fexp x) (ffr x) = x := by
  unfold fmk fng fexp ffr; simp only [decide_eq_true_eq]; split <;> omega
/-- times a power of two -/
theorem mu_power {x k : Int} (mode : Int) (x0 : 0 ≤ x) (x1 : x ≤ 18446744073709551615) (h1 : 1 ≤ fexp x) (h2 : fexp x ≤ 2046) (k0 : -1022 ≤ k) (k1 : k ≤ 1023) (h3 : 1 ≤ fexp x + k) (h4 : fexp x + k ≤ 2046) :
    muV0 x (fmk false (1023 + k) 0) mode = fmk (fng x) (fexp x + k) (ffr x) ∧ muC0 x (fmk false (1023 + k) 0) = false := by
  have hf := ffr_bd x
  have hself := fmk_self x0 x1
  obtain ⟨e, he⟩ : ∃ e, e = fexp x := ⟨_, rfl⟩
  obtain ⟨f, hff⟩ : ∃ f, f = ffr x := ⟨_, rfl⟩
  obtain ⟨s, hs⟩ : ∃ s, s = fng x := ⟨_, rfl⟩
  rw [← he, ← hff, ← hs] at hself
  rw [← he] at h1 h2 h3 h4
  rw [← hff] at hf
  rw [← he, ← hff, ← hs]
  obtain ⟨p1, p2, p3, p4⟩ := @fmk_facts false (1023 + k) 0 (by omega) (by omega) (by omega) (by omega)
  obtain ⟨w1, w2, w3, w4⟩ := @fmk_facts s (e + k) f (by omega) (by omega) hf.1 hf.2
  have m1 := @mag_fmk s e f h1 h2 hf.1 hf.2
  have m2 := @mag_fmk false (1023 + k) 0 (by omega) (by omega) (by omega) (by omega)
  have m3 := @mag_fmk s (e + k) f h3 h4 hf.1 hf.2
  rw [hself] at m1
  have hx : fabs x < 9218868437227405312 := by
    have : fabs x = e * 4503599627370496 + f := by rw [← hself]; exact (fmk_facts (by omega) (by omega) hf.1 hf.2).1
    omega
  have hp : fabs (fmk false (1023 + k) 0) < 9218868437227405312 := by omega
  have hw : fabs (fmk s (e + k) f) < 9218868437227405312 := by omega
  obtain ⟨t, ht⟩ : ∃ t : Nat, t = 1074 := ⟨_, rfl⟩
  obtain ⟨v, ve⟩ := prD_vl' x0 x1 p3 p4 hx hp t ht
  have hD : prD x (fmk false (1023 + k) 0) = valD (fmk s (e + k) f) := by
    have e2 := (valD_facts _ w3 w4).2.2.1
    refine nf_inj (prD_nf _ _) (valD_nf _) ve (T := 1074 + t) (by omega) ?_
    rw [v, valD_vl _ w3 w4 hw, w2, m3]
    unfold smag
    rw [m1, m2, p2, ← hs]
    have e5 : ((f.toNat + 4503599627370496) * 2 ^ (e - 1).toNat) * ((Int.toNat 0 + 4503599627370496) * 2 ^ (1023 + k - 1).toNat) = (f.toNat + 4503599627370496) * 2 ^ (e + k - 1).toNat * 2 ^ t := by
      rw [show Int.toNat 0 + 4503599627370496 = 2 ^ 52 by decide, ← Nat.pow_add, Nat.mul_assoc, Nat.mul_assoc, ← Nat.pow_add, ← Nat.pow_add]
      congr 2; omega
    rw [← e5]
    cases s <;> simp [Int.neg_mul]
  obtain ⟨a1, a2, a3, a4, a5⟩ := mu_fin hx hp mode
  obtain ⟨n1, n2⟩ := valD_num _ w3 w4 hw mode
  rw [hD] at a2 a3 a4
  refine ⟨?_, by rw [a2, n1]⟩
  have hm : (valD (fmk s (e + k) f)).m ≠ 0 := by
    intro h
    have := valD_m0 w3 w4 hw h
    omega
  rw [a4 hm]
  rcases n2 with h | ⟨h, -⟩
  · exact h
  · exfalso; rw [h] at w1
    have : fabs 9223372036854775808 = 0 := by decide
    omega
end Go.Proofs.YtmpdbmaokbhcjaaGreatDoor

/-
  THE WALK of sum.All.
-/
namespace Go.Proofs.YtmpdbmaokbhcjaaGreatDoor
open Go.RowKit Nt Fm Fl

/-- what sum.All tells -/
def slE (n : Nat) (mode : Int) : Int := if knownB mode = true then (if 200 < n then 2 else 0) else 1
def salV (l : List Int) (mode : Int) : Int := if slE l.length mode = 0 then allV l mode else 0
def slC (l : List Int) (mode : Int) : Bool := if slE l.length mode = 0 then allC l else false
set_option maxHeartbeats 2000000 in
theorem sall_any (v : Value) (l : List Int) (mode : Int) (w : World) (hT : Tab w) (hv : LU w v l) :
    Calls Tryz.prog 182 #[v, .int .i64 mode] w fun e w' => e = .returned (.tuple #[.int .u64 (salV l mode), .bool (slC l mode), .int .i64 (slE l.length mode)]) ∧ Below w.heap.size w w' := by
  have hv' := hv
  obtain ⟨-, ao, cap, rfl, hcap, hmx, -⟩ := hv
  unfold maxLen at hmx
  cases hk : knownB mode
  · have e3 : slE l.length mode = 1 := by unfold slE; rw [hk]; rfl
    have e1 : salV l mode = 0 := by unfold salV; rw [e3]; rfl
    have e2 : slC l mode = false := by unfold slC; rw [e3]; rfl
    rw [e1, e2, e3]; clear e1 e2 e3 hT hv'
    go_enter Tryz.func182, Tryz.ntmps182
    go_wp2_with (go_at_call 53; refine (known_any _ _).mono ?_; rintro e w' ⟨rfl, rfl⟩)
    go_ret3
    exact ⟨rfl, Below.refl _ _⟩
  · have hm : 0 ≤ mode ∧ mode ≤ 4 := by unfold knownB at hk; simpa using hk
    by_cases hlen : 200 < l.length
    · have e3 : slE l.length mode = 2 := by unfold slE; rw [hk, if_pos rfl, if_pos hlen]
      have e1 : salV l mode = 0 := by unfold salV; rw [e3]; rfl
      have e2 : slC l mode = false := by unfold slC; rw [e3]; rfl
      rw [e1, e2, e3]; clear e1 e2 e3 hT hv' hm
      have HK : Hid (knownB mode = true) := Lib.hid hk
      have hl2 : (200 : Int) < (l.length : Int) := by omega
      go_enter Tryz.func182, Tryz.ntmps182
      go_wp2_with (go_at_call 53; refine (known_any _ _).mono ?_; rintro e w' ⟨rfl, rfl⟩)
      go_ret3
      exact ⟨rfl, Below.refl _ _⟩
    · have e3 : slE l.length mode = 0 := by unfold slE; rw [hk, if_pos rfl, if_neg hlen]
      have e1 : salV l mode = allV l mode := by unfold salV; rw [e3]; rfl
      have e2 : slC l mode = allC l := by unfold slC; rw [e3]; rfl
      rw [e1, e2, e3]; clear e1 e2 e3
      have hall := fun w' h0 h1 => all_any (.slice ao l.length cap) l mode w' h0 h1 (by omega) hm.1 hm.2
      generalize allV l mode = V at *
      generalize allC l = C at *
      have HALL := Lib.hid hall
      have HLU := Lib.hid hv'
      have HT := Lib.hid hT
      have HK : Hid (knownB mode = true) := Lib.hid hk
      have hl2 : (l.length : Int) ≤ 200 := by omega
      clear hT hall hm hv'
      go_enter Tryz.func182, Tryz.ntmps182
      go_wp2_with (go_at_call 53; refine (known_any _ _).mono ?_; rintro e w' ⟨rfl, rfl⟩)
      refine (HALL.out _ HT.out HLU.out).mono ?_
      rintro r w1 ⟨rfl, hb⟩
      have B1 := Lib.hid hb
      clear hb
      go_wp2
      go_ret3
      exact ⟨rfl, B1.out⟩
end Go.Proofs.YtmpdbmaokbhcjaaGreatDoor

/-
  THE WALKS of prod.Sign, special, exact, Mul.
-/
namespace Go.Proofs.YtmpdbmaokbhcjaaGreatDoor
open Go.RowKit Nt Fm Fl

theorem ret_bool {a b : Bool} (h : a = b) : Ending.returned (.bool a) = .returned (.bool b) := by rw [h]
theorem and_top {a b : Nat} (ha : a < 2 ^ 64) (hb : b < 2 ^ 64) : (a ^^^ b) &&& 9223372036854775808 = if (9223372036854775808 ≤ a ↔ 9223372036854775808 ≤ b) then 0 else 9223372036854775808 := by
  have t : ∀ n : Nat, n < 2 ^ 64 → n.testBit 63 = decide (9223372036854775808 ≤ n) := by
    intro n hn
    rw [Nat.testBit_eq_decide_div_mod_eq]
    by_cases h : 9223372036854775808 ≤ n
    · rw [decide_eq_true h, decide_eq_true]; omega
    · rw [decide_eq_false h, decide_eq_false]; omega
  have e : (a ^^^ b) &&& 9223372036854775808 = if (a ^^^ b).testBit 63 then 9223372036854775808 else 0 := by
    apply Nat.eq_of_testBit_eq; intro i
    rw [Nat.testBit_and, show (9223372036854775808 : Nat) = 2 ^ 63 by decide, Nat.testBit_two_pow]
    by_cases hi : 63 = i
    · subst hi; cases h : (a ^^^ b).testBit 63
      · simp
      · rw [if_pos rfl, Nat.testBit_two_pow]; simp
    · cases h : (a ^^^ b).testBit 63
      · simp [hi]
      · rw [if_pos rfl, Nat.testBit_two_pow]; simp [hi]
  rw [e, Nat.testBit_xor, t a ha, t b hb]
  by_cases h1 : 9223372036854775808 ≤ a <;> by_cases h2 : 9223372036854775808 ≤ b <;> simp [h1, h2]
theorem and_sgn {x y : Int} (x0 : 0 ≤ x) (x1 : x ≤ 18446744073709551615) (y0 : 0 ≤ y) (y1 : y ≤ 18446744073709551615) : bits .and .u64 (bits .xor .u64 x y) 9223372036854775808 = sgn x y := by
  obtain ⟨a, rfl⟩ := Int.eq_ofNat_of_zero_le x0
  obtain ⟨b, rfl⟩ := Int.eq_ofNat_of_zero_le y0
  have ha : a < 2 ^ 64 := by omega
  have hb : b < 2 ^ 64 := by omega
  rw [u64_xor_nat a b (by omega) (by omega)]
  have hx : a ^^^ b < 2 ^ 64 := Nat.xor_lt_two_pow ha hb
  have h := u64_and_nat (a ^^^ b) 9223372036854775808 (by omega) (by decide)
  rw [show ((9223372036854775808 : Nat) : Int) = 9223372036854775808 from rfl] at h
  rw [h, and_top ha hb]
  unfold sgn fng
  by_cases h1 : 9223372036854775808 ≤ a <;> by_cases h2 : 9223372036854775808 ≤ b
  · rw [if_pos (by omega), if_pos (by rw [decide_eq_true (by omega), decide_eq_true (by omega)])]; rfl
  · rw [if_neg (by omega), if_neg (by rw [decide_eq_true (by omega), decide_eq_false (by omega)]; decide)]; rfl
  · rw [if_neg (by omega), if_neg (by rw [decide_eq_false (by omega), decide_eq_true (by omega)]; decide)]; rfl
  · rw [if_pos (by omega), if_pos (by rw [decide_eq_false (by omega), decide_eq_false (by omega)])]; rfl
theorem psign_any (x y : Int) (x0 : 0 ≤ x) (x1 : x ≤ 18446744073709551615) (y0 : 0 ≤ y) (y1 : y ≤ 18446744073709551615) (w : World) :
    Calls Tryz.prog 103 #[.int .u64 x, .int .u64 y] w fun e w' => e = .returned (.int .u64 (sgn x y)) ∧ w = w' := by
  have e1 := and_sgn x0 x1 y0 y1
  go_enter Tryz.func103, Tryz.ntmps103
  go_wp2
  go_ret
  exact ⟨rfl, rfl⟩
def spVa (a b s : Int) : Int := if a = 5 ∨ b = 5 ∨ (a = 4 ∧ b = 1) ∨ (a = 1 ∧ b = 4) then 9221120237041090560 else if a = 4 ∨ b = 4 then 9218868437227405312 + s else 0
def spBa (a b : Int) : Bool := decide (a = 5) || (decide (b = 5) || (decide (a = 4) || decide (b = 4)))
theorem ret_ub {a b : Int} {c d : Bool} (h : a = b) (k : c = d) : Ending.returned (.tuple #[.int .u64 a, .bool c]) = .returned (.tuple #[.int .u64 b, .bool d]) := by rw [h, k]
theorem or_inf_sgn (x y : Int) : bits .or .u64 9218868437227405312 (sgn x y) = 9218868437227405312 + sgn x y := by
  unfold sgn; split <;> decide +kernel
set_option maxHeartbeats 4000000 in
theorem special_any (x y : Int) (x0 : 0 ≤ x) (x1 : x ≤ 18446744073709551615) (y0 : 0 ≤ y) (y1 : y ≤ 18446744073709551615) (w : World) :
    Calls Tryz.prog 101 #[.int .u64 x, .int .u64 y] w fun e w' => e = .returned (.tuple #[.int .u64 (spV x y), .bool (spB x y)]) ∧ w = w' := by
  have e1 : spV x y = spVa (fcls x) (fcls y) (sgn x y) := rfl
  have e2 : spB x y = spBa (fcls x) (fcls y) := rfl
  rw [e1, e2]
  have h3 := or_inf_sgn x y
  have CX := Lib.hid (fun w' => class_any x x0 x1 w')
  have CY := Lib.hid (fun w' => class_any y y0 y1 w')
  have SG := Lib.hid (fun w' => psign_any x y x0 x1 y0 y1 w')
  clear e1 e2
  generalize sgn x y = s at *
  generalize fcls x = a at *
  generalize fcls y = b at *
  go_enter Tryz.func101, Tryz.ntmps101
  go_wp2_with (first
    | (go_at_call 24; first | ((with_reducible refine (CX.out _).mono ?_); rintro e w' ⟨rfl, rfl⟩) | ((with_reducible refine (CY.out _).mono ?_); rintro e w' ⟨rfl, rfl⟩))
    | (go_at_call 103; (with_reducible refine (SG.out _).mono ?_); rintro e w' ⟨rfl, rfl⟩))
  all_goals
    go_ret2
    refine ⟨ret_ub ?_ ?_, rfl⟩
  all_goals (clear CX CY SG; try simp only [beq_iff_eq, beq_eq_false_iff_ne, ne_eq] at *)
  all_goals first
    | (unfold spVa; first | rw [if_pos (by omega)] | rw [if_neg (by omega), if_pos (by omega)] | rw [if_neg (by omega), if_neg (by omega)])
    | (unfold spBa; simp <;> omega)
set_option maxHeartbeats 4000000 in
theorem exactp_any (x y : Int) (x0 : 0 ≤ x) (x1 : x ≤ 18446744073709551615) (y0 : 0 ≤ y) (y1 : y ≤ 18446744073709551615) (w : World) (hT : Tab w) :
    Calls Tryz.prog 102 #[.int .u64 x, .int .u64 y] w (RetD w (prD x y)) := by
  obtain ⟨f1, f2, f3, f4, -⟩ := valD_facts x x0 x1
  obtain ⟨g1, g2, g3, g4, -⟩ := valD_facts y y0 y1
  have hx := fun w' h => value_any x x0 x1 w' h
  have hy := fun w' h => value_any y y0 y1 w' h
  have hp := fun v1 v2 w' h0 h1 h2 => dtimes_any v1 v2 (valD x) (valD y) 53 w' h0 h1 h2 f2 g2 (by omega) (by omega) (by omega) (by omega) (by omega)
  unfold prD
  generalize times (valD x) (valD y) = P at *
  generalize valD x = vx at *
  generalize valD y = vy at *
  have HX := Lib.hid hx
  have HY := Lib.hid hy
  have HP := Lib.hid hp
  have HT := Lib.hid hT
  clear hx hy hp hT f1 f2 f3 f4 g1 g2 g3 g4
  go_enter Tryz.func102, Tryz.ntmps102
  go_wp2_with fail
  refine (HX.out _ (HT.out.alloc _)).mono ?_
  rintro r w1 ⟨v1, rfl, ⟨s1, rfl, h1⟩, hb⟩
  obtain ⟨a1, n1, c1, rfl⟩ := h1.shape
  have B1 : Hid (Below w.heap.size w w1) := Lib.hid (bl_thru ((Below.refl w.heap.size w).alloc (Nat.le_refl _) _) (Nat.le_refl _) hb)
  have Z1 := Lib.hid ((Box.new w _ _ _ _).below hb)
  have V1 := Lib.hid h1
  clear h1 hb
  go_wp2_with fail
  refine (HY.out _ (HT.out.below B1.out)).mono ?_
  rintro r w2 ⟨v2, rfl, ⟨s2, rfl, h2⟩, hb⟩
  obtain ⟨a2, n2, c2, rfl⟩ := h2.shape
  have B2 : Hid (Below w.heap.size w w2) := Lib.hid (bl_thru B1.out (Nat.le_refl _) hb)
  have Z2 := Lib.hid (Z1.out.below hb)
  have V2 := Lib.hid h2
  have V1' := Lib.hid (V1.out.below hb)
  clear h2 hb
  go_wp2_with fail
  refine (HP.out _ _ _ (HT.out.below B2.out) ⟨_, rfl, V1'.out⟩ ⟨_, rfl, V2.out⟩).mono ?_
  rintro r w3 ⟨v3, rfl, ⟨s3, rfl, h3⟩, hb⟩
  obtain ⟨a3, n3, c3, rfl⟩ := h3.shape
  have B3 : Hid (Below w.heap.size w w3) := Lib.hid (bl_thru B2.out (Nat.le_refl _) hb)
  have Z3 := Lib.hid (Z2.out.below hb)
  have V3 := Lib.hid h3
  obtain ⟨s0, s1, s2, t0, t1, t2⟩ := Z3.out.cells
  clear h3 hb
  go_wp2
  refine bodyPost_ret (v := .agg #[.bool P.neg, .slice a3 n3 c3, .int .i64 P.e]) (by simp [results, Tryz.results102, go_sem, s0, s1, s2]) rfl ?_
  exact ⟨_, rfl, ⟨_, rfl, V3.out.setD Z3.out⟩, bl_set3 B3.out (Nat.le_refl _) _ _ _⟩
/-- how great a product is -/
theorem prD_bd (x y : Int) (x0 : 0 ≤ x) (x1 : x ≤ 18446744073709551615) (y0 : 0 ≤ y) (y1 : y ≤ 18446744073709551615) : (prD x y).m < 2 ^ 106 ∧ -3000 ≤ (prD x y).e ∧ (prD x y).e ≤ 3000 := by
  obtain ⟨f1, f2, f3, f4, -⟩ := valD_facts x x0 x1
  obtain ⟨g1, g2, g3, g4, -⟩ := valD_facts y y0 y1
  have h : prD x y = norm ((valD x).neg != (valD y).neg) ((valD x).m * (valD y).m) ((valD x).e + (valD y).e) := (times_norm _ _).symm
  have hlt : (valD x).m * (valD y).m < 2 ^ 106 := by
    rw [show (106 : Nat) = 53 + 53 from rfl, Nat.pow_add]; exact Nat.mul_lt_mul'' f2 g2
  obtain ⟨b1, b2⟩ := norm_bd ((valD x).neg != (valD y).neg) ((valD x).e + (valD y).e) hlt
  rw [h]
  refine ⟨by omega, ?_⟩
  rcases b2 with b2 | b2
  · rw [b2]; exact ⟨by decide, by decide⟩
  · omega
theorem muV_no {x y mode : Int} (hk : knownB mode = false) : muV x y mode = 0 ∧ muC x y mode = false ∧ adE mode = 1 := by unfold muV muC adE; rw [hk]; exact ⟨rfl, rfl, rfl⟩
theorem muV_yes {x y mode : Int} (hk : knownB mode = true) : muV x y mode = muV0 x y mode ∧ muC x y mode = muC0 x y ∧ adE mode = 0 := by unfold muV muC adE; rw [hk]; exact ⟨rfl, rfl, rfl⟩
set_option maxHeartbeats 4000000 in
theorem pmul_any (x y mode : Int) (x0 : 0 ≤ x) (x1 : x ≤ 18446744073709551615) (y0 : 0 ≤ y) (y1 : y ≤ 18446744073709551615) (w : World) (hT : Tab w) :
    Calls Tryz.prog 44 #[.int .u64 x, .int .u64 y, .int .i64 mode] w fun e w' => e = .returned (.tuple #[.int .u64 (muV x y mode), .bool (muC x y mode), .int .i64 (adE mode)]) ∧ Below w.heap.size w w' := by
  cases hk : knownB mode
  · obtain ⟨e1, e2, e3⟩ := @muV_no x y mode hk
    rw [e1, e2, e3]; clear e1 e2 e3 hT
    go_enter Tryz.func44, Tryz.ntmps44
    go_wp2_with (go_at_call 53; refine (known_any _ _).mono ?_; rintro e w' ⟨rfl, rfl⟩)
    go_ret3
    exact ⟨rfl, Below.refl _ _⟩
  · obtain ⟨e1, e2, e3⟩ := @muV_yes x y mode hk
    rw [e1, e2, e3]; clear e1 e2 e3
    have hm : 0 ≤ mode ∧ mode ≤ 4 := by unfold knownB at hk; simpa using hk
    have hsp := fun w' => special_any x y x0 x1 y0 y1 w'
    have hex := fun w' h => exactp_any x y x0 x1 y0 y1 w' h
    have hsg := fun w' => psign_any x y x0 x1 y0 y1 w'
    obtain ⟨p1, p2, p3⟩ := prD_bd x y x0 x1 y0 y1
    have hz := nf_e (prD_nf x y)
    have hnum := fun v w' h => number_any v (prD x y) 106 mode w' h p1 (by omega) (by omega) (by omega) hz hm.1 hm.2
    have hcase : (spB x y = true ∧ muV0 x y mode = spV x y ∧ muC0 x y = false) ∨ (spB x y = false ∧ (prD x y).m = 0 ∧ muV0 x y mode = sgn x y ∧ muC0 x y = false) ∨
        (spB x y = false ∧ (prD x y).m ≠ 0 ∧ muV0 x y mode = numR (prD x y) mode ∧ muC0 x y = numC (prD x y)) := by
      unfold muV0 muC0
      cases spB x y
      · by_cases h : (prD x y).m = 0 <;> simp [h]
      · simp
    generalize muV0 x y mode = V at *
    generalize muC0 x y = C at *
    generalize spV x y = sv at *
    generalize spB x y = sb at *
    generalize sgn x y = sg at *
    generalize numR (prD x y) mode = nR at *
    generalize numC (prD x y) = nC at *
    generalize prD x y = P at *
    have HSP := Lib.hid hsp
    have HEX := Lib.hid hex
    have HSG := Lib.hid hsg
    have HNUM := Lib.hid hnum
    have HT := Lib.hid hT
    have HK : Hid (knownB mode = true) := Lib.hid hk
    clear hsp hex hsg hnum hT hm p1 p2 p3 hz
    rcases hcase with ⟨rfl, rfl, rfl⟩ | ⟨rfl, hm, rfl, rfl⟩ | ⟨rfl, hm, rfl, rfl⟩
    · go_enter Tryz.func44, Tryz.ntmps44
      go_wp2_with (first | (go_at_call 53; refine (known_any _ _).mono ?_; rintro e w' ⟨rfl, rfl⟩) | (go_at_call 101; (with_reducible refine (HSP.out _).mono ?_); rintro e w' ⟨rfl, rfl⟩))
      go_ret3
      exact ⟨rfl, Below.refl _ _⟩
    all_goals
      have HM := Lib.hid hm
      clear hm
      go_enter Tryz.func44, Tryz.ntmps44
      go_wp2_with (first | (go_at_call 53; refine (known_any _ _).mono ?_; rintro e w' ⟨rfl, rfl⟩) | (go_at_call 101; (with_reducible refine (HSP.out _).mono ?_); rintro e w' ⟨rfl, rfl⟩))
      refine (HEX.out _ HT.out).mono ?_
      rintro r w1 ⟨v1, rfl, ⟨s1, rfl, h1⟩, hb⟩
      obtain ⟨a1, n1, c1, rfl, l1, l2, lz⟩ := nv_len h1
      have B1 := Lib.hid hb
      have V1 := Lib.hid h1
      have X1 := Lib.hid (Box.new w1 (.bool P.neg) (.slice a1 n1 c1) (.int .i64 P.e) 27)
      clear h1 hb
    · have hn : n1 = 0 := by have := HM.out; omega
      subst hn
      clear lz
      go_wp2_with (go_at_call 103; (with_reducible refine (HSG.out _).mono ?_); rintro e w' ⟨rfl, rfl⟩)
      go_ret3
      exact ⟨rfl, B1.out.alloc B1.out.size _⟩
    · have hn : 1 ≤ n1 := by have := HM.out; omega
      clear lz
      obtain ⟨q0, q1, q2, g0, g1, g2⟩ := X1.out.cells
      go_wp2_with fail
      refine (HNUM.out _ _ ⟨_, rfl, V1.out.alloc _⟩).mono ?_
      rintro r w2 ⟨rfl, hb⟩
      have B2 := Lib.hid (bl_thru (B1.out.alloc B1.out.size _) (Nat.le_refl _) hb)
      clear hb
      go_wp2
      go_ret3
      exact ⟨rfl, B2.out⟩
end Go.Proofs.YtmpdbmaokbhcjaaGreatDoor

/-
  PLAIN: a product and a number: how great.
-/
namespace Go.Proofs.YtmpdbmaokbhcjaaGreatDoor
open Go.RowKit Nt Fm Fl

theorem fmV_no {x y z mode : Int} (hk : knownB mode = false) : fmV x y z mode = 0 ∧ fmC x y z mode = false ∧ adE mode = 1 := by unfold fmV fmC adE; rw [hk]; exact ⟨rfl, rfl, rfl⟩
theorem fmV_yes {x y z mode : Int} (hk : knownB mode = true) : fmV x y z mode = fmV0 x y z mode ∧ fmC x y z mode = fmC0 x y z ∧ adE mode = 0 := by unfold fmV fmC adE; rw [hk]; exact ⟨rfl, rfl, rfl⟩
theorem adV_yes {x y mode : Int} (hk : knownB mode = true) : adV x y mode = allV [x, y] mode ∧ adC x y mode = allC [x, y] := by
  unfold adV adC; rw [hk]; exact ⟨rfl, rfl⟩
theorem fsD_bd (x y z : Int) (x0 : 0 ≤ x) (x1 : x ≤ 18446744073709551615) (y0 : 0 ≤ y) (y1 : y ≤ 18446744073709551615) (z0 : 0 ≤ z) (z1 : z ≤ 18446744073709551615) :
    ∃ q, q ≤ 10000 ∧ (fsD x y z).m < 2 ^ q ∧ -4000 ≤ (fsD x y z).e ∧ (fsD x y z).e ≤ 14000 := by
  obtain ⟨p1, p2, p3⟩ := prD_bd x y x0 x1 y0 y1
  obtain ⟨f1, f2, f3, f4, -⟩ := valD_facts z z0 z1
  unfold fsD
  generalize prD x y = P at *
  generalize valD z = V at *
  obtain ⟨T, hT⟩ : ∃ T : Nat, T = 3000 := ⟨_, rfl⟩
  have e1 : 0 ≤ P.e + (T : Int) := by omega
  have e2 : 0 ≤ V.e + (T : Int) := by omega
  have hv := plus_vl P V T e1 e2
  have he := plus_eT e1 e2
  have hn := plus_Nf P V
  have hb : ((plus P V).vl T).natAbs < 2 ^ (T + 6108) := by
    rw [hv]
    have a : (P.vl T).natAbs < 2 ^ (T + 6107) := by
      rw [vl_natAbs, show T + 6107 = 106 + (T + 6001) by omega, Nat.pow_add]
      exact Nat.lt_of_lt_of_le (Nat.mul_lt_mul_of_pos_right p1 (Nat.two_pow_pos _)) (Nat.mul_le_mul_left _ (Nat.pow_le_pow_right (by decide) (by omega)))
    have b : (V.vl T).natAbs < 2 ^ (T + 6107) := by
      rw [vl_natAbs, show T + 6107 = 53 + (T + 6054) by omega, Nat.pow_add]
      exact Nat.lt_of_lt_of_le (Nat.mul_lt_mul_of_pos_right f2 (Nat.two_pow_pos _)) (Nat.mul_le_mul_left _ (Nat.pow_le_pow_right (by decide) (by omega)))
    have c : 2 ^ (T + 6108) = 2 * 2 ^ (T + 6107) := by rw [show T + 6108 = (T + 6107) + 1 by omega, Nat.pow_succ, Nat.mul_comm]
    rw [c]
    generalize 2 ^ (T + 6107) = Z at *
    omega
  rw [vl_natAbs] at hb
  generalize plus P V = S at *
  refine ⟨T + 6108, by omega, ?_, by omega, ?_⟩
  · have := Nat.two_pow_pos (S.e + (T : Int)).toNat
    exact Nat.lt_of_le_of_lt (Nat.le_mul_of_pos_right _ this) hb
  · by_cases hz : S.m = 0
    · rcases hn with h | h
      · rw [h]; decide
      · omega
    · have : 2 ^ (S.e + (T : Int)).toNat ≤ S.m * 2 ^ (S.e + (T : Int)).toNat := Nat.le_mul_of_pos_left _ (by omega)
      have := (Nat.pow_lt_pow_iff_right (by decide : 1 < 2)).1 (Nat.lt_of_le_of_lt this hb)
      omega
def zeV (b : Bool) : Int := if b = true then 9223372036854775808 else 0
theorem zero_any' (neg : Bool) (w : World) : Calls Tryz.prog 151 #[.bool neg] w fun e w' => e = .returned (.int .u64 (zeV neg)) ∧ w = w' := zero_any neg w
end Go.Proofs.YtmpdbmaokbhcjaaGreatDoor
