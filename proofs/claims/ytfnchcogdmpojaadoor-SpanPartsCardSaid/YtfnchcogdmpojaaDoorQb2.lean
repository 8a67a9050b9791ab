/-
  SOME OF MY TEXTS in one: Qp Qx. Each says what it proves.
-/
import Derived.Test.YtfnchcogdmpojaaDoorBp
import Derived.Test.YtfnchcogdmpojaaDoorBq
import Derived.Test.YtfnchcogdmpojaaDoorNw
set_option linter.unusedVariables false
set_option linter.unusedSimpArgs false
/-
  PLAIN: quotients and roots of numbers, rounded. No Go function here.
-/
namespace Go.Proofs.YtfnchcogdmpojaaDoor
open Go.RowKit Nt Fm Fl

def dvD (x y : Int) : D := ratD ((valD x).neg != (valD y).neg) (valD x).m (valD y).m ((valD x).e - (valD y).e)
def dvS (x y : Int) : Bool := decide (fcls x = 5) || (decide (fcls y = 5) || (decide (fcls x = 4) || (decide (fcls y = 4) || (decide (fcls x = 1) || decide (fcls y = 1)))))
def dvW (x y : Int) : Int :=
  if fcls x = 5 ∨ fcls y = 5 ∨ (fcls x = 4 ∧ fcls y = 4) ∨ (fcls x = 1 ∧ fcls y = 1) then 9221120237041090560 else if fcls x = 4 ∨ fcls y = 1 then 9218868437227405312 + sgn x y else sgn x y
def dvV0 (x y mode : Int) : Int := if dvS x y = true then dvW x y else numR (dvD x y) mode
def dvC0 (x y : Int) : Bool := if dvS x y = true then false else numC (dvD x y)
def dvV (x y mode : Int) : Int := if knownB mode = true then dvV0 x y mode else 0
def dvC (x y mode : Int) : Bool := if knownB mode = true then dvC0 x y else false
def sqD (x : Int) : D := rtD (isq ((valD x).m * 2 ^ rk (valD x).e)) (valD x).m (valD x).e
def sqS (x : Int) : Bool := decide (fcls x = 5) || ((fng x) || (decide (fcls x = 1) || decide (fcls x = 4)))
def sqW (x : Int) : Int := if fcls x = 5 ∨ (fng x = true ∧ fcls x ≠ 1) then 9221120237041090560 else x
def sqV0 (x mode : Int) : Int := if sqS x = true then sqW x else numR (sqD x) mode
def sqC0 (x : Int) : Bool := if sqS x = true then false else numC (sqD x)
def sqV (x mode : Int) : Int := if knownB mode = true then sqV0 x mode else 0
def sqC (x mode : Int) : Bool := if knownB mode = true then sqC0 x else false
theorem dvV_no {x y mode : Int} (hk : knownB mode = false) : dvV x y mode = 0 ∧ dvC x y mode = false ∧ adE mode = 1 := by unfold dvV dvC adE; rw [hk]; exact ⟨rfl, rfl, rfl⟩
theorem dvV_yes {x y mode : Int} (hk : knownB mode = true) : dvV x y mode = dvV0 x y mode ∧ dvC x y mode = dvC0 x y ∧ adE mode = 0 := by unfold dvV dvC adE; rw [hk]; exact ⟨rfl, rfl, rfl⟩
theorem sqV_no {x mode : Int} (hk : knownB mode = false) : sqV x mode = 0 ∧ sqC x mode = false ∧ adE mode = 1 := by unfold sqV sqC adE; rw [hk]; exact ⟨rfl, rfl, rfl⟩
theorem sqV_yes {x mode : Int} (hk : knownB mode = true) : sqV x mode = sqV0 x mode ∧ sqC x mode = sqC0 x ∧ adE mode = 0 := by unfold sqV sqC adE; rw [hk]; exact ⟨rfl, rfl, rfl⟩
theorem dvW_bd (x y : Int) : 0 ≤ dvW x y ∧ dvW x y ≤ 18446744073709551615 := by
  have := sgn_bd x y
  unfold dvW; split; · omega
  split <;> omega
theorem dvV_bd (x y mode : Int) : 0 ≤ dvV x y mode ∧ dvV x y mode ≤ 18446744073709551615 := by
  have b := dvW_bd x y
  have c := numR_bd (dvD x y) mode
  unfold dvV dvV0; split
  · split <;> omega
  · omega
theorem sqV_bd (x mode : Int) (x0 : 0 ≤ x) (x1 : x ≤ 18446744073709551615) : 0 ≤ sqV x mode ∧ sqV x mode ≤ 18446744073709551615 := by
  have c := numR_bd (sqD x) mode
  unfold sqV sqV0; split
  · split
    · unfold sqW; split <;> omega
    · omega
  · omega
end Go.Proofs.YtfnchcogdmpojaaDoor

/-
  PLAIN: the laws of quotients and roots of numbers. No Go function here.
-/
namespace Go.Proofs.YtfnchcogdmpojaaDoor
open Go.RowKit Nt Fm Fl

theorem fabs_numR (d : D) (mode : Int) : fabs (numR d mode) = (numk (kd d.neg mode) d.m d.e : Int) := by
  have := numk_le_MR (kd d.neg mode) d.m d.e
  have hMR : MR = 9218868437227405312 := rfl
  unfold numR fabs; split <;> omega
theorem kd_near (neg : Bool) : kd neg 0 = 2 := by cases neg <;> rfl
theorem kd_away (neg : Bool) : kd neg 4 = 3 := by cases neg <;> rfl
theorem fcls_not3 {x : Int} (h : fabs x < 4503599627370496) : fcls x ≠ 3 := by
  unfold fcls; split; · decide
  first | decide | (rw [if_pos h]; decide)
theorem fin_of_cls {x : Int} (h5 : fcls x ≠ 5) (h4 : fcls x ≠ 4) (h1 : fcls x ≠ 1) : fabs x < 9218868437227405312 ∧ fabs x ≠ 0 := by
  refine ⟨?_, fun h => h1 (fcls_1 h)⟩
  apply Classical.byContradiction; intro k
  by_cases e : fabs x = 9218868437227405312
  · exact h4 (fcls_4 e)
  · exact h5 (fcls_5 (by omega))
theorem m_of_cls {x : Int} (x0 : 0 ≤ x) (x1 : x ≤ 18446744073709551615) (h5 : fcls x ≠ 5) (h4 : fcls x ≠ 4) (h1 : fcls x ≠ 1) : (valD x).m ≠ 0 := fun h => by
  obtain ⟨a, b⟩ := fin_of_cls h5 h4 h1
  exact b (valD_m0 x0 x1 a h)
theorem dvS_false {x y : Int} (h : ¬ dvS x y = true) : fcls x ≠ 5 ∧ fcls y ≠ 5 ∧ fcls x ≠ 4 ∧ fcls y ≠ 4 ∧ fcls x ≠ 1 ∧ fcls y ≠ 1 := by
  unfold dvS at h
  simp only [Bool.or_eq_true, decide_eq_true_eq] at h
  omega
theorem sqS_false {x : Int} (h : ¬ sqS x = true) : fcls x ≠ 5 ∧ fng x = false ∧ fcls x ≠ 1 ∧ fcls x ≠ 4 := by
  unfold sqS at h
  simp only [Bool.or_eq_true, decide_eq_true_eq] at h
  refine ⟨by omega, ?_, by omega, by omega⟩
  cases hf : fng x
  · rfl
  · exact absurd (Or.inr (Or.inl hf)) h
theorem dv_never {x y : Int} (x0 : 0 ≤ x) (x1 : x ≤ 18446744073709551615) (y0 : 0 ≤ y) (y1 : y ≤ 18446744073709551615) :
    dvV x y 0 = dvV x y 4 ∨ fcls (dvV x y 0) ≠ 3 ∨ fcls (dvV x y 4) ≠ 3 := by
  rw [(dvV_yes (x := x) (y := y) (show knownB 0 = true by decide)).1, (dvV_yes (x := x) (y := y) (show knownB 4 = true by decide)).1]
  unfold dvV0
  by_cases h : dvS x y = true
  · left; rw [if_pos h, if_pos h]
  · rw [if_neg h, if_neg h]
    obtain ⟨a, b, c, d, e, f⟩ := dvS_false h
    rcases ratio_never (m_of_cls x0 x1 a c e) (valD_facts x x0 x1).2.1 (m_of_cls y0 y1 b d f) ((valD x).neg != (valD y).neg) ((valD x).e - (valD y).e) with k | ⟨k, -⟩
    · left
      unfold numR
      rw [kd_near, kd_away]
      show (((numk 2 (dvD x y).m (dvD x y).e : Nat) : Int)) + _ = ((numk 3 (dvD x y).m (dvD x y).e : Nat) : Int) + _
      unfold dvD
      rw [k]
    · right; left
      apply fcls_not3
      rw [fabs_numR, kd_near]
      have : numk 2 (dvD x y).m (dvD x y).e < 4503599627370496 := k
      omega
theorem mag_one {j k : Nat} (hj : j = 1022) (hk : k = 1074) : mag 4607182418800017408 = 2 ^ k := by
  have e : 4503599627370496 + j * 4503599627370496 = 4607182418800017408 := by omega
  have e2 : 52 + j = k := by omega
  clear hj hk
  have := mag_of 4503599627370496 j (Or.inl (Nat.le_refl _)) (by decide)
  rw [e] at this
  rw [this, show 4503599627370496 = 2 ^ 52 by decide, ← Nat.pow_add, e2]
theorem dv_self {x : Int} (mode : Int) (x0 : 0 ≤ x) (x1 : x ≤ 18446744073709551615) (h : fcls x = 2 ∨ fcls x = 3) : dvV0 x x mode = 4607182418800017408 ∧ dvC0 x x = false := by
  have hS : dvS x x = false := by
    unfold dvS; rw [decide_eq_false (show ¬ fcls x = 5 by omega), decide_eq_false (show ¬ fcls x = 4 by omega), decide_eq_false (show ¬ fcls x = 1 by omega)]; rfl
  have hm := m_of_cls x0 x1 (show fcls x ≠ 5 by omega) (by omega) (by omega)
  obtain ⟨t, ht⟩ := exTq ((valD x).e - (valD x).e - qk (valD x).m (valD x).m - 2 + 1074)
  obtain ⟨k, hk⟩ : ∃ k, k = 1074 := ⟨_, rfl⟩
  obtain ⟨a, b⟩ := ratio_exact hm hm ((valD x).neg != (valD x).neg) ((valD x).e - (valD x).e) (t := t) ht (r := 4607182418800017408) (by decide)
    (by rw [mag_one (j := 1022) rfl hk, ← Nat.pow_add, Nat.mul_comm]; congr 2; omega) (kd (dvD x x).neg mode)
  unfold dvV0 dvC0
  rw [hS]
  simp only [Bool.false_eq_true, if_false]
  refine ⟨?_, b⟩
  unfold numR
  have hn : (dvD x x).neg = false := by show ((valD x).neg != (valD x).neg) = false; simp
  rw [hn]
  rw [hn] at a
  show ((numk _ (dvD x x).m (dvD x x).e : Nat) : Int) + 0 = _
  unfold dvD
  rw [a]; rfl
theorem sign_back {x : Int} (x0 : 0 ≤ x) (x1 : x ≤ 18446744073709551615) : ((fabs x).toNat : Int) + (if fng x = true then 9223372036854775808 else 0) = x := by
  unfold fng
  have := fabs_bd x
  by_cases h : 9223372036854775808 ≤ x
  · rw [decide_eq_true h, if_pos rfl]; unfold fabs; omega
  · rw [decide_eq_false h, if_neg (by decide)]; unfold fabs; omega
theorem dv_one {x : Int} (mode : Int) (x0 : 0 ≤ x) (x1 : x ≤ 18446744073709551615) : dvC0 x 4607182418800017408 = false ∧ (fcls x = 5 ∨ dvV0 x 4607182418800017408 mode = x) := by
  have c1 : fcls 4607182418800017408 = 3 := by decide
  unfold dvC0 dvV0
  by_cases h : dvS x 4607182418800017408 = true
  · rw [if_pos h, if_pos h]
    refine ⟨rfl, ?_⟩
    unfold dvW
    rw [c1]
    by_cases h5 : fcls x = 5
    · exact Or.inl h5
    · right
      rw [if_neg (by omega)]
      by_cases h4 : fcls x = 4
      · rw [if_pos (Or.inl h4)]
        refine inf_one ?_ x0 x1
        unfold fcls at h4
        split at h4; · exact absurd h4 (by decide)
        split at h4; · exact absurd h4 (by decide)
        split at h4; · exact absurd h4 (by decide)
        split at h4
        · assumption
        · exact absurd h4 (by decide)
      · rw [if_neg (by omega)]
        refine sgn_one (fcls_zero ?_) x0 x1
        unfold dvS at h
        rw [c1] at h
        simp only [Bool.or_eq_true, decide_eq_true_eq] at h
        omega
  · rw [if_neg h, if_neg h]
    obtain ⟨a, b, c, d, e, f⟩ := dvS_false h
    have hm := m_of_cls x0 x1 a c e
    obtain ⟨hfin, -⟩ := fin_of_cls a c e
    have hb := fabs_bd x
    obtain ⟨t, ht⟩ := exTq ((valD x).e - 0 - qk (valD x).m 1 - 2 + 1074)
    have htt := (valD_tt x x0 x1 t).resolve_right (by omega)
    unfold tt at htt
    have key := fun k => ratio_exact hm (show (1 : Nat) ≠ 0 by decide) ((valD x).neg != false) ((valD x).e - 0) (t := t) ht (r := (fabs x).toNat) (by show _ < 9218868437227405312; omega)
      (by rw [Nat.mul_one, ← htt]; congr 2; omega) k
    have hD : dvD x 4607182418800017408 = ratD ((valD x).neg != false) (valD x).m 1 ((valD x).e - 0) := by unfold dvD; rw [valD_one]
    rw [hD]
    refine ⟨(key 0).2, Or.inr ?_⟩
    unfold numR
    rw [(key _).1]
    have hn : (ratD ((valD x).neg != false) (valD x).m 1 ((valD x).e - 0)).neg = fng x := by
      rw [← (valD_facts x x0 x1).2.2.2.2 hm]; show ((valD x).neg != false) = _; cases (valD x).neg <;> rfl
    rw [hn]
    exact sign_back x0 x1
theorem dv_turned {x y : Int} (mode : Int) (x0 : 0 ≤ x) (x1 : x ≤ 18446744073709551615) :
    dvC0 (fneg x) y = dvC0 x y ∧ ((dvV0 x y mode = 9221120237041090560 ∧ dvV0 (fneg x) y (swapM mode) = 9221120237041090560) ∨ dvV0 (fneg x) y (swapM mode) = fneg (dvV0 x y mode)) := by
  have hc := fcls_fneg x
  have hb : dvS (fneg x) y = dvS x y := by unfold dvS; rw [hc]
  unfold dvC0 dvV0
  rw [hb]
  by_cases h : dvS x y = true
  · rw [if_pos h, if_pos h, if_pos h, if_pos h]
    refine ⟨rfl, ?_⟩
    unfold dvW
    rw [hc, sgn_fneg x0 x1]
    split
    · exact Or.inl ⟨rfl, rfl⟩
    · right
      split
      · exact (fneg_sgn x y _ (Or.inr rfl)).symm
      · have := fneg_sgn x y 0 (Or.inl rfl)
        rw [Int.zero_add, Int.zero_add] at this
        exact this.symm
  · rw [if_neg h, if_neg h, if_neg h, if_neg h]
    obtain ⟨a, b, c, d, e, f⟩ := dvS_false h
    have hm := m_of_cls x0 x1 a c e
    have hD : dvD (fneg x) y = ⟨!(dvD x y).neg, (dvD x y).m, (dvD x y).e⟩ := by
      unfold dvD
      rw [valD_fneg x0 x1]
      have e1 : (opp (valD x)).neg = !(valD x).neg := by unfold opp; simp [hm]
      have e2 : (opp (valD x)).m = (valD x).m := rfl
      have e3 : (opp (valD x)).e = (valD x).e := rfl
      rw [e1, e2, e3]
      unfold ratD
      simp only [D.mk.injEq, and_true]
      cases (valD x).neg <;> cases (valD y).neg <;> rfl
    rw [hD]
    refine ⟨rfl, Or.inr ?_⟩
    exact numR_turned _ _ _ _
/-- roots -/
theorem sq_never {x : Int} (x0 : 0 ≤ x) (x1 : x ≤ 18446744073709551615) : sqV x 0 = sqV x 4 := by
  rw [(sqV_yes (x := x) (show knownB 0 = true by decide)).1, (sqV_yes (x := x) (show knownB 4 = true by decide)).1]
  unfold sqV0
  by_cases h : sqS x = true
  · rw [if_pos h, if_pos h]
  · rw [if_neg h, if_neg h]
    obtain ⟨a, b, c, d⟩ := sqS_false h
    have k := root_never (m_of_cls x0 x1 a d c) (valD_facts x x0 x1).2.1 (valD_facts x x0 x1).2.2.1 (isq_root ((valD x).m * 2 ^ rk (valD x).e))
    unfold numR
    rw [kd_near, kd_away]
    show (((numk 2 (sqD x).m (sqD x).e : Nat) : Int)) + _ = ((numk 3 (sqD x).m (sqD x).e : Nat) : Int) + _
    unfold sqD
    rw [k]
theorem frerr_nan : frerr 9221120237041090560 = 4 := by decide
theorem sq_rank {x : Int} (mode : Int) (h : ¬ sqS x = true) : frank (sqV0 x mode) = (numk (kd false mode) (sqD x).m (sqD x).e : Int) := by
  unfold sqV0
  rw [if_neg h, (rank_numR _ _).1]
  have hn : (sqD x).neg = false := rfl
  unfold rg
  rw [hn]
  exact if_neg (by decide)
theorem frank_pos {x : Int} (h : fng x = false) (hf : fabs x ≤ 9218868437227405312) : frank x = fabs x := by
  rw [frank_fng hf, h]; exact if_neg (by decide)
theorem frank_zero {x : Int} (h : fcls x = 1) : frank x = 0 := by
  have := fcls_zero h
  rw [frank_fng (by omega)]; split <;> omega
theorem sq_mono {x y : Int} (mode : Int) (x0 : 0 ≤ x) (x1 : x ≤ 18446744073709551615) (y0 : 0 ≤ y) (y1 : y ≤ 18446744073709551615) (ex : frerr x = 0) (ey : frerr y = 0) (h : frank x ≤ frank y)
    (k1 : frerr (sqV0 x mode) = 0) (k2 : frerr (sqV0 y mode) = 0) : frank (sqV0 x mode) ≤ frank (sqV0 y mode) := by
  have hfx := frerr_0 ex
  have hfy := frerr_0 ey
  have bx := fabs_bd x
  have by' := fabs_bd y
  have c5 : ∀ {z : Int}, fabs z ≤ 9218868437227405312 → fcls z ≠ 5 := by
    intro z hz
    unfold fcls; split; · decide
    split; · decide
    split; · decide
    rw [if_pos (by omega)]; decide
  have c4 : ∀ {z : Int}, fcls z = 4 → fabs z = 9218868437227405312 := by
    intro z h4
    unfold fcls at h4
    split at h4; · exact absurd h4 (by decide)
    split at h4; · exact absurd h4 (by decide)
    split at h4; · exact absurd h4 (by decide)
    split at h4
    · assumption
    · exact absurd h4 (by decide)
  have ways : ∀ {z : Int}, fabs z ≤ 9218868437227405312 → frerr (sqV0 z mode) = 0 → (fcls z = 1 ∧ sqV0 z mode = z) ∨ (fcls z = 4 ∧ fng z = false ∧ sqV0 z mode = z) ∨ ¬ sqS z = true := by
    intro z hz hk
    by_cases hs : sqS z = true
    · unfold sqV0 at hk ⊢
      rw [if_pos hs] at hk ⊢
      unfold sqW at hk ⊢
      by_cases hq : fcls z = 5 ∨ (fng z = true ∧ fcls z ≠ 1)
      · rw [if_pos hq, frerr_nan] at hk; exact absurd hk (by decide)
      · rw [if_neg hq]
        by_cases h1 : fcls z = 1
        · exact Or.inl ⟨h1, rfl⟩
        · have hng : fng z = false := by
            cases hg : fng z
            · rfl
            · exact absurd (Or.inr ⟨hg, h1⟩) hq
          refine Or.inr (Or.inl ⟨?_, hng, rfl⟩)
          unfold sqS at hs
          rw [hng] at hs
          simp only [Bool.or_eq_true, decide_eq_true_eq, Bool.false_eq_true, false_or] at hs
          omega
    · exact Or.inr (Or.inr hs)
  rcases ways hfx k1 with ⟨a1, a2⟩ | ⟨a1, a2, a3⟩ | hx
  · rw [a2, frank_zero a1]
    rcases ways hfy k2 with ⟨b1, b2⟩ | ⟨b1, b2, b3⟩ | hy
    · rw [b2, frank_zero b1]; omega
    · rw [b3, frank_pos b2 hfy]; omega
    · rw [sq_rank mode hy]; omega
  · rw [frank_pos a2 hfx, c4 a1] at h
    have hyi : frank y = 9218868437227405312 := by have := frank_bd y; omega
    have hy4 : fabs y = 9218868437227405312 ∧ fng y = false := by
      rw [frank_fng hfy] at hyi
      cases hg : fng y
      · rw [hg] at hyi; exact ⟨by simpa using hyi, rfl⟩
      · rw [hg, if_pos rfl] at hyi; omega
    rw [a3, frank_pos a2 hfx, c4 a1]
    rcases ways hfy k2 with ⟨b1, b2⟩ | ⟨b1, b2, b3⟩ | hy
    · rw [b2]; omega
    · rw [b3]; omega
    · exact absurd (fcls_4 hy4.1) (sqS_false hy).2.2.2
  · obtain ⟨p1, p2, p3, p4⟩ := sqS_false hx
    obtain ⟨p5, p6⟩ := fin_of_cls p1 p4 p3
    rw [frank_pos p2 hfx] at h
    rcases ways hfy k2 with ⟨b1, b2⟩ | ⟨b1, b2, b3⟩ | hy
    · rw [frank_zero b1] at h; omega
    · rw [b3, frank_pos b2 hfy, c4 b1]
      exact (frank_bd _).2
    · obtain ⟨q1, q2, q3, q4⟩ := sqS_false hy
      obtain ⟨q5, q6⟩ := fin_of_cls q1 q4 q3
      rw [frank_pos q2 hfy] at h
      rw [sq_rank mode hx, sq_rank mode hy]
      obtain ⟨t, ht⟩ : ∃ t : Nat, 0 ≤ (valD x).e - rk (valD x).e - 4 + 2148 + 2 * (t : Int) ∧ 0 ≤ (valD y).e - rk (valD y).e - 4 + 2148 + 2 * (t : Int) :=
        ⟨(-((valD x).e - rk (valD x).e - 4 + 2148)).toNat + (-((valD y).e - rk (valD y).e - 4 + 2148)).toNat, by omega, by omega⟩
      have tx := (valD_tt x x0 x1 (1074 + 2 * t)).resolve_right (by omega)
      have ty := (valD_tt y y0 y1 (1074 + 2 * t)).resolve_right (by omega)
      have hmag : mag (fabs x).toNat ≤ mag (fabs y).toNat := mag_mono (by omega)
      have := root_mono (m_of_cls x0 x1 p1 p4 p3) (isq_root ((valD x).m * 2 ^ rk (valD x).e)) (m_of_cls y0 y1 q1 q4 q3) (isq_root ((valD y).m * 2 ^ rk (valD y).e)) (kd false mode) (t := t) ht.1 ht.2
        (by
          have e : ∀ z : Int, (z + 2148 + 2 * (t : Int)).toNat = (z + 1074 + ((1074 + 2 * t : Nat) : Int)).toNat := fun z => by congr 1; omega
          rw [e, e]
          have h3 := Nat.mul_le_mul_right (2 ^ (1074 + 2 * t)) hmag
          unfold tt at tx ty
          rw [tx, ty]; exact h3)
      unfold sqD
      omega
theorem sq_square {x : Int} (mode : Int) (x0 : 0 ≤ x) (x1 : x ≤ 18446744073709551615) (hx : fcls x < 4) (hc : muC0 x x = false) (hp : fcls (muV0 x x mode) = 3) :
    sqV0 (muV0 x x mode) mode = fabs x ∧ sqC0 (muV0 x x mode) = false := by
  have hfin : fabs x < 9218868437227405312 := by
    apply Classical.byContradiction; intro k
    by_cases e : fabs x = 9218868437227405312
    · have := fcls_4 e; omega
    · have := fcls_5 (show 9218868437227405312 < fabs x by omega); omega
  have hb := fabs_bd x
  obtain ⟨-, m2, m3, m4, -⟩ := mu_fin hfin hfin mode
  have hmz : (prD x x).m ≠ 0 := by
    intro h
    have := fcls_1 (m3 h)
    omega
  rw [m4 hmz] at hp ⊢
  rw [m2] at hc
  have hmx : (valD x).m ≠ 0 := by
    intro h
    apply hmz
    have h2 := times_vl (valD x) (valD x) 1074 1074 (valD_e x0 x1) (valD_e x0 x1)
    rw [vl_zero h] at h2
    have h3 := vl_natAbs (times (valD x) (valD x)) (1074 + 1074)
    rw [h2] at h3
    have h4 : (times (valD x) (valD x)).m * 2 ^ ((times (valD x) (valD x)).e + ((1074 + 1074 : Nat) : Int)).toNat = 0 := by rw [← h3]; rfl
    rcases Nat.mul_eq_zero.1 h4 with h5 | h5
    · exact h5
    · have := Nat.two_pow_pos ((times (valD x) (valD x)).e + ((1074 + 1074 : Nat) : Int)).toNat; omega
  have hneg : (prD x x).neg = false := by
    have : prD x x = norm ((valD x).neg != (valD x).neg) ((valD x).m * (valD x).m) ((valD x).e + (valD x).e) := (times_norm _ _).symm
    rw [this, norm_neg _ _ _ (fun h => hmx (by rcases Nat.mul_eq_zero.1 h with h | h <;> exact h))]
    simp
  obtain ⟨v1, v2⟩ := valD_numR (prD_nf x x) mode hc
  have hS : sqS (numR (prD x x) mode) = false := by
    have hg : fng (numR (prD x x) mode) = false := by
      have := numk_le_MR (kd (prD x x).neg mode) (prD x x).m (prD x x).e
      have hMR : MR = 9218868437227405312 := rfl
      unfold fng numR
      rw [hneg]
      rw [hneg] at this
      rw [decide_eq_false_iff_not]
      simp only [Bool.false_eq_true, if_false]
      omega
    unfold sqS
    rw [hp, hg]; decide
  obtain ⟨t, ht⟩ : ∃ t : Nat, 0 ≤ (prD x x).e - rk (prD x x).e - 4 + 2148 + 2 * (t : Int) := ⟨(-((prD x x).e - rk (prD x x).e - 4 + 2148)).toNat, by omega⟩
  have tx := (valD_tt x x0 x1 t).resolve_right (by omega)
  rw [tt_vl] at tx
  have hvl := times_vl (valD x) (valD x) (1074 + t) (1074 + t) (by have := valD_e x0 x1; omega) (by have := valD_e x0 x1; omega)
  have hnat := vl_natAbs (prD x x) (1074 + t + (1074 + t))
  have hvl2 : (prD x x).vl (1074 + t + (1074 + t)) = (valD x).vl (1074 + t) * (valD x).vl (1074 + t) := hvl
  rw [hvl2, Int.natAbs_mul, tx] at hnat
  have key := fun k => root_exact hmz (isq_root ((prD x x).m * 2 ^ rk (prD x x).e)) (t := t) ht (s := (fabs x).toNat) (by show _ < 9218868437227405312; omega)
    (by rw [hnat]; congr 2; omega) k
  unfold sqV0 sqC0
  rw [hS]
  simp only [Bool.false_eq_true, if_false]
  unfold sqD
  rw [v1]
  refine ⟨?_, (key 0).2⟩
  unfold numR
  rw [(key _).1]
  show ((fabs x).toNat : Int) + 0 = fabs x
  omega
end Go.Proofs.YtfnchcogdmpojaaDoor
