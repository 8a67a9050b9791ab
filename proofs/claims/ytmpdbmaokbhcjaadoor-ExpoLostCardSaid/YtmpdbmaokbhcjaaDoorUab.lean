/-
  SOME OF MY TEXTS in one: Ua Ub. Each says what it proves.
-/
import Derived.Test.YtmpdbmaokbhcjaaDoorBh
import Derived.Test.YtmpdbmaokbhcjaaDoorPcs
import Derived.Test.YtmpdbmaokbhcjaaDoorPds
set_option linter.unusedVariables false
set_option linter.unusedSimpArgs false
/-
  PLAIN: cuts of the quotients, and what numbers on both sides of one are rounded to.
-/
namespace Go.Proofs.YtmpdbmaokbhcjaaDoor
open Go.RowKit Nt Fm Fl
open Ea (tw)

theorem rank_rv {c d : D} (mode : Int) (h : rv c ≤ rv d) : frank (numR c mode) ≤ frank (numR d mode) := rank_mono mode (rv_le.2 h)
theorem sm_gt {d : D} (h : 0 < d.sm) : d.neg = false ∧ d.m ≠ 0 := by
  unfold D.sm at h
  split at h
  · omega
  · rename_i h1; exact ⟨by simpa using h1, by omega⟩
theorem sm_lt {d : D} (h : d.sm < 0) : d.neg = true ∧ d.m ≠ 0 := by
  unfold D.sm at h
  split at h
  · rename_i h1; exact ⟨h1, by omega⟩
  · omega
theorem rv_gt {d : D} (h : 0 < rv d) : d.neg = false ∧ d.m ≠ 0 := by
  refine sm_gt ?_
  refine Int.not_le.1 fun e => ?_
  have h1 : (d.sm : Rat) ≤ ((0 : Int) : Rat) := Rat.intCast_le_intCast.2 e
  have := Rat.mul_le_mul_of_nonneg_right h1 (Rat.le_of_lt (Ea.tw_pos d.e))
  have e0 : ((0 : Int) : Rat) = 0 := rfl
  rw [e0, Rat.zero_mul] at this
  unfold rv at h
  grind
theorem rv_lt {d : D} (h : rv d < 0) : d.neg = true ∧ d.m ≠ 0 := by
  refine sm_lt ?_
  refine Int.not_le.1 fun e => ?_
  have h1 : ((0 : Int) : Rat) ≤ (d.sm : Rat) := Rat.intCast_le_intCast.2 e
  have := Rat.mul_le_mul_of_nonneg_right h1 (Rat.le_of_lt (Ea.tw_pos d.e))
  have e0 : ((0 : Int) : Rat) = 0 := rfl
  rw [e0, Rat.zero_mul] at this
  unfold rv at h
  grind
theorem rv_of_pos {d : D} (h : d.neg = false) (hm : d.m ≠ 0) : 0 < rv d := by
  unfold rv D.sm
  rw [h]
  exact Rat.mul_pos (Rat.natCast_pos.2 (by omega)) (Ea.tw_pos _)
theorem rv_of_neg {d : D} (h : d.neg = true) (hm : d.m ≠ 0) : rv d < 0 := by
  have : 0 < rv (opp d) := rv_of_pos (by unfold opp; rw [h]; rfl) hm
  rw [rv_opp] at this
  grind
theorem numC_m {d : D} (h : numC d = true) : d.m ≠ 0 := by
  intro e
  unfold numC chg at h
  rw [e] at h
  simp at h
/-- the same sign and the same rank: the same number -/
theorem numR_inj {c d : D} {mode : Int} (hn : c.neg = d.neg) (h : frank (numR c mode) = frank (numR d mode)) : numR c mode = numR d mode := by
  rw [(rank_numR c mode).1, (rank_numR d mode).1] at h
  unfold rg at h
  unfold numR
  rw [hn] at h
  rw [hn]
  revert h
  generalize d.neg = g
  intro h
  cases g <;> simp only [Bool.false_eq_true, if_false, if_true] at h ⊢ <;> omega
theorem numR_sign {c d : D} {mode : Int} (h : numR c mode = numR d mode) : c.neg = d.neg := by
  rw [← (fng_numR c mode).2, ← (fng_numR d mode).2, h]
/-- between two that are rounded to one -/
theorem squeeze {c z d : D} {mode : Int} (h1 : rv c ≤ rv z) (h2 : rv z ≤ rv d) (h : numR c mode = numR d mode) (hc : numC c = true) (hd : numC d = true) : numR z mode = numR c mode := by
  have s := numR_sign h
  have mc := numC_m hc
  have md := numC_m hd
  have r1 := rank_rv mode h1
  have r2 := rank_rv mode h2
  rw [← h] at r2
  refine numR_inj ?_ (by omega)
  cases hg : c.neg
  · have := rv_of_pos hg mc
    exact (rv_gt (d := z) (by grind)).1
  · have := rv_of_neg (s ▸ hg) md
    exact (rv_lt (d := z) (by grind)).1
theorem Pk_same {k t T T' n : Nat} (h : T ≤ T') (hN : ∀ j : Nat, ¬ (2 * T ≤ j * 2 ^ t ∧ j * 2 ^ t ≤ 2 * T')) (hp : Pk k t T' n) : Pk k t T n := by
  have a := hN (2 * mag n)
  have b := hN (2 * mag (n - 1))
  have c := hN (mag (n - 1) + mag n)
  rw [Nat.mul_assoc] at a b
  rcases k with _ | _ | _ | k <;> simp only [Pk] at * <;> omega
theorem numk_same {t m m' : Nat} {e e' : Int} (ht : 0 ≤ e + 1074 + t) (ht' : 0 ≤ e' + 1074 + t) (h : tt t m e ≤ tt t m' e') (hN : ∀ j : Nat, ¬ (2 * tt t m e ≤ j * 2 ^ t ∧ j * 2 ^ t ≤ 2 * tt t m' e')) (k : Nat) :
    numk k m e = numk k m' e' ∧ chg m e = true ∧ chg m' e' = true := by
  refine ⟨Nat.le_antisymm (numk_mono ht ht' k h) ((numk_iff ht k _).2 (Pk_same h hN ((numk_iff ht' k _).1 (Nat.le_refl _)))), ?_, ?_⟩
  · cases hc : chg m e
    · obtain ⟨r, -, h2⟩ := (chg_iff ht).1 hc
      have := hN (2 * mag r)
      rw [Nat.mul_assoc] at this
      omega
    · rfl
  · cases hc : chg m' e'
    · obtain ⟨r, -, h2⟩ := (chg_iff ht').1 hc
      have := hN (2 * mag r)
      rw [Nat.mul_assoc] at this
      omega
    · rfl
theorem tw_75 (j : Int) (t : Nat) : (j : Rat) * tw (-1075) * 2 ^ (1075 + t) = ((j * ((2 ^ t : Nat) : Int) : Int) : Rat) := by
  have e : (2 : Rat) ^ (1075 + t) = tw ((1075 : Nat) : Int) * ((2 ^ t : Nat) : Rat) := by rw [Ea.cast_two, ← Ea.tw_nat, ← Ea.tw_nat, ← Ea.tw_add]; congr 1
  have e2 : tw (-1075) * tw ((1075 : Nat) : Int) = 1 := Ea.tw_neg ((1075 : Nat) : Int)
  rw [e, Rat.intCast_mul]
  show _ = (j : Rat) * ((2 ^ t : Nat) : Rat)
  have : (j : Rat) * tw (-1075) * (tw ((1075 : Nat) : Int) * ((2 ^ t : Nat) : Rat)) = (j : Rat) * ((2 ^ t : Nat) : Rat) * (tw (-1075) * tw ((1075 : Nat) : Int)) := by grind
  rw [this, e2, Rat.mul_one]
theorem rv_75 {d : D} {t : Nat} (h : 0 ≤ d.e + 1074 + t) : rv d * 2 ^ (1075 + t) = ((2 * d.vl (1074 + t) : Int) : Rat) := by
  have a := rv_vl d (T := 1074 + t) (by omega)
  have e : (2 : Rat) ^ (1075 + t) = 2 ^ (1074 + t) * 2 := by rw [show 1075 + t = (1074 + t) + 1 by omega, Rat.pow_succ]
  rw [e, Rat.intCast_mul, ← a]
  have e2 : ((2 : Int) : Rat) = 2 := rfl
  rw [e2]
  grind
/-- no number, and no middle of two, lies between: both are rounded to one -/
theorem same_between {L H : D} (hLH : rv L ≤ rv H) (hno : ∀ j : Int, ¬ (rv L ≤ (j : Rat) * tw (-1075) ∧ (j : Rat) * tw (-1075) ≤ rv H)) (mode : Int) : numR L mode = numR H mode ∧ numC L = true ∧ numC H = true := by
  obtain ⟨t, h1, h2⟩ := exT (L.e + 1074) (H.e + 1074)
  have a := rv_75 h1
  have b := rv_75 h2
  have hP := Ea.two_pos (1075 + t)
  have le2 : ∀ x y : Rat, x ≤ y → x * 2 ^ (1075 + t) ≤ y * 2 ^ (1075 + t) := fun x y h => Rat.mul_le_mul_of_nonneg_right h (Rat.le_of_lt hP)
  have le3 : ∀ x y : Rat, x * 2 ^ (1075 + t) ≤ y * 2 ^ (1075 + t) → x ≤ y := fun x y h => Rat.le_of_mul_le_mul_right h hP
  have hle : 2 * L.vl (1074 + t) ≤ 2 * H.vl (1074 + t) := by
    have := le2 _ _ hLH
    rw [a, b] at this
    exact Rat.intCast_le_intCast.1 this
  have hN : ∀ j : Int, ¬ (2 * L.vl (1074 + t) ≤ j * ((2 ^ t : Nat) : Int) ∧ j * ((2 ^ t : Nat) : Int) ≤ 2 * H.vl (1074 + t)) := by
    rintro j ⟨g1, g2⟩
    refine hno j ⟨le3 _ _ ?_, le3 _ _ ?_⟩
    · rw [a, tw_75]; exact Rat.intCast_le_intCast.2 g1
    · rw [b, tw_75]; exact Rat.intCast_le_intCast.2 g2
  have tL := tt_vl L t
  have tH := tt_vl H t
  have h0 := hN 0
  rw [Int.zero_mul] at h0
  have sgnd : ∀ d : D, d.vl (1074 + t) = if d.neg then -((tt t d.m d.e : Nat) : Int) else ((tt t d.m d.e : Nat) : Int) := fun d => by rw [← sg_vl]; rfl
  have sL := sgnd L
  have sH := sgnd H
  rcases (show 0 < L.vl (1074 + t) ∨ H.vl (1074 + t) < 0 by omega) with hp | hp
  · have n1 : L.neg = false := by
      cases hg : L.neg
      · rfl
      · rw [hg, if_pos rfl] at sL; omega
    have n2 : H.neg = false := by
      cases hg : H.neg
      · rfl
      · rw [hg, if_pos rfl] at sH; omega
    have key := numk_same (t := t) (m := L.m) (m' := H.m) (e := L.e) (e' := H.e) h1 h2 (by omega) (fun j => by
      have := hN (j : Int)
      rw [← Int.natCast_mul] at this
      omega) (kd false mode)
    unfold numR numC
    rw [n1, n2, key.1]
    exact ⟨rfl, key.2⟩
  · have n1 : L.neg = true := by
      cases hg : L.neg
      · rw [hg, if_neg (by decide)] at sL; omega
      · rfl
    have n2 : H.neg = true := by
      cases hg : H.neg
      · rw [hg, if_neg (by decide)] at sH; omega
      · rfl
    have key := numk_same (t := t) (m := H.m) (m' := L.m) (e := H.e) (e' := L.e) h2 h1 (by omega) (fun j => by
      have := hN (-(j : Int))
      rw [Int.neg_mul, ← Int.natCast_mul] at this
      omega) (kd true mode)
    unfold numR numC
    rw [n1, n2, key.1]
    exact ⟨rfl, key.2.2, key.2.1⟩
/-- a cut: what is no more than it, what is no less -/
structure Cut where
  lb : Rat → Prop
  ub : Rat → Prop
  le : ∀ a b, lb a → ub b → a ≤ b
/-- in this mode the number at the cut is rounded to r, and something is lost -/
def Rn (c : Cut) (mode r : Int) : Prop := ∃ L H : D, c.lb (rv L) ∧ c.ub (rv H) ∧ numR L mode = r ∧ numR H mode = r ∧ numC L = true ∧ numC H = true
theorem Rn.order {c c' : Cut} {mode r r' : Int} (h : ∀ a b, c.lb a → c'.ub b → a ≤ b) (h1 : Rn c mode r) (h2 : Rn c' mode r') : frank r ≤ frank r' := by
  obtain ⟨L, H, a1, -, a3, -⟩ := h1
  obtain ⟨L', H', -, b2, -, b4, -⟩ := h2
  rw [← a3, ← b4]
  exact rank_rv mode (h _ _ a1 b2)
theorem Rn.uniq {c : Cut} {mode r r' : Int} (h1 : Rn c mode r) (h2 : Rn c mode r') : r = r' := by
  have q1 := h1.order c.le h2
  have q2 := h2.order c.le h1
  obtain ⟨L, H, a1, a2, a3, a4, a5, a6⟩ := h1
  obtain ⟨L', H', b1, b2, b3, b4, b5, b6⟩ := h2
  rw [← a3, ← b3] at q1 q2 ⊢
  refine numR_inj ?_ (by omega)
  have s1 := numR_sign (a3.trans a4.symm)
  have s2 := numR_sign (b3.trans b4.symm)
  have x1 := c.le _ _ a1 b2
  have x2 := c.le _ _ b1 a2
  cases hg : L.neg
  · have := rv_of_pos hg (numC_m a5)
    rw [s2]
    exact (rv_gt (d := H') (by grind)).1.symm
  · have := rv_of_neg (s1 ▸ hg) (numC_m a6)
    exact (rv_lt (d := L') (by grind)).1.symm
theorem max_rv (L L' : D) : ∃ z, (z = L ∨ z = L') ∧ rv L ≤ rv z ∧ rv L' ≤ rv z := by
  rcases Rat.le_total (a := rv L) (b := rv L') with h | h
  · exact ⟨L', Or.inr rfl, h, Rat.le_refl⟩
  · exact ⟨L, Or.inl rfl, Rat.le_refl, h⟩
theorem min_rv (L L' : D) : ∃ z, (z = L ∨ z = L') ∧ rv z ≤ rv L ∧ rv z ≤ rv L' := by
  rcases Rat.le_total (a := rv L) (b := rv L') with h | h
  · exact ⟨L, Or.inl rfl, Rat.le_refl, h⟩
  · exact ⟨L', Or.inr rfl, h, Rat.le_refl⟩
/-- down, near and up -/
theorem Rn.sides {c : Cut} {lo ne hi : Int} (h1 : Rn c 2 lo) (h2 : Rn c 0 ne) (h3 : Rn c 1 hi) : frank hi = frank lo + 1 ∧ (ne = lo ∨ ne = hi) := by
  obtain ⟨L1, H1, a1, a2, a3, a4, a5, a6⟩ := h1
  obtain ⟨L2, H2, b1, b2, b3, b4, b5, b6⟩ := h2
  obtain ⟨L3, H3, c1, c2, c3, c4, c5, c6⟩ := h3
  obtain ⟨y, hy, y1, y2⟩ := max_rv L1 L2
  obtain ⟨z, hz, z1, z2⟩ := max_rv y L3
  have cy : numC y = true := by rcases hy with rfl | rfl <;> assumption
  have cz : numC z = true := by rcases hz with rfl | rfl <;> assumption
  have ly : c.lb (rv y) := by rcases hy with rfl | rfl <;> assumption
  have lz : c.lb (rv z) := by rcases hz with rfl | rfl <;> assumption
  have e1 := squeeze (z := z) (Rat.le_trans y1 z1) (c.le _ _ lz a2) (a3.trans a4.symm) a5 a6
  have e2 := squeeze (z := z) (Rat.le_trans y2 z1) (c.le _ _ lz b2) (b3.trans b4.symm) b5 b6
  have e3 := squeeze (z := z) z2 (c.le _ _ lz c2) (c3.trans c4.symm) c5 c6
  rw [a3] at e1
  rw [b3] at e2
  rw [c3] at e3
  rw [← e1, ← e2, ← e3, (rank_numR z 2).1, (rank_numR z 1).1]
  have hs := (numk_sides (m := z.m) (e := z.e) (kd z.neg 0)).2
  have hc := (numk_sides (m := z.m) (e := z.e) 0).1 cz
  unfold rg numR
  cases hg : z.neg
  · rw [hg] at hs
    have k1 : kd false 2 = 0 := by decide
    have k2 : kd false 1 = 1 := by decide
    simp only [k1, k2, Bool.false_eq_true, if_false]
    refine ⟨by omega, ?_⟩
    rcases hs with hs | hs <;> rw [hs]
    · exact Or.inl rfl
    · exact Or.inr rfl
  · rw [hg] at hs
    have k1 : kd true 2 = 1 := by decide
    have k2 : kd true 1 = 0 := by decide
    simp only [k1, k2, if_true]
    refine ⟨by omega, ?_⟩
    rcases hs with hs | hs <;> rw [hs]
    · exact Or.inr rfl
    · exact Or.inl rfl
/-- where near and away are not the same, it is a middle -/
theorem mid_val {d : D} (h : numR d 0 ≠ numR d 4) : rv d = (((if d.neg then -((mag (numk 3 d.m d.e - 1) + mag (numk 3 d.m d.e) : Nat) : Int) else ((mag (numk 3 d.m d.e - 1) + mag (numk 3 d.m d.e) : Nat) : Int)) : Int) : Rat) * tw (-1075) := by
  obtain ⟨t, h1, -⟩ := exT (d.e + 1074) (d.e + 1074)
  have hne : numk 2 d.m d.e ≠ numk 3 d.m d.e := by
    intro e
    apply h
    unfold numR
    have k1 : kd d.neg 0 = 2 := by cases d.neg <;> decide
    have k2 : kd d.neg 4 = 3 := by cases d.neg <;> decide
    rw [k1, k2, e]
  have p3 := (numk_iff h1 3 _).1 (Nat.le_refl (numk 3 d.m d.e))
  have p2 := (numk_iff h1 2 _).1 (Nat.le_refl (numk 2 d.m d.e))
  have hle : numk 2 d.m d.e ≤ numk 3 d.m d.e := by
    rw [numk_iff h1 3]
    simp only [Pk] at p2 ⊢
    omega
  have n2 : ¬ Pk 2 t (tt t d.m d.e) (numk 3 d.m d.e) := fun e => by
    have := (numk_iff h1 2 _).2 e
    omega
  generalize numk 3 d.m d.e = n at *
  have key : (mag (n - 1) + mag n) * 2 ^ t = 2 * tt t d.m d.e := by
    simp only [Pk] at p3 n2
    omega
  have hP := Ea.two_pos (1075 + t)
  have a := rv_75 h1
  have sd : d.vl (1074 + t) = if d.neg then -((tt t d.m d.e : Nat) : Int) else ((tt t d.m d.e : Nat) : Int) := by rw [← sg_vl]; rfl
  have e : rv d * 2 ^ (1075 + t) = (((if d.neg then -((mag (n - 1) + mag n : Nat) : Int) else ((mag (n - 1) + mag n : Nat) : Int)) : Int) : Rat) * tw (-1075) * 2 ^ (1075 + t) := by
    rw [a, tw_75, sd]
    congr 1
    cases d.neg
    · simp only [Bool.false_eq_true, if_false]; rw [← Int.natCast_mul]; omega
    · simp only [if_true]; rw [Int.neg_mul, ← Int.natCast_mul]; omega
  have : (rv d - (((if d.neg then -((mag (n - 1) + mag n : Nat) : Int) else ((mag (n - 1) + mag n : Nat) : Int)) : Int) : Rat) * tw (-1075)) * 2 ^ (1075 + t) = 0 := by grind
  rcases Rat.mul_eq_zero.1 this with h | h <;> grind
/-- no number, and no middle, is met: near or away is the same -/
theorem Rn.lind {c : Cut} {a b : Int} (hno : ∀ j : Int, ¬ (c.lb ((j : Rat) * tw (-1075)) ∧ c.ub ((j : Rat) * tw (-1075)))) (h1 : Rn c 0 a) (h2 : Rn c 4 b) : a = b := by
  obtain ⟨L1, H1, a1, a2, a3, a4, a5, a6⟩ := h1
  obtain ⟨L2, H2, b1, b2, b3, b4, b5, b6⟩ := h2
  obtain ⟨y, hy, y1, y2⟩ := max_rv L1 L2
  obtain ⟨z, hz, z1, z2⟩ := min_rv H1 H2
  have ly : c.lb (rv y) := by rcases hy with rfl | rfl <;> assumption
  have uz : c.ub (rv z) := by rcases hz with rfl | rfl <;> assumption
  have hyz := c.le _ _ ly uz
  have e1 := squeeze (z := y) y1 (Rat.le_trans hyz z1) (a3.trans a4.symm) a5 a6
  have e2 := squeeze (z := y) y2 (Rat.le_trans hyz z2) (b3.trans b4.symm) b5 b6
  have f1 := squeeze (z := z) (Rat.le_trans y1 hyz) z1 (a3.trans a4.symm) a5 a6
  have f2 := squeeze (z := z) (Rat.le_trans y2 hyz) z2 (b3.trans b4.symm) b5 b6
  refine Decidable.byContradiction fun hne => ?_
  have m1 := mid_val (d := y) (by rw [e1, e2, a3, b3]; exact hne)
  have m2 := mid_val (d := z) (by rw [f1, f2, a3, b3]; exact hne)
  have s := numR_sign (f2.trans e2.symm)
  have k : numk 3 z.m z.e = numk 3 y.m y.e := by
    have := f2.trans e2.symm
    unfold numR at this
    have k1 : ∀ g, kd g 4 = 3 := by intro g; cases g <;> decide
    rw [k1, k1, s] at this
    omega
  rw [s, k, ← m1] at m2
  rw [m2] at uz
  rw [m1] at ly uz
  exact hno _ ⟨ly, uz⟩
/-- the value of what is rounded down is no more, that of what is rounded up no less -/
theorem down_le {d : D} (hv : fabs (numR d 2) < 9218868437227405312) : rv (valD (numR d 2)) ≤ rv d := by
  obtain ⟨t, h1, -⟩ := exT (d.e + 1074) (d.e + 1074)
  have hb : 0 ≤ numR d 2 ∧ numR d 2 ≤ 18446744073709551615 := by
    have h := numk_le_MR (kd d.neg 2) d.m d.e
    have hMR : MR = 9218868437227405312 := rfl
    unfold numR; split <;> omega
  have hf := fng_numR d 2
  have hval := valD_vl _ hb.1 hb.2 hv t
  have hmr : (fabs (numR d 2)).toNat < 9218868437227405312 := by omega
  rw [hf.1, hf.2] at hval
  rw [hf.1] at hmr
  have he := (valD_facts _ hb.1 hb.2).2.2.1
  rw [← rv_le, cmp_le (T := 1074 + t) (by omega) (by omega), hval, ← sg_vl]
  unfold sg
  cases hg : d.neg
  · rw [hg] at hmr
    simp only [Bool.false_eq_true, if_false]
    have k1 : kd false 2 = 0 := by decide
    rw [k1] at hmr ⊢
    have := (numk_iff h1 0 _).1 (Nat.le_refl (numk 0 d.m d.e))
    simp only [Pk] at this
    omega
  · rw [hg] at hmr
    simp only [if_true]
    have k1 : kd true 2 = 1 := by decide
    rw [k1] at hmr ⊢
    have hn : ¬ Pk 1 t (tt t d.m d.e) (numk 1 d.m d.e + 1) := fun e => by
      have := (numk_iff h1 1 _).2 e
      omega
    have hMR : MR = 9218868437227405312 := rfl
    simp only [Pk, Nat.add_sub_cancel] at hn
    omega
theorem up_ge {d : D} (hv : fabs (numR d 1) < 9218868437227405312) : rv d ≤ rv (valD (numR d 1)) := by
  obtain ⟨t, h1, -⟩ := exT (d.e + 1074) (d.e + 1074)
  have hb : 0 ≤ numR d 1 ∧ numR d 1 ≤ 18446744073709551615 := by
    have h := numk_le_MR (kd d.neg 1) d.m d.e
    have hMR : MR = 9218868437227405312 := rfl
    unfold numR; split <;> omega
  have hf := fng_numR d 1
  have hval := valD_vl _ hb.1 hb.2 hv t
  have hmr : (fabs (numR d 1)).toNat < 9218868437227405312 := by omega
  rw [hf.1, hf.2] at hval
  rw [hf.1] at hmr
  have he := (valD_facts _ hb.1 hb.2).2.2.1
  rw [← rv_le, cmp_le (T := 1074 + t) (by omega) (by omega), hval, ← sg_vl]
  unfold sg
  cases hg : d.neg
  · rw [hg] at hmr
    simp only [Bool.false_eq_true, if_false]
    have k1 : kd false 1 = 1 := by decide
    rw [k1] at hmr ⊢
    have hn : ¬ Pk 1 t (tt t d.m d.e) (numk 1 d.m d.e + 1) := fun e => by
      have := (numk_iff h1 1 _).2 e
      omega
    have hMR : MR = 9218868437227405312 := rfl
    simp only [Pk, Nat.add_sub_cancel] at hn
    omega
  · rw [hg] at hmr
    simp only [if_true]
    have k1 : kd true 1 = 0 := by decide
    rw [k1] at hmr ⊢
    have := (numk_iff h1 0 _).1 (Nat.le_refl (numk 0 d.m d.e))
    simp only [Pk] at this
    omega
/-- the rank of a number is that of its value -/
theorem rank_val {x : Int} (x0 : 0 ≤ x) (x1 : x ≤ 18446744073709551615) (hx : fabs x < 9218868437227405312) (mode : Int) : frank (numR (valD x) mode) = frank x := by
  rcases (valD_num x x0 x1 hx mode).2 with h | ⟨h, h'⟩
  · rw [h]
  · rw [h', h]; decide
theorem val_rank {x y : Int} (x0 : 0 ≤ x) (x1 : x ≤ 18446744073709551615) (y0 : 0 ≤ y) (y1 : y ≤ 18446744073709551615) (hx : fabs x < 9218868437227405312) (hy : fabs y < 9218868437227405312) : rv (valD x) ≤ rv (valD y) ↔ frank x ≤ frank y := by
  constructor
  · intro h
    have := rank_rv 0 h
    rwa [rank_val x0 x1 hx, rank_val y0 y1 hy] at this
  · intro h
    have ex := (valD_facts _ x0 x1).2.2.1
    have ey := (valD_facts _ y0 y1).2.2.1
    have vx := valD_vl x x0 x1 hx 0
    have vy := valD_vl y y0 y1 hy 0
    rw [← rv_le, cmp_le (T := 1074 + 0) (by omega) (by omega), vx, vy]
    have bx := fabs_bd x
    have bY := fabs_bd y
    have f : ∀ v : Int, fabs v < 9218868437227405312 → frank v = if 9223372036854775808 ≤ v then -fabs v else fabs v := fun v hv => by unfold frank; rw [if_neg (by omega)]
    rw [f x hx, f y hy] at h
    clear f vx vy ex ey
    unfold fng
    simp only [decide_eq_true_eq, Nat.pow_zero, Nat.mul_one]
    split at h <;> split at h
    · rename_i a b; rw [if_pos a, if_pos b]
      have := @mag_mono (fabs y).toNat (fabs x).toNat (by omega); omega
    · rename_i a b; rw [if_pos a, if_neg b]; omega
    · rename_i a b; rw [if_neg a, if_pos b]
      rw [show (fabs x).toNat = 0 by omega, show (fabs y).toNat = 0 by omega, mag_zero]; decide
    · rename_i a b; rw [if_neg a, if_neg b]
      have := @mag_mono (fabs x).toNat (fabs y).toNat (by omega); omega
end Go.Proofs.YtmpdbmaokbhcjaaDoor

/-
  PLAIN: the cuts of expo, and what bounds of them must say.
-/
namespace Go.Proofs.YtmpdbmaokbhcjaaDoor
open Go.RowKit Nt Fm Fl
open Ea (tw PB Lo Hi Away sepE Lg)

/-- e to x -/
def cutE (x : Rat) : Cut := ⟨Lo x, Hi x, fun a b h1 h2 => Ea.lo_hi h1 h2⟩
/-- .. less 1 -/
def cutX (x : Rat) : Cut := ⟨fun a => Lo x (a + 1), fun b => Hi x (b + 1), fun a b h1 h2 => by have := Ea.lo_hi h1 h2; grind⟩
/-- the logarithm of A -/
def cutL (A : Rat) : Cut := ⟨fun a => Hi a A, fun b => Lo b A, fun a b h1 h2 => by
  refine Rat.not_lt.1 fun e => ?_
  have := Ea.lo_hi_lt e h1.pos h2 h1
  grind⟩
/-- bounds of a cut with p places -/
def BR (c : Cut) (p : Nat) (C E : D) : Prop := ∃ K : Nat, K ≤ 16000000000000 ∧ C.m < 2 ^ K ∧ E.m < 2 ^ K ∧ -16000000000000 ≤ C.e ∧ C.e ≤ 16000000000000 ∧ -16000000000000 ≤ E.e ∧ E.e ≤ 16000000000000 ∧
  (C.m = 0 → C.e ≤ 1000) ∧ (E.m = 0 → E.e ≤ 1000) ∧ c.lb (rv C) ∧ c.ub (rv E) ∧ (PB ≤ p → ∀ mode, numR C mode = numR E mode ∧ numC C = true ∧ numC E = true)
/-- no multiple lies between near bounds of e to x -/
theorem ends_exp {x t ε l h : Rat} (hl : Lo x l) (hh : Hi x h) (hw : h < l + ε) (hs : Away x t ε) : ¬ (l ≤ t ∧ t ≤ h) := by
  rintro ⟨a, b⟩
  rcases hs with hs | hs
  · have := Ea.lo_hi hs hh; grind
  · have := Ea.lo_hi hl hs; grind
theorem away_no {x t ε : Rat} (h0 : 0 < ε) (hs : Away x t ε) : ¬ (Lo x t ∧ Hi x t) := by
  rintro ⟨a, b⟩
  rcases hs with hs | hs
  · have := Ea.lo_hi hs b; grind
  · have := Ea.lo_hi a hs; grind
theorem away_noL {x t ε : Rat} (h0 : 0 < ε) (hs : Away t x ε) : ¬ (Hi t x ∧ Lo t x) := by
  rintro ⟨a, b⟩
  rcases hs with hs | hs
  · have := Ea.lo_hi hs a; grind
  · have := Ea.lo_hi b hs; grind
theorem nf_z {d : D} (h : d.Nf) : d.m = 0 → d.e ≤ 1000 := by
  intro hm
  rcases h with h | h
  · rw [h]; decide
  · omega
theorem tw_1075 (j : Int) : (j : Rat) * tw (-((1075 : Nat) : Int)) = (j : Rat) * tw (-1075) := rfl
theorem one_75 : ((((2 ^ 1075 : Nat) : Int)) : Rat) * tw (-1075) = 1 := by
  show ((2 ^ 1075 : Nat) : Rat) * _ = 1
  rw [Ea.cast_two 1075, ← Ea.tw_nat]
  exact Ea.one_tw ((1075 : Nat) : Int)
/-- e to an exact number is far from each number and each middle -/
theorem far_exp {d : D} (hm0 : d.m ≠ 0) (hm : d.m < 2 ^ 1280) (he : -19000 ≤ d.e) (hx : (d.m : Rat) * tw d.e ≤ 2048) (j : Int) : Away (rv d) ((j : Rat) * tw (-1075)) sepE := by
  have := Ea.sep_num (pl := 1075) (by omega) hm he hx (by decide) j
  rw [tw_1075] at this
  obtain ⟨g, m, e⟩ := d
  cases g
  · rw [rv_pos]; exact this.1
  · rw [rv_neg]; exact this.2
theorem far_log {d : D} (h0 : 0 < rv d) (hm : d.m < 2 ^ 1280) (he : -3000 ≤ d.e) (he1 : d.e ≤ 3000) (h1 : rv d ≠ 1) (j : Int) : Away ((j : Rat) * tw (-1075)) (rv d) sepE := by
  obtain ⟨hn, hm0⟩ := rv_gt h0
  have hv : rv d = (d.m : Rat) * tw d.e := by unfold rv D.sm; rw [hn]; rfl
  rw [hv] at h1 ⊢
  exact Ea.sep_lg (pl := 1075) (by omega) hm he he1 h1 (by decide) j
theorem noE {d : D} (hm0 : d.m ≠ 0) (hm : d.m < 2 ^ 1280) (he : -19000 ≤ d.e) (hx : (d.m : Rat) * tw d.e ≤ 2048) (j : Int) : ¬ ((cutE (rv d)).lb ((j : Rat) * tw (-1075)) ∧ (cutE (rv d)).ub ((j : Rat) * tw (-1075))) :=
  away_no Ea.sepE_pos (far_exp hm0 hm he hx j)
theorem plus_one (j : Int) : (j : Rat) * tw (-1075) + 1 = ((j + ((2 ^ 1075 : Nat) : Int) : Int) : Rat) * tw (-1075) := by
  rw [Rat.intCast_add, Rat.add_mul, one_75]
theorem noM {d : D} (hm0 : d.m ≠ 0) (hm : d.m < 2 ^ 1280) (he : -19000 ≤ d.e) (hx : (d.m : Rat) * tw d.e ≤ 2048) (j : Int) : ¬ ((cutX (rv d)).lb ((j : Rat) * tw (-1075)) ∧ (cutX (rv d)).ub ((j : Rat) * tw (-1075))) := by
  show ¬ (Lo (rv d) ((j : Rat) * tw (-1075) + 1) ∧ Hi (rv d) ((j : Rat) * tw (-1075) + 1))
  rw [plus_one]
  exact noE hm0 hm he hx _
theorem noL {d : D} (h0 : 0 < rv d) (hm : d.m < 2 ^ 1280) (he : -3000 ≤ d.e) (he1 : d.e ≤ 3000) (h1 : rv d ≠ 1) (j : Int) : ¬ ((cutL (rv d)).lb ((j : Rat) * tw (-1075)) ∧ (cutL (rv d)).ub ((j : Rat) * tw (-1075))) :=
  away_noL Ea.sepE_pos (far_log h0 hm he he1 h1 j)
theorem good_lo {x : Rat} {p : Nat} {y : Ea.Pr} (h : Ea.Good x p y) : Lo x (rv (norm false y.l (-(p : Int)))) ∧ Hi x (rv (norm false y.h (-(p : Int)))) := by
  rw [rv_norm, rv_norm, rv_pos, rv_pos, over_tw, over_tw]
  exact ⟨h.lo, h.hi⟩
theorem norm_near {p w : Nat} {y : Ea.Pr} (hw : y.h ≤ y.l + w) (hl : y.l ≤ y.h) (hW : (w : Rat) < sepE * 2 ^ p) : rv (norm false y.h (-(p : Int))) < rv (norm false y.l (-(p : Int))) + sepE ∧ rv (norm false y.l (-(p : Int))) ≤ rv (norm false y.h (-(p : Int))) := by
  rw [rv_norm, rv_norm, rv_pos, rv_pos]
  have hP := Ea.two_pos p
  have e : tw (-(p : Int)) * 2 ^ p = 1 := by rw [← Ea.tw_nat, Ea.tw_neg]
  have ht := Ea.tw_pos (-(p : Int))
  have h1 : (y.h : Rat) ≤ (y.l : Rat) + (w : Rat) := by rw [← Rat.natCast_add]; exact Rat.natCast_le_natCast.2 hw
  have h2 : (y.l : Rat) ≤ (y.h : Rat) := Rat.natCast_le_natCast.2 hl
  have g1 := Rat.mul_le_mul_of_nonneg_right h1 (Rat.le_of_lt ht)
  have g2 := Rat.mul_le_mul_of_nonneg_right h2 (Rat.le_of_lt ht)
  have g3 := Rat.mul_lt_mul_of_pos_right hW ht
  have g4 : sepE * 2 ^ p * tw (-(p : Int)) = sepE := by
    rw [Rat.mul_assoc, Rat.mul_comm (2 ^ p), e, Rat.mul_one]
  rw [g4] at g3
  grind
/-- the bounds of e to an exact number are near enough -/
theorem brE {d : D} {p Q k s : Nat} (hm0 : d.m ≠ 0) (hm : d.m < 2 ^ 1280) (he : -19000 ≤ d.e) (hx : (d.m : Rat) * tw d.e ≤ 2048) (hs : (s : Int) = max 0 (blen d.m + d.e + 16)) (hs1 : s ≤ 27)
    (hQ : 256 ≤ Q) (hQ2 : Q ≤ 9000000000000) (hpQ : p ≤ Q) (hk : k ≤ Q) (hend : (Ea.tmP (Ea.fixedP d.m (d.e - s) Q) Q k).h ≤ 1) :
    BR (cutE (rv d)) p (norm false (ebP d.neg d.m d.e Q k s).l (-(Q : Int))) (norm false (ebP d.neg d.m d.e Q k s).h (-(Q : Int))) := by
  obtain ⟨o1, o2, o3, o4⟩ := ebP_ok (neg := d.neg) (k := k) (p := Q) (blen_lt2 d.m) (show ((blen d.m : Nat) : Int) + d.e - s ≤ -16 by omega) (by omega) hk hend
  have h2s : 2 ^ s ≤ 134217728 := Nat.pow_le_pow_right (show 0 < 2 by decide) hs1
  have hg := good_lo o1
  have ee : d = ⟨d.neg, d.m, d.e⟩ := rfl
  have bd := fun n (hn : n < 2 ^ (Q + 3 * 2 ^ s + 1)) => (show (norm false n (-(Q : Int))).m < 2 ^ (Q + 3 * 2 ^ s + 1) ∧ -(Q : Int) ≤ (norm false n (-(Q : Int))).e ∧ (norm false n (-(Q : Int))).e ≤ ((Q + 3 * 2 ^ s + 1 : Nat) : Int) from bd_of_vl (norm_nf _ _ _) (norm_eP _ _) (by rw [norm_vlP]; simpa using hn))
  have b1 := bd _ (Nat.lt_of_le_of_lt o2 o4)
  have b2 := bd _ o4
  refine ⟨Q + 3 * 2 ^ s + 1, by omega, b1.1, b2.1, by omega, by omega, by omega, by omega, nf_z (norm_nf _ _ _), nf_z (norm_nf _ _ _), hg.1, hg.2, fun hp mode => ?_⟩
  have hw := norm_near o3 o2 (Ea.ww_small hk hs1 (show PB ≤ Q by omega) (by omega))
  exact same_between hw.2 (fun j => ends_exp hg.1 hg.2 hw.1 (far_exp hm0 hm he hx j)) mode
/-- .. less 1 -/
theorem brM {d : D} {p k s : Nat} (hm0 : d.m ≠ 0) (hm : d.m < 2 ^ 1280) (he : -19000 ≤ d.e) (hx : (d.m : Rat) * tw d.e ≤ 2048) (hs : (s : Int) = max 0 (blen d.m + d.e + 16)) (hs1 : s ≤ 27)
    (hp : 256 ≤ p) (hp2 : p ≤ 9000000000000) (hk : k ≤ p) (hend : (Ea.tmP (Ea.fixedP d.m (d.e - s) p) p k).h ≤ 1) :
    BR (cutX (rv d)) p (plus (norm false (ebP d.neg d.m d.e p k s).l (-(p : Int))) (opp (norm false 1 0))) (plus (norm false (ebP d.neg d.m d.e p k s).h (-(p : Int))) (opp (norm false 1 0))) := by
  obtain ⟨o1, o2, o3, o4⟩ := ebP_ok (neg := d.neg) (k := k) (p := p) (blen_lt2 d.m) (show ((blen d.m : Nat) : Int) + d.e - s ≤ -16 by omega) (by omega) hk hend
  have h2s : 2 ^ s ≤ 134217728 := Nat.pow_le_pow_right (show 0 < 2 by decide) hs1
  have hg := good_lo o1
  have hv1 : rv (opp (norm false 1 0)) = -1 := by
    rw [rv_opp, rv_norm, rv_pos, Ea.tw_zero, Rat.mul_one]; rfl
  have e1 : 0 ≤ (opp (norm false 1 0)).e + (p : Int) := by
    have : (norm false 1 0).e = 0 := by decide +kernel
    show 0 ≤ (norm false 1 0).e + (p : Int)
    omega
  have h2p : 2 ^ p ≤ 2 ^ (p + 3 * 2 ^ s + 1) := Nat.pow_le_pow_right (by decide) (by omega)
  have v1 : (opp (norm false 1 0)).vl p = -((2 ^ p : Nat) : Int) := by
    rw [opp_vl, norm_vl _ _ _ _ (by omega)]
    unfold D.vl D.sm
    simp only [Bool.false_eq_true, if_false]
    rw [show ((0 : Int) + (p : Int)).toNat = p by omega]
    simp
  have bd := fun n (hn : n < 2 ^ (p + 3 * 2 ^ s + 1)) => (show (plus (norm false n (-(p : Int))) (opp (norm false 1 0))).m < 2 ^ (p + 3 * 2 ^ s + 2) ∧ -(p : Int) ≤ (plus (norm false n (-(p : Int))) (opp (norm false 1 0))).e ∧ (plus (norm false n (-(p : Int))) (opp (norm false 1 0))).e ≤ ((p + 3 * 2 ^ s + 2 : Nat) : Int) from by
    refine bd_of_vl (plus_Nf _ _) (plus_eP (norm_eP _ _) (by omega)) ?_
    rw [plus_vl _ _ _ (by have := norm_eP n p; omega) e1, norm_vlP, v1, show p + 3 * 2 ^ s + 2 = (p + 3 * 2 ^ s + 1) + 1 by omega, Nat.pow_succ]
    generalize 2 ^ (p + 3 * 2 ^ s + 1) = A at *
    generalize 2 ^ p = B at *
    omega)
  have b1 := bd _ (Nat.lt_of_le_of_lt o2 o4)
  have b2 := bd _ o4
  have hlb : ∀ z : D, rv (plus z (opp (norm false 1 0))) = rv z - 1 := fun z => by rw [rv_plus, hv1]; grind
  have ba : ∀ z : Rat, z - 1 + 1 = z := fun z => by grind
  refine ⟨p + 3 * 2 ^ s + 2, by omega, b1.1, b2.1, by omega, by omega, by omega, by omega, nf_z (plus_Nf _ _), nf_z (plus_Nf _ _), ?_, ?_, fun hpp mode => ?_⟩
  · show Lo (rv d) (_ + 1)
    rw [hlb, ba]; exact hg.1
  · show Hi (rv d) (_ + 1)
    rw [hlb, ba]; exact hg.2
  have hw := norm_near o3 o2 (Ea.ww_small hk hs1 (show PB ≤ p by omega) (by omega))
  refine same_between ?_ (fun j => ?_) mode
  · rw [hlb, hlb]; grind
  · rw [hlb, hlb]
    rintro ⟨a, b⟩
    refine ends_exp hg.1 hg.2 hw.1 (far_exp hm0 hm he hx (j + ((2 ^ 1075 : Nat) : Int))) ?_
    rw [← plus_one]
    constructor <;> grind
/-- the bounds of a logarithm -/
theorem brL {d : D} {p k j : Nat} (h0 : 0 < rv d) (hm : d.m < 2 ^ 1280) (he : -3000 ≤ d.e) (he1 : d.e ≤ 3000) (h1 : rv d ≠ 1) (hp : 4 ≤ p) (hp2 : p ≤ 9000000000000) (hk : k ≤ p) (hj : j ≤ p)
    (hend : (Ea.pwP (Ea.qP (lgU d.m) (d.m + lgO d.m) p) p k).h ≤ 1) (hend2 : (Ea.pwP (Ea.qP 1 3 p) p j).h ≤ 1) : BR (cutL (rv d)) p (lbL d.m d.e p k j) (lbH d.m d.e p k j) := by
  obtain ⟨hn, hm0⟩ := rv_gt h0
  have hv : rv d = (d.m : Rat) * tw d.e := by unfold rv D.sm; rw [hn]; rfl
  have hN := lgN_bd hm0 hm he he1
  obtain ⟨b1, b2⟩ := lb_bds (e := d.e) hm0 hp hk hj hend hend2 hN
  obtain ⟨o1, o2⟩ := lb_ok (e := d.e) hm0 hp hk hj hend hend2
  rw [← hv] at o1
  refine ⟨p + 24 + 1, by omega, b1.2.1, b2.2.1, by omega, by omega, by omega, by omega, nf_z b1.1, nf_z b2.1, o1.1, o1.2, fun hpp mode => ?_⟩
  have hw := lw_small hk hj hN hpp (by omega)
  have w0 : 0 ≤ ((10 + 6 * k + (10 + 6 * j) * (lgN d.m d.e).natAbs : Nat) : Rat) / 2 ^ p := by
    rw [Ea.le_div (Ea.two_pos p), Rat.zero_mul]; exact Rat.natCast_nonneg
  have hA : rv d ≤ tw ((4280 : Nat) : Int) := by
    rw [hv]
    have h2 : (d.m : Rat) ≤ tw ((1280 : Nat) : Int) := by rw [Ea.tw_nat, ← Ea.cast_two]; exact Rat.natCast_le_natCast.2 (Nat.le_of_lt hm)
    have h1 := Rat.mul_le_mul_of_nonneg_right h2 (Rat.le_of_lt (Ea.tw_pos d.e))
    rw [← Ea.tw_add] at h1
    exact Rat.le_trans h1 (Ea.tw_le (by omega))
  exact same_between ((cutL (rv d)).le _ _ o1.1 o1.2) (fun i => fun hh => Ea.lg_apart o1 o2 hw w0 hA (far_log h0 hm he he1 h1 i) hh.1 hh.2) mode
end Go.Proofs.YtmpdbmaokbhcjaaDoor
