/-
  SOME OF MY TEXTS in one: Prp Prq Prr Prs Srl Srw. Each says what it proves.
-/
import Derived.Test.YtmpdbmaokbhcjaaDoorPcs
import Derived.Test.YtmpdbmaokbhcjaaDoorPri
import Derived.Test.YtmpdbmaokbhcjaaDoorBh
set_option linter.unusedVariables false
set_option linter.unusedSimpArgs false
/-
  THE WALK of series.Log's closure.
-/
namespace Go.Proofs.YtmpdbmaokbhcjaaDoor
open Go.RowKit Nt Fm
open Ea (Pr qP pwP atP)

end Go.Proofs.YtmpdbmaokbhcjaaDoor

/-
  PLAIN: the bounds of a logarithm, rounded down.
-/
namespace Go.Proofs.YtmpdbmaokbhcjaaDoor
open Go.RowKit Nt Fm
open Ea (Pr qP pwP atP tw PB Lg IsLg sepE Away)

theorem rv_sLo (x : Pr) (g : Bool) (p : Nat) : rv (sLo x g p) = if g then -((x.h : Rat) / 2 ^ p) else (x.l : Rat) / 2 ^ p := by
  unfold sLo
  cases g
  · simp only [Bool.false_eq_true, if_false]
    rw [rv_norm, rv_pos, over_tw]
  · simp only [if_true]
    rw [rv_opp, rv_norm, rv_pos, over_tw]
theorem rv_sHi (x : Pr) (g : Bool) (p : Nat) : rv (sHi x g p) = if g then -((x.l : Rat) / 2 ^ p) else (x.h : Rat) / 2 ^ p := rv_sLo ⟨x.h, x.l⟩ g p
theorem lg_turn {x : Pr} {p : Nat} {a b : Rat} (ha : 0 < a) (hb : 0 < b) (g : Bool) (h : Lg (if g then b / a else a / b) ((x.l : Rat) / 2 ^ p) ((x.h : Rat) / 2 ^ p)) : Lg (a / b) (rv (sLo x g p)) (rv (sHi x g p)) := by
  rw [rv_sLo, rv_sHi]
  cases g
  · exact h
  · simp only [if_true] at h ⊢
    have := h.inv
    have e : 1 / (b / a) = a / b := by
      have h1 : b / a * a = b := Rat.div_mul_cancel (Rat.ne_of_gt ha)
      have h2 : a / b * b = a := Rat.div_mul_cancel (Rat.ne_of_gt hb)
      have hr : 0 < b / a := by rw [Rat.lt_div_iff ha]; grind
      have h3 := Ea.one_div_mul hr
      generalize b / a = r at *
      generalize 1 / r = x at *
      generalize a / b = y at *
      have h4 : (x - y) * b = 0 := by
        have : x * b = x * r * a := by grind
        grind
      rcases Rat.mul_eq_zero.1 h4 with h | h <;> grind
    rwa [e] at this
theorem s_near {x : Pr} {g : Bool} {p n : Nat} (h : x.h ≤ x.l + n) : rv (sHi x g p) ≤ rv (sLo x g p) + (n : Rat) / 2 ^ p := by
  rw [rv_sLo, rv_sHi]
  have hP := Ea.two_pos p
  have h2 : (x.h : Rat) / 2 ^ p ≤ (x.l : Rat) / 2 ^ p + (n : Rat) / 2 ^ p := by
    rw [Ea.div_le hP, Rat.add_mul, Rat.div_mul_cancel (Rat.ne_of_gt hP), Rat.div_mul_cancel (Rat.ne_of_gt hP), ← Rat.natCast_add]
    exact Rat.natCast_le_natCast.2 h
  cases g
  · exact h2
  · simp only [if_true]
    grind
/-- the power of two in the one of both -/
def lgF (m : Nat) : Nat := if lgB m then blen m - 1 + 1 else blen m - 1
theorem lgO_F (m : Nat) : lgO m = 2 ^ lgF m := by
  unfold lgO lgF
  cases lgB m
  · rfl
  · simp only [if_true]; rw [Nat.pow_succ]; omega
theorem lgN_F {m : Nat} (e : Int) (hm : m ≠ 0) : lgN m e = e + (lgF m : Int) := by
  have := bl_pos hm
  have h2 : 0 < blen m := this
  unfold lgN lgF
  cases lgB m
  · simp only [Bool.false_eq_true, if_false]; omega
  · simp only [if_true]; omega
theorem lb_ok {m p k j : Nat} {e : Int} (hm0 : m ≠ 0) (hp : 4 ≤ p) (hk : k ≤ p) (hj : j ≤ p) (hend : (pwP (qP (lgU m) (m + lgO m) p) p k).h ≤ 1) (hend2 : (pwP (qP 1 3 p) p j).h ≤ 1) :
    Lg ((m : Rat) * tw e) (rv (lbL m e p k j)) (rv (lbH m e p k j)) ∧ rv (lbH m e p k j) ≤ rv (lbL m e p k j) + ((10 + 6 * k + (10 + 6 * j) * (lgN m e).natAbs : Nat) : Rat) / 2 ^ p := by
  obtain ⟨O0, O3, O2, OG1, OG2⟩ := lg_facts hm0
  have hmr : (0 : Rat) < (m : Rat) := Rat.natCast_pos.2 (by omega)
  have hOr : (0 : Rat) < (lgO m : Rat) := Rat.natCast_pos.2 O0
  have hden : 0 < m + lgO m := by omega
  have hdr : (0 : Rat) < ((m + lgO m : Nat) : Rat) := Rat.natCast_pos.2 hden
  have hP := Ea.two_pos p
  -- the first one
  have w1 := (Ea.at_ok (x := (lgU m : Rat) / ((m + lgO m : Nat) : Rat)) hden O3 hp hk hend (Rat.div_mul_cancel (Rat.ne_of_gt hdr))).2.2.2.1
  have w2 := (Ea.at_ok (num := 1) (den := 3) (x := ((1 : Nat) : Rat) / ((3 : Nat) : Rat)) (by decide) (by decide) hp hj hend2 (Rat.div_mul_cancel (by decide))).2.2.2.1
  have L1 : Lg ((m : Rat) / (lgO m : Rat)) (rv (sLo (atP (lgU m) (m + lgO m) p k) (lgG m) p)) (rv (sHi (atP (lgU m) (m + lgO m) p k) (lgG m) p)) := by
    refine lg_turn hmr hOr _ ?_
    cases hg : lgG m
    · have := OG2 hg
      have hU : lgU m = m - lgO m := by unfold lgU; rw [hg]; rfl
      simp only [Bool.false_eq_true, if_false]
      exact Ea.at_lg hden O3 hp hk hend O0 (by omega) (by omega)
    · have := OG1 hg
      have hU : lgU m = lgO m - m := by unfold lgU; rw [hg]; rfl
      simp only [if_true]
      exact Ea.at_lg hden O3 hp hk hend (by omega) (by omega) (by omega)
  -- the second one
  have L2 := Ea.at_lg (num := 1) (den := 3) (a := 2) (b := 1) (by decide) (by decide) hp hj hend2 (by decide) (by decide) (by decide)
  have e21 : ((2 : Nat) : Rat) / ((1 : Nat) : Rat) = 2 := by decide +kernel
  rw [e21] at L2
  have L3 := L2.pow (lgN m e).natAbs
  have e22 : (2 : Rat) ^ (lgN m e).natAbs = tw (((lgN m e).natAbs : Nat) : Int) := (Ea.tw_nat _).symm
  rw [e22] at L3
  have eq1 : ∀ n : Nat, ((lgN m e).natAbs : Rat) * ((n : Rat) / 2 ^ p) = ((n * (lgN m e).natAbs : Nat) : Rat) / 2 ^ p := by
    intro n
    rw [← over_tw, ← over_tw, Rat.natCast_mul]
    grind
  rw [eq1, eq1] at L3
  have L4 : Lg (tw (lgN m e)) (rv (sLo (mulP (atP 1 3 p j) (lgN m e).natAbs) (decide (lgN m e < 0)) p)) (rv (sHi (mulP (atP 1 3 p j) (lgN m e).natAbs) (decide (lgN m e < 0)) p)) := by
    rw [rv_sLo, rv_sHi]
    by_cases hn : lgN m e < 0
    · rw [decide_eq_true hn]
      simp only [if_true]
      have := L3.inv
      rw [Ea.tw_inv, show -(((lgN m e).natAbs : Nat) : Int) = lgN m e by omega] at this
      exact this
    · rw [decide_eq_false hn]
      simp only [Bool.false_eq_true, if_false]
      rw [show (((lgN m e).natAbs : Nat) : Int) = lgN m e by omega] at L3
      exact L3
  have hA : (m : Rat) * tw e = (m : Rat) / (lgO m : Rat) * tw (lgN m e) := by
    rw [lgN_F e hm0, Ea.tw_add, Ea.tw_nat]
    have : (lgO m : Rat) = 2 ^ lgF m := by rw [lgO_F, Ea.cast_two]
    rw [← this]
    have h1 : (m : Rat) / (lgO m : Rat) * (lgO m : Rat) = (m : Rat) := Rat.div_mul_cancel (Rat.ne_of_gt hOr)
    grind
  unfold lbL lbH
  rw [rv_plus, rv_plus, hA]
  refine ⟨L1.mul L4, ?_⟩
  have n1 := s_near (g := lgG m) (p := p) w1
  have n2 := s_near (x := mulP (atP 1 3 p j) (lgN m e).natAbs) (g := decide (lgN m e < 0)) (p := p) (n := (10 + 6 * j) * (lgN m e).natAbs) (by
    show (atP 1 3 p j).h * _ ≤ (atP 1 3 p j).l * _ + _
    rw [← Nat.add_mul]
    exact Nat.mul_le_mul_right _ w2)
  rw [← over_tw] at n1 n2 ⊢
  rw [Rat.natCast_add]
  grind
theorem bd_of_vl {d : D} {p K : Nat} (hn : d.Nf) (he : -(p : Int) ≤ d.e) (h : (d.vl p).natAbs < 2 ^ K) : d.m < 2 ^ K ∧ -(p : Int) ≤ d.e ∧ d.e ≤ K := by
  rw [vl_natAbs] at h
  have hP := Nat.two_pow_pos (d.e + (p : Int)).toNat
  refine ⟨Nat.lt_of_le_of_lt (Nat.le_mul_of_pos_right _ hP) h, he, ?_⟩
  rcases hn with hz | hz
  · rw [hz]; show (0 : Int) ≤ _; omega
  · have hm : 1 ≤ d.m := by omega
    have h2 : 2 ^ (d.e + (p : Int)).toNat < 2 ^ K := Nat.lt_of_le_of_lt (by have := Nat.mul_le_mul_right (2 ^ (d.e + (p : Int)).toNat) hm; omega) h
    have := (Nat.pow_lt_pow_iff_right (by decide)).1 h2
    omega
theorem sLo_vl (x : Pr) (g : Bool) (p : Nat) : (sLo x g p).vl p = if g then -(x.h : Int) else (x.l : Int) := by
  unfold sLo
  cases g
  · simp only [Bool.false_eq_true, if_false]; exact norm_vlP _ _
  · simp only [if_true]; rw [opp_vl, norm_vlP]
theorem sLo_eP (x : Pr) (g : Bool) (p : Nat) : -(p : Int) ≤ (sLo x g p).e := by
  unfold sLo
  cases g
  · exact norm_eP _ _
  · exact norm_eP _ _
theorem plus_eP {c d : D} {p : Nat} (hc : -(p : Int) ≤ c.e) (hd : -(p : Int) ≤ d.e) : -(p : Int) ≤ (plus c d).e := by
  have := plus_eT (c := c) (d := d) (T := p) (by omega) (by omega)
  omega
theorem lb_bd {x y : Pr} {g g' : Bool} {p K : Nat} (hxl : x.l < 2 ^ K) (hxh : x.h < 2 ^ K) (hyl : y.l < 2 ^ K) (hyh : y.h < 2 ^ K) :
    (plus (sLo x g p) (sLo y g' p)).Nf ∧ (plus (sLo x g p) (sLo y g' p)).m < 2 ^ (K + 1) ∧ -(p : Int) ≤ (plus (sLo x g p) (sLo y g' p)).e ∧ (plus (sLo x g p) (sLo y g' p)).e ≤ ((K + 1 : Nat) : Int) := by
  refine ⟨plus_Nf _ _, bd_of_vl (plus_Nf _ _) (plus_eP (sLo_eP _ _ _) (sLo_eP _ _ _)) ?_⟩
  rw [plus_vl _ _ _ (by have := sLo_eP x g p; omega) (by have := sLo_eP y g' p; omega), sLo_vl, sLo_vl, Nat.pow_succ]
  cases g <;> cases g' <;> simp only [Bool.false_eq_true, if_false, if_true] <;> omega
theorem lb_bds {m p k j : Nat} {e : Int} (hm0 : m ≠ 0) (hp : 4 ≤ p) (hk : k ≤ p) (hj : j ≤ p) (hend : (pwP (qP (lgU m) (m + lgO m) p) p k).h ≤ 1) (hend2 : (pwP (qP 1 3 p) p j).h ≤ 1) (hN : (lgN m e).natAbs < 2 ^ 20) :
    ((lbL m e p k j).Nf ∧ (lbL m e p k j).m < 2 ^ (p + 24 + 1) ∧ -(p : Int) ≤ (lbL m e p k j).e ∧ (lbL m e p k j).e ≤ ((p + 24 + 1 : Nat) : Int)) ∧
    ((lbH m e p k j).Nf ∧ (lbH m e p k j).m < 2 ^ (p + 24 + 1) ∧ -(p : Int) ≤ (lbH m e p k j).e ∧ (lbH m e p k j).e ≤ ((p + 24 + 1 : Nat) : Int)) := by
  obtain ⟨O0, O3, -, -, -⟩ := lg_facts hm0
  obtain ⟨b1, b2⟩ := at_bits (den := m + lgO m) (by omega) O3 hp hk hend
  obtain ⟨b3, b4⟩ := at_bits (num := 1) (den := 3) (by decide) (by decide) hp hj hend2
  have h4 : 2 ^ (p + 4) ≤ 2 ^ (p + 24) := Nat.pow_le_pow_right (by decide) (by omega)
  have hm : ∀ n, n < 2 ^ (p + 4) → n * (lgN m e).natAbs < 2 ^ (p + 24) := by
    intro n hn
    rw [show p + 24 = (p + 4) + 20 by omega, Nat.pow_add 2 (p + 4) 20]
    exact Nat.mul_lt_mul'' hn hN
  unfold lbL lbH
  refine ⟨lb_bd (by omega) (by omega) (hm _ b3) (hm _ b4), ?_⟩
  exact lb_bd (x := ⟨(atP (lgU m) (m + lgO m) p k).h, (atP (lgU m) (m + lgO m) p k).l⟩) (y := ⟨(atP 1 3 p j).h * (lgN m e).natAbs, (atP 1 3 p j).l * (lgN m e).natAbs⟩) (Nat.lt_of_lt_of_le b2 h4) (Nat.lt_of_lt_of_le b1 h4) (hm _ b4) (hm _ b3)
/-- a whole number of so many places, rounded down to fewer -/
theorem div_twI {x : Rat} {i : Int} {p pl : Nat} (hx : x * 2 ^ p = (i : Rat)) (h : pl ≤ p) : ((i / ((2 ^ (p - pl) : Nat) : Int) : Int) : Rat) * tw (-(pl : Int)) ≤ x ∧ x < (((i / ((2 ^ (p - pl) : Nat) : Int) : Int) : Rat) + 1) * tw (-(pl : Int)) := by
  have hP := Ea.two_pos p
  have e : tw (-(pl : Int)) * 2 ^ p = ((2 ^ (p - pl) : Nat) : Rat) := by
    rw [Ea.cast_two, ← Ea.tw_nat, ← Ea.tw_nat, ← Ea.tw_add]; congr 1; omega
  have hU : (0 : Int) < ((2 ^ (p - pl) : Nat) : Int) := by have := Nat.two_pow_pos (p - pl); omega
  generalize ((2 ^ (p - pl) : Nat)) = U at *
  have h1 : i / (U : Int) * (U : Int) ≤ i := Int.ediv_mul_le i (by omega)
  have h2 : i < (i / (U : Int) + 1) * (U : Int) := Int.lt_ediv_add_one_mul_self i hU
  have c1 : ((i / (U : Int) * (U : Int) : Int) : Rat) ≤ (i : Rat) := Rat.intCast_le_intCast.2 h1
  have c2 : (i : Rat) < (((i / (U : Int) + 1) * (U : Int) : Int) : Rat) := Rat.intCast_lt_intCast.2 h2
  rw [Rat.intCast_mul] at c1 c2
  rw [Rat.intCast_add] at c2
  have eU : ((U : Int) : Rat) = (U : Rat) := rfl
  have e1 : ((1 : Int) : Rat) = 1 := rfl
  rw [eU, ← e, ← hx] at c1 c2
  rw [e1] at c2
  generalize ((i / (U : Int) : Int) : Rat) = q at *
  constructor
  · exact Rat.le_of_mul_le_mul_right (by rw [Rat.mul_assoc]; exact c1) hP
  · refine Rat.not_le.1 fun h => ?_
    have := Rat.mul_le_mul_of_nonneg_right h (Rat.le_of_lt hP)
    rw [Rat.mul_assoc] at this
    grind
theorem lgs_meet {A x y w : Rat} {i j : Int} {p pl : Nat} (hx : x * 2 ^ p = (i : Rat)) (hy : y * 2 ^ p = (j : Rat)) (hpl : pl ≤ p) (h : Lg A x y) (hw : y ≤ x + w) (hw1 : w ≤ tw (-((Ea.Qs + 24400 : Nat) : Int))) (w0 : 0 ≤ w) (ha : A ≤ tw ((4280 : Nat) : Int))
    (hsep : ∀ j : Int, Away ((j : Rat) * tw (-(pl : Int))) A sepE) : i / ((2 ^ (p - pl) : Nat) : Int) = j / ((2 ^ (p - pl) : Nat) : Int) := by
  obtain ⟨a1, a2⟩ := div_twI hx hpl
  obtain ⟨b1, b2⟩ := div_twI hy hpl
  have hxy : x ≤ y := by
    refine Rat.not_lt.1 fun e => ?_
    have := Ea.lo_hi_lt e h.pos h.2 h.1
    grind
  have hδ := Ea.tw_pos (-(pl : Int))
  generalize i / ((2 ^ (p - pl) : Nat) : Int) = f at *
  generalize j / ((2 ^ (p - pl) : Nat) : Int) = g at *
  have hle : f ≤ g := Ea.lt_of_mul hδ (show (f : Rat) * _ < _ by grind)
  refine Decidable.byContradiction fun hne => ?_
  have h2 := Ea.int_le_of (Rat.le_of_lt hδ) (show f + 1 ≤ g by omega)
  rw [Rat.intCast_add] at h2
  have e1 : ((1 : Int) : Rat) = 1 := rfl
  rw [e1] at h2
  exact Ea.lg_apart h hw hw1 w0 ha (hsep g) (by grind) b1
theorem lgs_met {A x y : Rat} {i j : Int} {p pl : Nat} (hx : x * 2 ^ p = (i : Rat)) (hy : y * 2 ^ p = (j : Rat)) (hpl : pl ≤ p) (h : Lg A x y) (he : i / ((2 ^ (p - pl) : Nat) : Int) = j / ((2 ^ (p - pl) : Nat) : Int)) : IsLg A (i / ((2 ^ (p - pl) : Nat) : Int)) pl := by
  obtain ⟨a1, a2⟩ := div_twI hx hpl
  obtain ⟨b1, b2⟩ := div_twI hy hpl
  exact h.lg a1 (by rw [he]; exact b2)
/-- the width, where the places are enough -/
theorem lw_small {k j p N : Nat} (hk : k ≤ p) (hj : j ≤ p) (hN : N < 2 ^ 20) (hp : PB ≤ p) (hp1 : p ≤ 20000000000000) : ((10 + 6 * k + (10 + 6 * j) * N : Nat) : Rat) / 2 ^ p ≤ tw (-((Ea.Qs + 24400 : Nat) : Int)) := by
  have h1 : 10 + 6 * k + (10 + 6 * j) * N ≤ 2 ^ 80 := by
    have a : 10 + 6 * j < 2 ^ 50 := by have : (2 : Nat) ^ 50 = 1125899906842624 := by decide
                                       omega
    have b : (10 + 6 * j) * N ≤ 2 ^ 50 * 2 ^ 20 := Nat.mul_le_mul (by omega) (by omega)
    have c : (2 : Nat) ^ 50 = 1125899906842624 := by decide
    have d : (2 : Nat) ^ 50 * 2 ^ 20 + 2 ^ 50 ≤ 2 ^ 80 := by decide
    omega
  have h2 : ((10 + 6 * k + (10 + 6 * j) * N : Nat) : Rat) ≤ tw ((80 : Nat) : Int) := by
    rw [Ea.tw_nat, ← Ea.cast_two]; exact Rat.natCast_le_natCast.2 h1
  rw [Ea.div_le (Ea.two_pos p), ← Ea.tw_nat, ← Ea.tw_add]
  refine Rat.le_trans h2 (Ea.tw_le ?_)
  have : PB = 4398500000000 := rfl
  have : Ea.Qs = 4398046511104 := rfl
  omega
theorem lgN_bd {m : Nat} {e : Int} (hm0 : m ≠ 0) (hm : m < 2 ^ 1280) (he : -3000 ≤ e) (he1 : e ≤ 3000) : (lgN m e).natAbs < 2 ^ 20 := by
  have h1 : blen m ≤ 1280 := blen_le2 hm
  have h2 : lgF m ≤ 1280 := by unfold lgF; have : 0 < blen m := bl_pos hm0; split <;> omega
  rw [lgN_F e hm0]
  have : (2 : Nat) ^ 20 = 1048576 := by decide
  omega
end Go.Proofs.YtmpdbmaokbhcjaaDoor

/-
  THE WALK of series.floor at series.Log's closure.
-/
namespace Go.Proofs.YtmpdbmaokbhcjaaDoor
open Go.RowKit Nt Fm
open Ea (Pr qP pwP atP tw PB Lg IsLg)

end Go.Proofs.YtmpdbmaokbhcjaaDoor

/-
  THE WALK of series.Log.
-/
namespace Go.Proofs.YtmpdbmaokbhcjaaDoor
open Go.RowKit Nt Fm
open Ea (Pr IsLg tw PB)

/-- the error of Log -/
def slgE (c : Int) (d : D) (pl : Int) : Int := if sckE c d pl ≠ 0 then sckE c d pl else if sign d ≤ 0 then 4 else if d.e < -3000 ∨ 3000 < d.e then 2 else 0
/-- what Log tells -/
def RetSl (w : World) (E : Int) (d : D) (pl : Int) (r : Ending) (w' : World) : Prop :=
  ∃ R, RetR w E R r w' ∧ (E = 0 → ∃ q : Int, IsLg (rv d) q pl.toNat ∧ R = ofInt q (-pl)) ∧ (E ≠ 0 → R = nz)
theorem slgE_zero {c pl : Int} {d : D} (h : slgE c d pl = 0) : c = 0 ∧ 0 ≤ pl ∧ pl ≤ 1300 ∧ d.m < 2 ^ 1280 ∧ 0 < sign d ∧ -3000 ≤ d.e ∧ d.e ≤ 3000 := by
  unfold slgE at h
  by_cases h1 : sckE c d pl ≠ 0
  · rw [if_pos h1] at h; exact absurd h h1
  · rw [if_neg h1] at h
    obtain ⟨a, b, e, f⟩ := sckE_zero (Decidable.not_not.1 h1)
    by_cases h2 : sign d ≤ 0
    · rw [if_pos h2] at h; omega
    · rw [if_neg h2] at h
      by_cases h3 : d.e < -3000 ∨ 3000 < d.e
      · rw [if_pos h3] at h; omega
      · exact ⟨a, b, e, f, by omega, by omega, by omega⟩
theorem sign_pos {d : D} (h : 0 < sign d) : d.m ≠ 0 ∧ rv d = (d.m : Rat) * tw d.e := by
  unfold sign at h
  split at h
  · omega
  · rename_i h1
    refine ⟨h1, ?_⟩
    split at h
    · omega
    · rename_i h2
      unfold rv D.sm
      rw [if_neg h2]
      rfl
theorem lg_one (pl : Nat) : IsLg 1 0 pl ∧ ofInt 0 (-(pl : Int)) = nz := by
  have hp := Ea.tw_pos (-(pl : Int))
  have e0 : ((0 : Int) : Rat) = 0 := rfl
  refine ⟨⟨by rw [e0, Rat.zero_mul]; exact Ea.hi_zero, 0, by rw [e0]; grind, Ea.lo_zero⟩, ?_⟩
  unfold ofInt norm; rfl
theorem one_of {d : D} (hn : d.Nf) (h : rv d = 1) : d = norm false 1 0 := by
  obtain ⟨T, h1, h2⟩ := exT d.e 0
  refine nf_inj (T := T) hn (norm_nf _ _ _) h1 (norm_eT h2) ?_
  have hP := Ea.two_pos T
  have a := rv_vl d h1
  rw [h, Rat.one_mul] at a
  have b := rv_vl (norm false 1 0) (T := T) (norm_eT h2)
  rw [rv_norm, rv_pos, Ea.tw_zero, Rat.mul_one] at b
  have e1 : ((1 : Nat) : Rat) = 1 := rfl
  rw [e1, Rat.one_mul, a] at b
  exact Rat.intCast_inj.1 b
end Go.Proofs.YtmpdbmaokbhcjaaDoor

/-
  THE WALK of seriesLives.
-/
namespace Go.Proofs.YtmpdbmaokbhcjaaDoor
open Go.RowKit Nt Fm
open Ea (tw IsFl IsLg Lo Hi)

theorem slg_2 : slgE 0 d2 8 = 0 := by
  unfold slgE
  rw [if_neg (by rw [sck_1.2]; decide), if_neg (by decide), if_neg (by decide)]
theorem RetSl.tel {w w' : World} {c pl : Int} {d : D} {r : Ending} (h : RetSl w (slgE c d pl) d pl r w') : ∃ R, RetR w (slgE c d pl) R r w' ∧ Tel (IsLg (rv d)) (slgE c d pl) R pl := by
  obtain ⟨R, h1, h2, h3⟩ := h
  refine ⟨R, h1, fun hE => ?_, h3⟩
  obtain ⟨-, p0, p1, hm, hs, e0, e1⟩ := slgE_zero hE
  obtain ⟨q, h4, h5⟩ := h2 hE
  obtain ⟨hm0, hrv⟩ := sign_pos hs
  have hm1 : (1 : Rat) ≤ (d.m : Rat) := Rat.natCast_le_natCast.2 (show 1 ≤ d.m by omega)
  have hm2 : (d.m : Rat) ≤ tw ((1280 : Nat) : Int) := by rw [Ea.tw_nat, ← Ea.cast_two]; exact Rat.natCast_le_natCast.2 (Nat.le_of_lt hm)
  have hte := Ea.tw_pos d.e
  refine ⟨p0, p1, q, h4, lg_bd h4 ?_ ?_ (by omega), h5⟩
  · rw [hrv]
    have h1 := Rat.mul_le_mul_of_nonneg_right hm2 (Rat.le_of_lt hte)
    rw [← Ea.tw_add] at h1
    exact Rat.le_trans h1 (Ea.tw_le (by omega))
  · rw [hrv]
    have h1 := Rat.mul_le_mul_of_nonneg_right hm1 (Rat.le_of_lt hte)
    have h2 := Ea.tw_le e0
    grind
theorem slg_pos {c pl : Int} {d : D} (h : slgE c d pl = 0) : 0 < rv d := by
  obtain ⟨-, -, -, -, hs, -, -⟩ := slgE_zero h
  obtain ⟨hm0, hrv⟩ := sign_pos hs
  rw [hrv]
  exact Rat.mul_pos (Rat.natCast_pos.2 (by omega)) (Ea.tw_pos _)
/-- the places that Log tells -/
noncomputable def lgQ (a : Rat) (pl : Nat) : Int := Classical.epsilon fun q => IsLg a q pl
theorem lgQ_is {a : Rat} (ha : 0 < a) {q : Int} {pl : Nat} (h : IsLg a q pl) : lgQ a pl = q := IsLg.uniq ha (Classical.epsilon_spec (p := fun q => IsLg a q pl) ⟨q, h⟩) h
noncomputable def slgR (c : Int) (d : D) (pl : Int) : D := if slgE c d pl = 0 then ofInt (lgQ (rv d) pl.toNat) (-pl) else nz
end Go.Proofs.YtmpdbmaokbhcjaaDoor

/-
  PLAIN: the laws of series.
-/
namespace Go.Proofs.YtmpdbmaokbhcjaaDoor
open Go.RowKit Nt Fm
open Ea (IsFl IsLg tw)

theorem nm_true {d1 d2 : D} (h : cmp d1 d2 ≤ 0) (v1 v2 : Value) (w : World) (hT : Tab w) (h1 : RD w v1 0 d1) (h2 : RD w v2 0 d2) :
    Calls Tryd.prog 31 #[v1, v2] w fun r w' => r = .returned (.bool true) ∧ Below w.heap.size w w' := by
  have := noMore_any v1 v2 0 0 d1 d2 w hT h1 h2
  rw [nmB_zero, decide_eq_true h] at this
  exact this
theorem ok4_all {a b c d : Int} (h : ok4 a b c d = true) : a = 0 ∧ b = 0 ∧ c = 0 ∧ d = 0 := by
  unfold ok4 at h; simp [and_assoc] at h; exact h
theorem ok2_two {a b : Int} (h : ok2 a b = true) : a = 0 ∧ b = 0 := by
  unfold ok2 at h; simp [and_assoc] at h; exact h
theorem opE_00 {S : D} (h : opE 0 0 S = 0) : opR 0 0 S = S := by unfold opR; rw [if_pos h]
theorem opE_of {S : D} (h : Fit S) : opE 0 0 S = 0 ∧ opR 0 0 S = S := by
  have e : opE 0 0 S = 0 := by rw [(opE_zero _).1]; exact fitE_of h
  exact ⟨e, opE_00 e⟩
theorem add_fit {a b : D} (h : Fit (plus a b)) (v1 v2 : Value) (w : World) (hT : Tab w) (h1 : RD w v1 0 a) (h2 : RD w v2 0 b) : Calls Tryd.prog 30 #[v1, v2] w (RetR w 0 (plus a b)) := by
  have := add_any v1 v2 0 0 a b w hT h1 h2
  rw [(opE_of h).1, (opE_of h).2] at this
  exact this
theorem mul_fit {a b : D} (h : Fit (times a b)) (v1 v2 : Value) (w : World) (hT : Tab w) (h1 : RD w v1 0 a) (h2 : RD w v2 0 b) : Calls Tryd.prog 39 #[v1, v2] w (RetR w 0 (times a b)) := by
  have := mul_any v1 v2 0 0 a b w hT h1 h2
  rw [(opE_of h).1, (opE_of h).2] at this
  exact this
theorem one_fit {e : Int} (h0 : -9000 ≤ e) (h1 : e ≤ 9000) : Fit (⟨false, 1, e⟩ : D) := fit_ofk (k := 1) (Or.inr (by show 1 % 2 = 1; decide)) (by omega) (by show 1 < 2 ^ 1; decide) (by show -10000 ≤ e; omega) (by show e ≤ 10000; omega)
theorem rv_step (e : Int) : rv (⟨false, 1, e⟩ : D) = tw e := by
  rw [rv_pos]
  have : ((1 : Nat) : Rat) = 1 := rfl
  rw [this, Rat.one_mul]
theorem fl_nonneg {x : Rat} {q : Int} {pl : Nat} (h : IsFl x q pl) : 0 ≤ q := by
  obtain ⟨-, z, h2, h3⟩ := h
  have hz := h2.pos
  refine Ea.lt_of_mul (i := 0) (j := q) (Ea.tw_pos (-(pl : Int))) ?_
  have e0 : ((0 : Int) : Rat) = 0 := rfl
  rw [e0, Rat.zero_mul]; grind
/-- there and back -/
theorem back_law {F1 F2 F3 : Int} {d X Y A Z U : D} {pl : Int} (hd : 0 < rv d) (hx : Tel (IsLg (rv d)) F1 X pl) (hy : Tel (IsFl (rv X)) F2 Y 60) (hz : Tel (IsFl (rv A)) F3 Z 60)
    (ex : F1 = 0) (ey : F2 = 0) (ez : F3 = 0) (hA : A = plus X ⟨false, 1, -pl⟩) (hU : U = plus Z ⟨false, 1, -60⟩) : cmp Y d ≤ 0 ∧ cmp d U ≤ 0 := by
  obtain ⟨p0, p1, q, ⟨h1, t, h2, h3⟩, -, rfl⟩ := hx.1 ex
  obtain ⟨-, -, y, ⟨h4, -⟩, -, rfl⟩ := hy.1 ey
  obtain ⟨-, -, z, ⟨-, b, h5, h6⟩, -, rfl⟩ := hz.1 ez
  obtain ⟨p, rfl⟩ : ∃ p : Nat, pl = (p : Int) := ⟨pl.toNat, by omega⟩
  rw [Int.toNat_natCast] at h1 h2
  rw [rv_ofInt] at h4
  constructor
  · rw [rv_le, rv_ofInt]
    exact Ea.lo_hi h4 h1
  · rw [rv_le, hU, rv_plus, rv_ofInt, rv_step]
    rw [hA, rv_plus, rv_ofInt, rv_step] at h5
    have h7 := Ea.lo_hi (Ea.lo_mono h3 (show t ≤ (q : Rat) * tw (-(p : Int)) + tw (-(p : Int)) by grind)) h5
    have h8 : ((z : Rat) + 1) * tw (-((60 : Int).toNat : Int)) = (z : Rat) * tw (-60) + tw (-60) := by
      rw [Rat.add_mul, Rat.one_mul]; rfl
    rw [h8] at h6
    grind
theorem two_ofInt (pl : Int) : (⟨false, 1, 1 - pl⟩ : D) = ofInt 2 (-pl) := by
  have := ofInt_shift 1 (-pl) 1
  rw [← ofInt_one, show (1 : Int) - pl = -pl + ((1 : Nat) : Int) by omega, ← this]
  rfl
theorem natAbs_add_lt {a b : Int} {k l : Nat} (ha : a.natAbs < 2 ^ k) (hb : b.natAbs < 2 ^ k) (hl : l = k + 1) : (a + b).natAbs < 2 ^ l := by
  subst hl
  have : 2 ^ (k + 1) = 2 * 2 ^ k := by have := Nat.pow_succ (n := 2) (m := k); omega
  omega
theorem natAbs_mul_lt {a b : Int} {k l : Nat} (ha : a.natAbs < 2 ^ k) (hb : b.natAbs < 2 ^ k) (hl : l = k + k) : (a * b).natAbs < 2 ^ l := by
  subst hl
  rw [Int.natAbs_mul, Nat.pow_add]
  exact Nat.mul_lt_mul'' ha hb
theorem pow_le2 {a k l : Nat} (h : a < 2 ^ k) (hk : k ≤ l) : a < 2 ^ l := Nat.lt_of_lt_of_le h (Nat.pow_le_pow_right (by decide) hk)
/-- the logarithm of a product -/
theorem sums_law {F1 F2 F4 : Int} {c d P X Y Z : D} {pl : Int} (hc : 0 < rv c) (hd : 0 < rv d) (hx : Tel (IsLg (rv c)) F1 X pl) (hy : Tel (IsLg (rv d)) F2 Y pl) (hz : Tel (IsLg (rv P)) F4 Z pl)
    (ex : F1 = 0) (ey : F2 = 0) (ez : F4 = 0) (hP : P = times c d) :
    Fit (plus X Y) ∧ Fit (plus (plus X Y) ⟨false, 1, 1 - pl⟩) ∧ Fit (⟨false, 1, 1 - pl⟩ : D) ∧ cmp (plus X Y) Z ≤ 0 ∧ cmp Z (plus (plus X Y) ⟨false, 1, 1 - pl⟩) ≤ 0 := by
  obtain ⟨p0, p1, x, ⟨h1, t, h2, h3⟩, bx, rfl⟩ := hx.1 ex
  obtain ⟨-, -, y, ⟨h4, u, h5, h6⟩, by', rfl⟩ := hy.1 ey
  obtain ⟨-, -, z, ⟨h7, v, h8, h9⟩, -, rfl⟩ := hz.1 ez
  obtain ⟨p, rfl⟩ : ∃ p : Nat, pl = (p : Int) := ⟨pl.toNat, by omega⟩
  rw [Int.toNat_natCast] at h1 h2 h4 h5 h7 h8
  have hδ := Ea.tw_pos (-(p : Int))
  rw [two_ofInt, ofInt_plus, ofInt_plus]
  have b1 := natAbs_add_lt bx by' (l := 2902) rfl
  have b2 := natAbs_add_lt b1 (b := 2) (pow_le2 (k := 2) (l := 2902) (by decide) (by decide)) (l := 2903) rfl
  have hv : rv P = rv c * rv d := by rw [hP, rv_times]
  rw [hv] at h7 h9
  have hcd := Rat.mul_pos hc hd
  refine ⟨ofInt_bd b1 (by omega) (by omega) (by omega), ofInt_bd b2 (by omega) (by omega) (by omega), ofInt_bd (k := 2) (by decide) (by omega) (by omega) (by omega), cmp_ofInt.2 ?_, cmp_ofInt.2 ?_⟩
  · have g1 := Ea.hi_mul h1 h4
    have g2 : ((x + y : Int) : Rat) * tw (-(p : Int)) < ((z : Rat) + 1) * tw (-(p : Int)) := by
      refine Rat.not_le.1 fun e => ?_
      rw [Rat.intCast_add, Rat.add_mul] at e
      have := Ea.lo_hi_lt (show v < (x : Rat) * tw (-(p : Int)) + (y : Rat) * tw (-(p : Int)) by grind) hcd h9 g1
      grind
    exact Ea.lt_of_mul hδ g2
  · have g1 := Ea.lo_mul (Rat.le_of_lt hc) (Rat.le_of_lt hd) h3 h6
    have g2 : (z : Rat) * tw (-(p : Int)) < (((x + y + 1 : Int) : Rat) + 1) * tw (-(p : Int)) := by
      refine Rat.not_le.1 fun e => ?_
      rw [Rat.intCast_add, Rat.intCast_add] at e
      have e1 : ((1 : Int) : Rat) = 1 := rfl
      rw [e1] at e
      have := Ea.lo_hi_lt (show t + u < (z : Rat) * tw (-(p : Int)) by grind) hcd g1 h7
      grind
    have := Ea.lt_of_mul hδ g2
    omega
/-- e to a sum -/
theorem powers_law {F1 F2 F4 : Int} {c d S X Y Z : D} {pl : Int} (hx : Tel (IsFl (rv c)) F1 X pl) (hy : Tel (IsFl (rv d)) F2 Y pl) (hz : Tel (IsFl (rv S)) F4 Z pl)
    (ex : F1 = 0) (ey : F2 = 0) (ez : F4 = 0) (hS : S = plus c d) :
    Fit (⟨false, 1, -pl⟩ : D) ∧ Fit (times X Y) ∧ Fit (plus Z ⟨false, 1, -pl⟩) ∧ Fit (plus X ⟨false, 1, -pl⟩) ∧ Fit (plus Y ⟨false, 1, -pl⟩) ∧ Fit (times (plus X ⟨false, 1, -pl⟩) (plus Y ⟨false, 1, -pl⟩)) ∧
    cmp (times X Y) (plus Z ⟨false, 1, -pl⟩) ≤ 0 ∧ cmp Z (times (plus X ⟨false, 1, -pl⟩) (plus Y ⟨false, 1, -pl⟩)) ≤ 0 := by
  obtain ⟨p0, p1, x, hx1, bx, rfl⟩ := hx.1 ex
  obtain ⟨-, -, y, hy1, by', rfl⟩ := hy.1 ey
  obtain ⟨-, -, z, hz1, bz, rfl⟩ := hz.1 ez
  obtain ⟨p, rfl⟩ : ∃ p : Nat, pl = (p : Int) := ⟨pl.toNat, by omega⟩
  rw [Int.toNat_natCast] at hx1 hy1 hz1
  have x0 := fl_nonneg hx1
  have y0 := fl_nonneg hy1
  have hδ := Ea.tw_pos (-(p : Int))
  obtain ⟨h1, t, h2, h3⟩ := hx1
  obtain ⟨h4, u, h5, h6⟩ := hy1
  obtain ⟨h7, v, h8, h9⟩ := hz1
  have one_bd : (1 : Int).natAbs < 2 ^ 2901 := pow_le2 (k := 1) (l := 2901) (by decide) (by decide)
  have hv : rv S = rv c + rv d := by rw [hS, rv_plus]
  rw [hv] at h7 h8
  have px : 0 ≤ (x : Rat) * tw (-(p : Int)) := Rat.mul_nonneg (Rat.intCast_nonneg.2 x0) (Rat.le_of_lt hδ)
  have py : 0 ≤ (y : Rat) * tw (-(p : Int)) := Rat.mul_nonneg (Rat.intCast_nonneg.2 y0) (Rat.le_of_lt hδ)
  have s1 := natAbs_add_lt bx one_bd (l := 2902) rfl
  have s2 := natAbs_add_lt by' one_bd (l := 2902) rfl
  have s3 := natAbs_add_lt bz one_bd (l := 2902) rfl
  rw [← ofInt_one, ofInt_plus, ofInt_plus, ofInt_plus, ofInt_times, ofInt_times]
  refine ⟨ofInt_bd (k := 1) (by decide) (by omega) (by omega) (by omega), ofInt_bd (natAbs_mul_lt bx by' (l := 5802) rfl) (by omega) (by omega) (by omega), ofInt_bd s3 (by omega) (by omega) (by omega), ofInt_bd s1 (by omega) (by omega) (by omega), ofInt_bd s2 (by omega) (by omega) (by omega), ofInt_bd (natAbs_mul_lt s1 s2 (l := 5804) rfl) (by omega) (by omega) (by omega), ?_, ?_⟩
  · rw [rv_le, ← ofInt_times, rv_times, rv_ofInt, rv_ofInt, rv_ofInt]
    have g1 := Ea.lo_hi (Ea.lo_mul px py h1 h4) h8
    rw [Rat.intCast_add]
    have e1 : ((1 : Int) : Rat) = 1 := rfl
    rw [e1]
    grind
  · rw [rv_le, ← ofInt_times, rv_times, rv_ofInt, rv_ofInt, rv_ofInt]
    have g1 := Ea.lo_hi h7 (Ea.hi_mul h2 h5)
    rw [Rat.intCast_add, Rat.intCast_add]
    have e1 : ((1 : Int) : Rat) = 1 := rfl
    rw [e1]
    have ht := h2.pos
    have hu := h5.pos
    have g2 : t * u ≤ ((x : Rat) + 1) * tw (-(p : Int)) * (((y : Rat) + 1) * tw (-(p : Int))) := Ea.mul_le (Rat.le_of_lt h3) (Rat.le_of_lt h6) (by grind) (Rat.le_of_lt hu)
    grind
end Go.Proofs.YtmpdbmaokbhcjaaDoor
