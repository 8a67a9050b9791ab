/-
  SOME OF MY TEXTS in one: Prp Prq Prr Prs Srl Srw. Each says what it proves.
-/
import Derived.Test.YtifadajkngncmaaDoorPcs
import Derived.Test.YtifadajkngncmaaDoorPri
import Derived.Test.YtifadajkngncmaaDoorBh
set_option linter.unusedVariables false
set_option linter.unusedSimpArgs false
/-
  THE WALK of series.Log's closure.
-/
namespace Go.Proofs.YtifadajkngncmaaDoor
open Go.RowKit Nt Fm
open Ea (Pr qP pwP atP)

set_option maxRecDepth 100000 in
set_option maxHeartbeats 8000000 in
theorem logC_any (c0 : Nat) (d : D) (b p : Nat) (P : Int) (w : World) (hT : Tab w) (hd : GD w c0 d) (hP : P = (p : Int)) (hm0 : d.m ≠ 0) (hm : d.m < 2 ^ b) (hb : b ≤ 1000000) (e0 : -1000000 ≤ d.e) (e1 : d.e ≤ 1000000) (hp : p ≤ 14000000000000) (hp0 : 4 ≤ p) :
    Calls Tryd.prog 45 #[.int .i64 P, .pointer (some ⟨c0, 0, none⟩)] w (RetLB w d.m d.e p) := by
  subst hP
  obtain ⟨a1, n1, c1, hBx, hNv⟩ := hd
  have EB := Lib.hid (fun w' ht hv => logBounds_any (.agg #[.bool d.neg, .slice a1 n1 c1, .int .i64 d.e]) d.neg d.m b p d.e p w' ht ⟨_, rfl, hv⟩ rfl hm hm0 hb e0 e1 hp hp0)
  have HB := Lib.hid hBx
  have HN := Lib.hid hNv
  have HT := Lib.hid hT
  have hlt : c0 < w.heap.size := hBx.lt
  have L1 := Lib.hid ((GD.nil w).alloc (.cells #[.bool false, .slice none 0 0, .int .i64 0] 24))
  have M1 := Lib.hid (GD.nil2 w (.cells #[.bool false, .slice none 0 0, .int .i64 0] 24))
  have X1 := Lib.hid ((HB.out.alloc (.cells #[.bool false, .slice none 0 0, .int .i64 0] 24)).alloc (.cells #[.bool false, .slice none 0 0, .int .i64 0] 24))
  obtain ⟨q0, q1, q2, -, -, -⟩ := X1.out.cells
  unfold RetLB
  clear hBx hNv hT hm hm0
  go_enter Tryd.func45, Tryd.ntmps45
  go_wp2_with fail
  refine (EB.out _ (HT.out.below (bl_alloc2 _ _ _)) (HN.out.below (bl_alloc2 _ _ _))).mono ?_
  rintro r w1 ⟨k, j, hk, hj', hend, hend2, u1, u2, rfl, hu1, hu2, hb1⟩
  obtain ⟨C, hC⟩ : ∃ C, C = lbL d.m d.e p k j := ⟨_, rfl⟩
  obtain ⟨E, hE⟩ : ∃ E, E = lbH d.m d.e p k j := ⟨_, rfl⟩
  rw [← hC] at hu1
  rw [← hE] at hu2
  obtain ⟨e1, f1, g1, rfl, hv1⟩ := hu1.parts
  obtain ⟨e2, f2, g2, rfl, hv2⟩ := hu2.parts
  have HK := Lib.hid (show ((k ≤ p ∧ j ≤ p ∧ (pwP (qP (lgU d.m) (d.m + lgO d.m) p) p k).h ≤ 1 ∧ (pwP (qP 1 3 p) p j).h ≤ 1) ∧ C = lbL d.m d.e p k j ∧ E = lbH d.m d.e p k j) ∧ True from ⟨⟨⟨hk, hj', hend, hend2⟩, hC, hE⟩, trivial⟩)
  have B1 := Lib.hid (bl_thru (bl_alloc2 w _ _) (Nat.le_refl _) hb1)
  have L2 := Lib.hid (L1.out.below hb1)
  have M2 := Lib.hid (M1.out.below hb1)
  have N1 := Lib.hid hv1
  have N2 := Lib.hid hv2
  clear hu1 hu2 hv1 hv2 hb1 hk hj' hend hend2 hC hE q0 q1 q2 L1 M1 X1 HB HN
  obtain ⟨_, _, _, z0, z1, z2, z3, z4, z5⟩ := L2.out.cells
  obtain ⟨_, _, _, y0, y1, y2, y3, y4, y5⟩ := L2.out.two M2.out (by omega) (.bool C.neg) (.slice e1 f1 g1) (.int .i64 C.e)
  go_wp2_with fail
  clear z0 z1 z2 z3 z4 z5 y0 y1 y2 y3 y4 y5
  obtain ⟨h1, h2, h3, h4, h5, h6⟩ := fin_cc (V := w) B1.out L2.out M2.out (by omega) (Nat.le_refl _) (by omega) N1.out N2.out
  obtain ⟨W, hW⟩ : ∃ W, W = ((((((w1.setCell ⟨w.heap.size, 0, none⟩ (.bool C.neg)).setCell ⟨w.heap.size, 1, none⟩ (.slice e1 f1 g1)).setCell ⟨w.heap.size, 2, none⟩ (.int .i64 C.e)).setCell ⟨w.heap.size + 1, 0, none⟩ (.bool E.neg)).setCell ⟨w.heap.size + 1, 1, none⟩ (.slice e2 f2 g2)).setCell ⟨w.heap.size + 1, 2, none⟩ (.int .i64 E.e)) := ⟨_, rfl⟩
  rw [← hW] at h4 h5 h6 ⊢
  clear hW
  obtain ⟨i1, i2, i3, hi, hin⟩ := h5
  obtain ⟨j1, j2, j3, hj, hjn⟩ := h6
  have HIN := Lib.hid hin
  have HJN := Lib.hid hjn
  have BW := Lib.hid h4
  obtain ⟨s0, s1, s2, -, -, -⟩ := hi.cells
  obtain ⟨r0, r1, r2, -, -, -⟩ := hj.cells
  clear hi hj hin hjn h4
  refine bodyPost_ret (v := .tuple #[.agg #[.bool C.neg, .slice i1 i2 i3, .int .i64 C.e], .agg #[.bool E.neg, .slice j1 j2 j3, .int .i64 E.e]]) (by simp [results, Tryd.results45, go_sem, s0, s1, s2, r0, r1, r2]) rfl ?_
  refine ⟨k, j, HK.out.1.1.1, HK.out.1.1.2.1, HK.out.1.1.2.2.1, HK.out.1.1.2.2.2, _, _, rfl, ?_, ?_, BW.out⟩
  · rw [← HK.out.1.2.1]; exact ⟨_, rfl, HIN.out⟩
  · rw [← HK.out.1.2.2]; exact ⟨_, rfl, HJN.out⟩
end Go.Proofs.YtifadajkngncmaaDoor

/-
  PLAIN: the bounds of a logarithm, rounded down.
-/
namespace Go.Proofs.YtifadajkngncmaaDoor
open Go.RowKit Nt Fm
open Ea (Pr qP pwP atP tw PB Lg IsLg sepE Away)

theorem rv_sLo (x : Pr) (g : Bool) (p : Nat) : rv (sLo x g p) = if g then -((x.h : Rat) / 2 ^ p) else (x.l : Rat) / 2 ^ p := by
  unfold sLo
  cases g
  · simp only [Bool.false_eq_true, if_false]
    rw [rv_norm, rv_pos, over_tw]
  · simp only [if_true]
    rw [rv_opp, rv_norm, rv_pos, over_tw]
theorem rv_sHi (x : Pr) (g : Bool) (p : Nat) : rv (sHi x g p) = if g then -((x.l : Rat) / 2 ^ p) else (x.h : Rat) / 2 ^ p := rv_sLo ⟨x.h, x.l⟩ g p
theorem lg_turn {x : Pr} {p : Nat} {a b : Rat} (ha : 0 < a) (hb : 0 < b) (g : Bool) (h : Lg (if g then b / a else a / b) ((x.l : Rat) / 2 ^ p) ((x.h : Rat) / 2 ^ p)) : Lg (a / b) (rv (sLo x g p)) (rv (sHi x g p)) := by
  rw [rv_sLo, rv_sHi]
  cases g
  · exact h
  · simp only [if_true] at h ⊢
    have := h.inv
    have e : 1 / (b / a) = a / b := by
      have h1 : b / a * a = b := Rat.div_mul_cancel (Rat.ne_of_gt ha)
      have h2 : a / b * b = a := Rat.div_mul_cancel (Rat.ne_of_gt hb)
      have hr : 0 < b / a := by rw [Rat.lt_div_iff ha]; grind
      have h3 := Ea.one_div_mul hr
      generalize b / a = r at *
      generalize 1 / r = x at *
      generalize a / b = y at *
      have h4 : (x - y) * b = 0 := by
        have : x * b = x * r * a := by grind
        grind
      rcases Rat.mul_eq_zero.1 h4 with h | h <;> grind
    rwa [e] at this
theorem s_near {x : Pr} {g : Bool} {p n : Nat} (h : x.h ≤ x.l + n) : rv (sHi x g p) ≤ rv (sLo x g p) + (n : Rat) / 2 ^ p := by
  rw [rv_sLo, rv_sHi]
  have hP := Ea.two_pos p
  have h2 : (x.h : Rat) / 2 ^ p ≤ (x.l : Rat) / 2 ^ p + (n : Rat) / 2 ^ p := by
    rw [Ea.div_le hP, Rat.add_mul, Rat.div_mul_cancel (Rat.ne_of_gt hP), Rat.div_mul_cancel (Rat.ne_of_gt hP), ← Rat.natCast_add]
    exact Rat.natCast_le_natCast.2 h
  cases g
  · exact h2
  · simp only [if_true]
    grind
/-- the power of two in the one of both -/
def lgF (m : Nat) : Nat := if lgB m then blen m - 1 + 1 else blen m - 1
theorem lgO_F (m : Nat) : lgO m = 2 ^ lgF m := by
  unfold lgO lgF
  cases lgB m
  · rfl
  · simp only [if_true]; rw [Nat.pow_succ]; omega
theorem lgN_F {m : Nat} (e : Int) (hm : m ≠ 0) : lgN m e = e + (lgF m : Int) := by
  have := bl_pos hm
  have h2 : 0 < blen m := this
  unfold lgN lgF
  cases lgB m
  · simp only [Bool.false_eq_true, if_false]; omega
  · simp only [if_true]; omega
theorem lb_ok {m p k j : Nat} {e : Int} (hm0 : m ≠ 0) (hp : 4 ≤ p) (hk : k ≤ p) (hj : j ≤ p) (hend : (pwP (qP (lgU m) (m + lgO m) p) p k).h ≤ 1) (hend2 : (pwP (qP 1 3 p) p j).h ≤ 1) :
    Lg ((m : Rat) * tw e) (rv (lbL m e p k j)) (rv (lbH m e p k j)) ∧ rv (lbH m e p k j) ≤ rv (lbL m e p k j) + ((10 + 6 * k + (10 + 6 * j) * (lgN m e).natAbs : Nat) : Rat) / 2 ^ p := by
  obtain ⟨O0, O3, O2, OG1, OG2⟩ := lg_facts hm0
  have hmr : (0 : Rat) < (m : Rat) := Rat.natCast_pos.2 (by omega)
  have hOr : (0 : Rat) < (lgO m : Rat) := Rat.natCast_pos.2 O0
  have hden : 0 < m + lgO m := by omega
  have hdr : (0 : Rat) < ((m + lgO m : Nat) : Rat) := Rat.natCast_pos.2 hden
  have hP := Ea.two_pos p
  -- the first one
  have w1 := (Ea.at_ok (x := (lgU m : Rat) / ((m + lgO m : Nat) : Rat)) hden O3 hp hk hend (Rat.div_mul_cancel (Rat.ne_of_gt hdr))).2.2.2.1
  have w2 := (Ea.at_ok (num := 1) (den := 3) (x := ((1 : Nat) : Rat) / ((3 : Nat) : Rat)) (by decide) (by decide) hp hj hend2 (Rat.div_mul_cancel (by decide))).2.2.2.1
  have L1 : Lg ((m : Rat) / (lgO m : Rat)) (rv (sLo (atP (lgU m) (m + lgO m) p k) (lgG m) p)) (rv (sHi (atP (lgU m) (m + lgO m) p k) (lgG m) p)) := by
    refine lg_turn hmr hOr _ ?_
    cases hg : lgG m
    · have := OG2 hg
      have hU : lgU m = m - lgO m := by unfold lgU; rw [hg]; rfl
      simp only [Bool.false_eq_true, if_false]
      exact Ea.at_lg hden O3 hp hk hend O0 (by omega) (by omega)
    · have := OG1 hg
      have hU : lgU m = lgO m - m := by unfold lgU; rw [hg]; rfl
      simp only [if_true]
      exact Ea.at_lg hden O3 hp hk hend (by omega) (by omega) (by omega)
  -- the second one
  have L2 := Ea.at_lg (num := 1) (den := 3) (a := 2) (b := 1) (by decide) (by decide) hp hj hend2 (by decide) (by decide) (by decide)
  have e21 : ((2 : Nat) : Rat) / ((1 : Nat) : Rat) = 2 := by decide +kernel
  rw [e21] at L2
  have L3 := L2.pow (lgN m e).natAbs
  have e22 : (2 : Rat) ^ (lgN m e).natAbs = tw (((lgN m e).natAbs : Nat) : Int) := (Ea.tw_nat _).symm
  rw [e22] at L3
  have eq1 : ∀ n : Nat, ((lgN m e).natAbs : Rat) * ((n : Rat) / 2 ^ p) = ((n * (lgN m e).natAbs : Nat) : Rat) / 2 ^ p := by
    intro n
    rw [← over_tw, ← over_tw, Rat.natCast_mul]
    grind
  rw [eq1, eq1] at L3
  have L4 : Lg (tw (lgN m e)) (rv (sLo (mulP (atP 1 3 p j) (lgN m e).natAbs) (decide (lgN m e < 0)) p)) (rv (sHi (mulP (atP 1 3 p j) (lgN m e).natAbs) (decide (lgN m e < 0)) p)) := by
    rw [rv_sLo, rv_sHi]
    by_cases hn : lgN m e < 0
    · rw [decide_eq_true hn]
      simp only [if_true]
      have := L3.inv
      rw [Ea.tw_inv, show -(((lgN m e).natAbs : Nat) : Int) = lgN m e by omega] at this
      exact this
    · rw [decide_eq_false hn]
      simp only [Bool.false_eq_true, if_false]
      rw [show (((lgN m e).natAbs : Nat) : Int) = lgN m e by omega] at L3
      exact L3
  have hA : (m : Rat) * tw e = (m : Rat) / (lgO m : Rat) * tw (lgN m e) := by
    rw [lgN_F e hm0, Ea.tw_add, Ea.tw_nat]
    have : (lgO m : Rat) = 2 ^ lgF m := by rw [lgO_F, Ea.cast_two]
    rw [← this]
    have h1 : (m : Rat) / (lgO m : Rat) * (lgO m : Rat) = (m : Rat) := Rat.div_mul_cancel (Rat.ne_of_gt hOr)
    grind
  unfold lbL lbH
  rw [rv_plus, rv_plus, hA]
  refine ⟨L1.mul L4, ?_⟩
  have n1 := s_near (g := lgG m) (p := p) w1
  have n2 := s_near (x := mulP (atP 1 3 p j) (lgN m e).natAbs) (g := decide (lgN m e < 0)) (p := p) (n := (10 + 6 * j) * (lgN m e).natAbs) (by
    show (atP 1 3 p j).h * _ ≤ (atP 1 3 p j).l * _ + _
    rw [← Nat.add_mul]
    exact Nat.mul_le_mul_right _ w2)
  rw [← over_tw] at n1 n2 ⊢
  rw [Rat.natCast_add]
  grind
theorem bd_of_vl {d : D} {p K : Nat} (hn : d.Nf) (he : -(p : Int) ≤ d.e) (h : (d.vl p).natAbs < 2 ^ K) : d.m < 2 ^ K ∧ -(p : Int) ≤ d.e ∧ d.e ≤ K := by
  rw [vl_natAbs] at h
  have hP := Nat.two_pow_pos (d.e + (p : Int)).toNat
  refine ⟨Nat.lt_of_le_of_lt (Nat.le_mul_of_pos_right _ hP) h, he, ?_⟩
  rcases hn with hz | hz
  · rw [hz]; show (0 : Int) ≤ _; omega
  · have hm : 1 ≤ d.m := by omega
    have h2 : 2 ^ (d.e + (p : Int)).toNat < 2 ^ K := Nat.lt_of_le_of_lt (by have := Nat.mul_le_mul_right (2 ^ (d.e + (p : Int)).toNat) hm; omega) h
    have := (Nat.pow_lt_pow_iff_right (by decide)).1 h2
    omega
theorem sLo_vl (x : Pr) (g : Bool) (p : Nat) : (sLo x g p).vl p = if g then -(x.h : Int) else (x.l : Int) := by
  unfold sLo
  cases g
  · simp only [Bool.false_eq_true, if_false]; exact norm_vlP _ _
  · simp only [if_true]; rw [opp_vl, norm_vlP]
theorem sLo_eP (x : Pr) (g : Bool) (p : Nat) : -(p : Int) ≤ (sLo x g p).e := by
  unfold sLo
  cases g
  · exact norm_eP _ _
  · exact norm_eP _ _
theorem plus_eP {c d : D} {p : Nat} (hc : -(p : Int) ≤ c.e) (hd : -(p : Int) ≤ d.e) : -(p : Int) ≤ (plus c d).e := by
  have := plus_eT (c := c) (d := d) (T := p) (by omega) (by omega)
  omega
theorem lb_bd {x y : Pr} {g g' : Bool} {p K : Nat} (hxl : x.l < 2 ^ K) (hxh : x.h < 2 ^ K) (hyl : y.l < 2 ^ K) (hyh : y.h < 2 ^ K) :
    (plus (sLo x g p) (sLo y g' p)).Nf ∧ (plus (sLo x g p) (sLo y g' p)).m < 2 ^ (K + 1) ∧ -(p : Int) ≤ (plus (sLo x g p) (sLo y g' p)).e ∧ (plus (sLo x g p) (sLo y g' p)).e ≤ ((K + 1 : Nat) : Int) := by
  refine ⟨plus_Nf _ _, bd_of_vl (plus_Nf _ _) (plus_eP (sLo_eP _ _ _) (sLo_eP _ _ _)) ?_⟩
  rw [plus_vl _ _ _ (by have := sLo_eP x g p; omega) (by have := sLo_eP y g' p; omega), sLo_vl, sLo_vl, Nat.pow_succ]
  cases g <;> cases g' <;> simp only [Bool.false_eq_true, if_false, if_true] <;> omega
theorem lb_bds {m p k j : Nat} {e : Int} (hm0 : m ≠ 0) (hp : 4 ≤ p) (hk : k ≤ p) (hj : j ≤ p) (hend : (pwP (qP (lgU m) (m + lgO m) p) p k).h ≤ 1) (hend2 : (pwP (qP 1 3 p) p j).h ≤ 1) (hN : (lgN m e).natAbs < 2 ^ 20) :
    ((lbL m e p k j).Nf ∧ (lbL m e p k j).m < 2 ^ (p + 24 + 1) ∧ -(p : Int) ≤ (lbL m e p k j).e ∧ (lbL m e p k j).e ≤ ((p + 24 + 1 : Nat) : Int)) ∧
    ((lbH m e p k j).Nf ∧ (lbH m e p k j).m < 2 ^ (p + 24 + 1) ∧ -(p : Int) ≤ (lbH m e p k j).e ∧ (lbH m e p k j).e ≤ ((p + 24 + 1 : Nat) : Int)) := by
  obtain ⟨O0, O3, -, -, -⟩ := lg_facts hm0
  obtain ⟨b1, b2⟩ := at_bits (den := m + lgO m) (by omega) O3 hp hk hend
  obtain ⟨b3, b4⟩ := at_bits (num := 1) (den := 3) (by decide) (by decide) hp hj hend2
  have h4 : 2 ^ (p + 4) ≤ 2 ^ (p + 24) := Nat.pow_le_pow_right (by decide) (by omega)
  have hm : ∀ n, n < 2 ^ (p + 4) → n * (lgN m e).natAbs < 2 ^ (p + 24) := by
    intro n hn
    rw [show p + 24 = (p + 4) + 20 by omega, Nat.pow_add 2 (p + 4) 20]
    exact Nat.mul_lt_mul'' hn hN
  unfold lbL lbH
  refine ⟨lb_bd (by omega) (by omega) (hm _ b3) (hm _ b4), ?_⟩
  exact lb_bd (x := ⟨(atP (lgU m) (m + lgO m) p k).h, (atP (lgU m) (m + lgO m) p k).l⟩) (y := ⟨(atP 1 3 p j).h * (lgN m e).natAbs, (atP 1 3 p j).l * (lgN m e).natAbs⟩) (Nat.lt_of_lt_of_le b2 h4) (Nat.lt_of_lt_of_le b1 h4) (hm _ b4) (hm _ b3)
/-- a whole number of so many places, rounded down to fewer -/
theorem div_twI {x : Rat} {i : Int} {p pl : Nat} (hx : x * 2 ^ p = (i : Rat)) (h : pl ≤ p) : ((i / ((2 ^ (p - pl) : Nat) : Int) : Int) : Rat) * tw (-(pl : Int)) ≤ x ∧ x < (((i / ((2 ^ (p - pl) : Nat) : Int) : Int) : Rat) + 1) * tw (-(pl : Int)) := by
  have hP := Ea.two_pos p
  have e : tw (-(pl : Int)) * 2 ^ p = ((2 ^ (p - pl) : Nat) : Rat) := by
    rw [Ea.cast_two, ← Ea.tw_nat, ← Ea.tw_nat, ← Ea.tw_add]; congr 1; omega
  have hU : (0 : Int) < ((2 ^ (p - pl) : Nat) : Int) := by have := Nat.two_pow_pos (p - pl); omega
  generalize ((2 ^ (p - pl) : Nat)) = U at *
  have h1 : i / (U : Int) * (U : Int) ≤ i := Int.ediv_mul_le i (by omega)
  have h2 : i < (i / (U : Int) + 1) * (U : Int) := Int.lt_ediv_add_one_mul_self i hU
  have c1 : ((i / (U : Int) * (U : Int) : Int) : Rat) ≤ (i : Rat) := Rat.intCast_le_intCast.2 h1
  have c2 : (i : Rat) < (((i / (U : Int) + 1) * (U : Int) : Int) : Rat) := Rat.intCast_lt_intCast.2 h2
  rw [Rat.intCast_mul] at c1 c2
  rw [Rat.intCast_add] at c2
  have eU : ((U : Int) : Rat) = (U : Rat) := rfl
  have e1 : ((1 : Int) : Rat) = 1 := rfl
  rw [eU, ← e, ← hx] at c1 c2
  rw [e1] at c2
  generalize ((i / (U : Int) : Int) : Rat) = q at *
  constructor
  · exact Rat.le_of_mul_le_mul_right (by rw [Rat.mul_assoc]; exact c1) hP
  · refine Rat.not_le.1 fun h => ?_
    have := Rat.mul_le_mul_of_nonneg_right h (Rat.le_of_lt hP)
    rw [Rat.mul_assoc] at this
    grind
theorem lgs_meet {A x y w : Rat} {i j : Int} {p pl : Nat} (hx : x * 2 ^ p = (i : Rat)) (hy : y * 2 ^ p = (j : Rat)) (hpl : pl ≤ p) (h : Lg A x y) (hw : y ≤ x + w) (hw1 : w ≤ tw (-((Ea.Qs + 24400 : Nat) : Int))) (w0 : 0 ≤ w) (ha : A ≤ tw ((4280 : Nat) : Int))
    (hsep : ∀ j : Int, Away ((j : Rat) * tw (-(pl : Int))) A sepE) : i / ((2 ^ (p - pl) : Nat) : Int) = j / ((2 ^ (p - pl) : Nat) : Int) := by
  obtain ⟨a1, a2⟩ := div_twI hx hpl
  obtain ⟨b1, b2⟩ := div_twI hy hpl
  have hxy : x ≤ y := by
    refine Rat.not_lt.1 fun e => ?_
    have := Ea.lo_hi_lt e h.pos h.2 h.1
    grind
  have hδ := Ea.tw_pos (-(pl : Int))
  generalize i / ((2 ^ (p - pl) : Nat) : Int) = f at *
  generalize j / ((2 ^ (p - pl) : Nat) : Int) = g at *
  have hle : f ≤ g := Ea.lt_of_mul hδ (show (f : Rat) * _ < _ by grind)
  refine Decidable.byContradiction fun hne => ?_
  have h2 := Ea.int_le_of (Rat.le_of_lt hδ) (show f + 1 ≤ g by omega)
  rw [Rat.intCast_add] at h2
  have e1 : ((1 : Int) : Rat) = 1 := rfl
  rw [e1] at h2
  exact Ea.lg_apart h hw hw1 w0 ha (hsep g) (by grind) b1
theorem lgs_met {A x y : Rat} {i j : Int} {p pl : Nat} (hx : x * 2 ^ p = (i : Rat)) (hy : y * 2 ^ p = (j : Rat)) (hpl : pl ≤ p) (h : Lg A x y) (he : i / ((2 ^ (p - pl) : Nat) : Int) = j / ((2 ^ (p - pl) : Nat) : Int)) : IsLg A (i / ((2 ^ (p - pl) : Nat) : Int)) pl := by
  obtain ⟨a1, a2⟩ := div_twI hx hpl
  obtain ⟨b1, b2⟩ := div_twI hy hpl
  exact h.lg a1 (by rw [he]; exact b2)
/-- the width, where the places are enough -/
theorem lw_small {k j p N : Nat} (hk : k ≤ p) (hj : j ≤ p) (hN : N < 2 ^ 20) (hp : PB ≤ p) (hp1 : p ≤ 20000000000000) : ((10 + 6 * k + (10 + 6 * j) * N : Nat) : Rat) / 2 ^ p ≤ tw (-((Ea.Qs + 24400 : Nat) : Int)) := by
  have h1 : 10 + 6 * k + (10 + 6 * j) * N ≤ 2 ^ 80 := by
    have a : 10 + 6 * j < 2 ^ 50 := by have : (2 : Nat) ^ 50 = 1125899906842624 := by decide
                                       omega
    have b : (10 + 6 * j) * N ≤ 2 ^ 50 * 2 ^ 20 := Nat.mul_le_mul (by omega) (by omega)
    have c : (2 : Nat) ^ 50 = 1125899906842624 := by decide
    have d : (2 : Nat) ^ 50 * 2 ^ 20 + 2 ^ 50 ≤ 2 ^ 80 := by decide
    omega
  have h2 : ((10 + 6 * k + (10 + 6 * j) * N : Nat) : Rat) ≤ tw ((80 : Nat) : Int) := by
    rw [Ea.tw_nat, ← Ea.cast_two]; exact Rat.natCast_le_natCast.2 h1
  rw [Ea.div_le (Ea.two_pos p), ← Ea.tw_nat, ← Ea.tw_add]
  refine Rat.le_trans h2 (Ea.tw_le ?_)
  have : PB = 4398500000000 := rfl
  have : Ea.Qs = 4398046511104 := rfl
  omega
theorem lgN_bd {m : Nat} {e : Int} (hm0 : m ≠ 0) (hm : m < 2 ^ 1280) (he : -3000 ≤ e) (he1 : e ≤ 3000) : (lgN m e).natAbs < 2 ^ 20 := by
  have h1 : blen m ≤ 1280 := blen_le2 hm
  have h2 : lgF m ≤ 1280 := by unfold lgF; have : 0 < blen m := bl_pos hm0; split <;> omega
  rw [lgN_F e hm0]
  have : (2 : Nat) ^ 20 = 1048576 := by decide
  omega
end Go.Proofs.YtifadajkngncmaaDoor

/-
  THE WALK of series.floor at series.Log's closure.
-/
namespace Go.Proofs.YtifadajkngncmaaDoor
open Go.RowKit Nt Fm
open Ea (Pr qP pwP atP tw PB Lg IsLg)

set_option maxRecDepth 100000 in
set_option maxHeartbeats 8000000 in
theorem floorL_any (c0 : Nat) (d : D) (p0 pl : Nat) (w : World) (hT : Tab w) (hd : GD w c0 d) (hm0 : d.m ≠ 0) (hm : d.m < 2 ^ 1280) (he : -3000 ≤ d.e) (he1 : d.e ≤ 3000) (hone : (d.m : Rat) * tw d.e ≠ 1)
    (hpl : pl ≤ 1300) (hp0 : pl + 16 ≤ p0) (hp1 : p0 ≤ 3000) :
    Calls Tryd.prog 41 #[.int .i64 (pl : Int), .int .i64 (p0 : Int), .func (.func 45) #[] #[.pointer (some ⟨c0, 0, none⟩)]] w fun r w' => ∃ q : Int, IsLg ((d.m : Rat) * tw d.e) q pl ∧ RetD w (ofInt q (-(pl : Int))) r w' := by
  have hlt : c0 < w.heap.size := hd.lt
  have hPB : PB = 4398500000000 := rfl
  have hN := lgN_bd hm0 hm he he1
  have EC := Lib.hid (fun (Q : Nat) (q1 : p0 ≤ Q) (q2 : Q ≤ 2 * PB) w' ht hg => logC_any c0 d 1280 Q Q w' ht hg rfl hm0 hm (by omega) (by omega) (by omega) (by omega) (by omega))
  have hA : (d.m : Rat) * tw d.e ≤ tw ((4280 : Nat) : Int) := by
    have h2 : (d.m : Rat) ≤ tw ((1280 : Nat) : Int) := by rw [Ea.tw_nat, ← Ea.cast_two]; exact Rat.natCast_le_natCast.2 (Nat.le_of_lt hm)
    have h1 := Rat.mul_le_mul_of_nonneg_right h2 (Rat.le_of_lt (Ea.tw_pos d.e))
    rw [← Ea.tw_add] at h1
    exact Rat.le_trans h1 (Ea.tw_le (by omega))
  have hsep := fun j => Ea.sep_lg (show 0 < d.m by omega) hm he he1 hone hpl j
  have BD := Lib.hid (fun (Q k j : Nat) (q1 : p0 ≤ Q) (hk : k ≤ Q) (hj : j ≤ Q) hend hend2 => lb_bds (e := d.e) hm0 (show 4 ≤ Q by omega) hk hj hend hend2 hN)
  have OK := Lib.hid (fun (Q k j : Nat) (q1 : p0 ≤ Q) (hk : k ≤ Q) (hj : j ≤ Q) hend hend2 => lb_ok (e := d.e) hm0 (show 4 ≤ Q by omega) hk hj hend hend2)
  have MEET := Lib.hid (fun (Q k j : Nat) (q1 : p0 ≤ Q) (hk : k ≤ Q) (hj : j ≤ Q) hend hend2 (hQ : PB ≤ Q) (hQ2 : Q ≤ 2 * PB) => lgs_meet (pl := pl) (rv_vl _ (show 0 ≤ (lbL d.m d.e Q k j).e + (Q : Int) by have := (BD.out Q k j q1 hk hj hend hend2).1.2.2.1; omega)) (rv_vl _ (show 0 ≤ (lbH d.m d.e Q k j).e + (Q : Int) by have := (BD.out Q k j q1 hk hj hend hend2).2.2.2.1; omega)) (by omega) (OK.out Q k j q1 hk hj hend hend2).1 (OK.out Q k j q1 hk hj hend hend2).2 (lw_small hk hj hN hQ (by omega)) (by
    rw [Ea.le_div (Ea.two_pos Q), Rat.zero_mul]; exact Rat.natCast_nonneg) hA hsep)
  have MET := Lib.hid (fun (Q k j : Nat) (q1 : p0 ≤ Q) (hk : k ≤ Q) (hj : j ≤ Q) hend hend2 h => lgs_met (pl := pl) (rv_vl _ (show 0 ≤ (lbL d.m d.e Q k j).e + (Q : Int) by have := (BD.out Q k j q1 hk hj hend hend2).1.2.2.1; omega)) (rv_vl _ (show 0 ≤ (lbH d.m d.e Q k j).e + (Q : Int) by have := (BD.out Q k j q1 hk hj hend hend2).2.2.2.1; omega)) (by omega) (OK.out Q k j q1 hk hj hend hend2).1 h)
  have MUL := Lib.hid (fun (Q : Nat) (x : D) v w' ht hv (q1 : pl ≤ Q) (q2 : Q ≤ 2 * PB) (hx : x.Nf ∧ x.m < 2 ^ (Q + 24 + 1) ∧ -(Q : Int) ≤ x.e ∧ x.e ≤ ((Q + 24 + 1 : Nat) : Int)) => multiple_any v x (Q + 24 + 1) (-(pl : Int)) 2 w' ht hv hx.2.1 (by omega) (by omega) (by omega) (by omega) (by omega) (by decide) (by decide))
  have HT := Lib.hid hT
  have HD := Lib.hid hd
  clear hT hd hm hm0 he he1 hone hA hN hsep
  obtain ⟨B, hB⟩ : ∃ B : Nat, B = 2 * PB := ⟨_, rfl⟩
  have hB2 : B = 8797000000000 := by rw [hB]; rfl
  rw [← hB] at EC MEET MUL
  have hPB2 : PB + PB = B := by omega
  clear hB
  go_enter Tryd.func41, Tryd.ntmps41
  go_wp2_with fail
  have Z0 := Lib.hid (GD.nil w)
  have D0 := Lib.hid (HD.out.alloc (.cells #[.bool false, .slice none 0 0, .int .i64 0] 24))
  have B0 := Lib.hid ((Below.refl w.heap.size w).alloc (Nat.le_refl _) (.cells #[.bool false, .slice none 0 0, .int .i64 0] 24))
  go_loopw [1] (fun i wr => ∃ Q : Nat, i = .int .i64 (Q : Int) ∧ p0 ≤ Q ∧ Q ≤ B ∧ Hid (GD wr w.heap.size nz) ∧ Hid (GD wr c0 d) ∧ Hid (Below w.heap.size w wr))
    (fun i _ => B + 1 - (intOf i).toNat)
  case atStart => exact ⟨p0, rfl, Nat.le_refl _, by omega, Z0, D0, B0⟩
  case round =>
    obtain ⟨Q, rfl, q1, q2, gR, gD, hbel⟩ := hrel
    clear Z0 D0 B0
    go_wp2_with fail
    refine (EC.out Q q1 q2 _ (HT.out.below hbel.out) gD.out).mono ?_
    rintro r w1 ⟨k, j, hk, hj', hend, hend2, u1, u2, rfl, hu1, hu2, hb1⟩
    have o := BD.out Q k j q1 hk hj' hend hend2
    have MQ : Hid (PB ≤ Q → (lbL d.m d.e Q k j).vl Q / ((2 ^ (Q - pl) : Nat) : Int) = (lbH d.m d.e Q k j).vl Q / ((2 ^ (Q - pl) : Nat) : Int)) := Lib.hid (fun h => MEET.out Q k j q1 hk hj' hend hend2 h q2)
    have FQ : Hid ((lbL d.m d.e Q k j).vl Q / ((2 ^ (Q - pl) : Nat) : Int) = (lbH d.m d.e Q k j).vl Q / ((2 ^ (Q - pl) : Nat) : Int) → IsLg ((d.m : Rat) * tw d.e) ((lbL d.m d.e Q k j).vl Q / ((2 ^ (Q - pl) : Nat) : Int)) pl) := Lib.hid (fun h => MET.out Q k j q1 hk hj' hend hend2 h)
    obtain ⟨C, hC⟩ : ∃ C, C = lbL d.m d.e Q k j := ⟨_, rfl⟩
    obtain ⟨E, hE⟩ : ∃ E, E = lbH d.m d.e Q k j := ⟨_, rfl⟩
    rw [← hC, ← hE] at o MQ FQ
    rw [← hC] at hu1
    rw [← hE] at hu2
    have ML := Lib.hid (fun v w' ht hv => MUL.out Q C v w' ht hv (by omega) q2 o.1)
    have MH := Lib.hid (fun v w' ht hv => MUL.out Q E v w' ht hv (by omega) q2 o.2)
    rw [mul_places o.1.1 o.1.2.2.1 (show pl ≤ Q by omega)] at ML
    rw [mul_places o.2.1 o.2.2.2.1 (show pl ≤ Q by omega)] at MH
    generalize mulC C (-(pl : Int)) = bc at *
    generalize mulC E (-(pl : Int)) = be at *
    obtain ⟨fl, hfl⟩ : ∃ fl, fl = C.vl Q / ((2 ^ (Q - pl) : Nat) : Int) := ⟨_, rfl⟩
    obtain ⟨fh, hfh⟩ : ∃ fh, fh = E.vl Q / ((2 ^ (Q - pl) : Nat) : Int) := ⟨_, rfl⟩
    rw [← hfl] at ML MQ FQ
    rw [← hfh] at MH MQ FQ
    obtain ⟨A, hA⟩ : ∃ A, A = ofInt fl (-(pl : Int)) := ⟨_, rfl⟩
    obtain ⟨F, hF⟩ : ∃ F, F = ofInt fh (-(pl : Int)) := ⟨_, rfl⟩
    have HAF := Lib.hid (show (A = ofInt fl (-(pl : Int)) ∧ F = ofInt fh (-(pl : Int))) ∧ True from ⟨⟨hA, hF⟩, trivial⟩)
    rw [← hA] at ML
    rw [← hF] at MH
    obtain ⟨e1, f1, g1, rfl, hv1⟩ := hu1.parts
    obtain ⟨e2, f2, g2, rfl, hv2⟩ := hu2.parts
    have B1 := bl_thru hbel.out (Nat.le_refl _) hb1
    have R1 := gR.out.below hb1
    have D1 := gD.out.below hb1
    have hz1 : w.heap.size < w1.heap.size := R1.lt
    obtain ⟨V1, hV1⟩ : ∃ V, V = ((w1.alloc (.cells #[.bool C.neg, .slice e1 f1 g1, .int .i64 C.e] 24)).alloc (.cells #[.bool E.neg, .slice e2 f2 g2, .int .i64 E.e] 24)) := ⟨_, rfl⟩
    have gR1 := Lib.hid (show GD V1 w.heap.size nz from by rw [hV1]; exact (R1.alloc _).alloc _)
    have gD1 := Lib.hid (show GD V1 c0 d from by rw [hV1]; exact (D1.alloc _).alloc _)
    have BB1 := Lib.hid (show Below w.heap.size w V1 from by rw [hV1]; exact (B1.alloc (by omega) _).alloc (by simp; omega) _)
    have XC := Lib.hid (show Box V1 w1.heap.size 24 (.bool C.neg) (.slice e1 f1 g1) (.int .i64 C.e) from by rw [hV1]; exact (Box.new w1 _ _ _ _).alloc _)
    have XE := Lib.hid (show Box V1 (w1.heap.size + 1) 24 (.bool E.neg) (.slice e2 f2 g2) (.int .i64 E.e) from by rw [hV1]; exact Box.new2 w1 _ _ _ _ _)
    have NC := Lib.hid (show NV V1 (.slice e1 f1 g1) C.m from by rw [hV1]; exact (hv1.alloc _).alloc _)
    have NE := Lib.hid (show NV V1 (.slice e2 f2 g2) E.m from by rw [hV1]; exact (hv2.alloc _).alloc _)
    obtain ⟨b8, hb8⟩ : ∃ b8, b8 = w1.heap.size := ⟨_, rfl⟩
    rw [← hb8] at XC XE hz1
    clear hu1 hu2 hb1 hv1 hv2 B1 R1 D1 gR gD hbel o hC hE hfl hfh hA hF hk hj' hend hend2 EC BD OK MEET MET MUL
    go_wp2_with fail
    rw [← hV1, ← hb8]
    clear hV1 hb8
    refine (ML.out _ _ (HT.out.below BB1.out) ⟨_, rfl, NC.out⟩).mono ?_
    rintro r w2 ⟨a2, n2, m2, rfl, hv2, hb2⟩
    have BB2 := bl_thru BB1.out (Nat.le_refl _) hb2
    obtain ⟨V2, hV2⟩ : ∃ V, V = w2.alloc (.cells #[.bool A.neg, .slice a2 n2 m2, .int .i64 A.e] 24) := ⟨_, rfl⟩
    have hz2 : b8 + 1 < w2.heap.size := (XE.out.below hb2).lt
    have gR2 := Lib.hid (show GD V2 w.heap.size nz from by rw [hV2]; exact (gR1.out.below hb2).alloc _)
    have gD2 := Lib.hid (show GD V2 c0 d from by rw [hV2]; exact (gD1.out.below hb2).alloc _)
    have BC2 := Lib.hid (show Below w.heap.size w V2 from by rw [hV2]; exact BB2.alloc (by omega) _)
    have XE2 := Lib.hid (show Box V2 (b8 + 1) 24 (.bool E.neg) (.slice e2 f2 g2) (.int .i64 E.e) from by rw [hV2]; exact (XE.out.below hb2).alloc _)
    have NE2 := Lib.hid (show NV V2 (.slice e2 f2 g2) E.m from by rw [hV2]; exact (NE.out.below hb2).alloc _)
    have XA := Lib.hid (show Box V2 w2.heap.size 24 (.bool A.neg) (.slice a2 n2 m2) (.int .i64 A.e) from by rw [hV2]; exact Box.new w2 _ _ _ _)
    have NA := Lib.hid (show NV V2 (.slice a2 n2 m2) A.m from by rw [hV2]; exact hv2.alloc _)
    obtain ⟨j0, j1, j2, -, -, -⟩ := ((XE.out.below hb2).alloc (.cells #[.bool A.neg, .slice a2 n2 m2, .int .i64 A.e] 24)).cells
    obtain ⟨b9, hb9⟩ : ∃ b9, b9 = w2.heap.size := ⟨_, rfl⟩
    rw [← hb9] at XA hz2
    clear hv2 hb2 BB2 gR1 gD1 BB1 XC XE NC NE ML
    go_wp2_with fail
    rw [← hV2, ← hb9]
    clear hV2 hb9 j0 j1 j2
    refine (MH.out _ _ (HT.out.below BC2.out) ⟨_, rfl, NE2.out⟩).mono ?_
    rintro r w3 ⟨a3, n3, m3, rfl, hv3, hb3⟩
    have BB3 := bl_thru BC2.out (Nat.le_refl _) hb3
    have hz3 : b9 < w3.heap.size := (XA.out.below hb3).lt
    obtain ⟨V3, hV3⟩ : ∃ V, V = w3.alloc (.cells #[.bool F.neg, .slice a3 n3 m3, .int .i64 F.e] 24) := ⟨_, rfl⟩
    have gR3 := Lib.hid (show GD V3 w.heap.size nz from by rw [hV3]; exact (gR2.out.below hb3).alloc _)
    have gD3 := Lib.hid (show GD V3 c0 d from by rw [hV3]; exact (gD2.out.below hb3).alloc _)
    have BC3 := Lib.hid (show Below w.heap.size w V3 from by rw [hV3]; exact BB3.alloc (by omega) _)
    have XA3 := Lib.hid (show Box V3 b9 24 (.bool A.neg) (.slice a2 n2 m2) (.int .i64 A.e) from by rw [hV3]; exact (XA.out.below hb3).alloc _)
    have NA3 := Lib.hid (show NV V3 (.slice a2 n2 m2) A.m from by rw [hV3]; exact (NA.out.below hb3).alloc _)
    have XF := Lib.hid (show Box V3 w3.heap.size 24 (.bool F.neg) (.slice a3 n3 m3) (.int .i64 F.e) from by rw [hV3]; exact Box.new w3 _ _ _ _)
    have NF := Lib.hid (show NV V3 (.slice a3 n3 m3) F.m from by rw [hV3]; exact hv3.alloc _)
    obtain ⟨j0, j1, j2, -, -, -⟩ := ((XA.out.below hb3).alloc (.cells #[.bool F.neg, .slice a3 n3 m3, .int .i64 F.e] 24)).cells
    obtain ⟨b10, hb10⟩ : ∃ b10, b10 = w3.heap.size := ⟨_, rfl⟩
    rw [← hb10] at XF
    clear hv3 hb3 BB3 gR2 gD2 BC2 XE2 NE2 XA NA MH
    have SM := Lib.hid (fun w' h1 h2 => same_any (.agg #[.bool A.neg, .slice a2 n2 m2, .int .i64 A.e]) (.agg #[.bool F.neg, .slice a3 n3 m3, .int .i64 F.e]) A F w' h1 h2)
    have hcase : (sameB A F = true ∧ A = F) ∨ (sameB A F = false ∧ A ≠ F) := by
      cases hs : sameB A F
      · exact Or.inr ⟨rfl, fun h => by rw [sameB_iff.2 h] at hs; cases hs⟩
      · exact Or.inl ⟨rfl, sameB_iff.1 hs⟩
    generalize sameB A F = sb at *
    go_wp2_with fail
    rw [← hV3]
    refine (SM.out _ ⟨_, rfl, NA3.out⟩ ⟨_, rfl, NF.out⟩).mono ?_
    rintro r w4 ⟨rfl, hb4⟩
    have BB4 := Lib.hid (bl_thru BC3.out (Nat.le_refl _) hb4)
    have gR4 := Lib.hid (gR3.out.below hb4)
    have gD4 := Lib.hid (gD3.out.below hb4)
    have XA4 := Lib.hid (XA3.out.below hb4)
    have NA4 := Lib.hid (NA3.out.below hb4)
    clear hb4 hV3 hb10 j0 j1 j2 BC3 gR3 gD3 XA3 NA3 XF NF SM
    obtain ⟨i0, i1, i2, -, -, -⟩ := XA4.out.cells
    obtain ⟨_, _, _, z0, z1, z2, z3, z4, z5⟩ := gR4.out.cells
    rcases hcase with ⟨rfl, hAF⟩ | ⟨rfl, hAF⟩
    · have hres : Hid (IsLg ((d.m : Rat) * tw d.e) fl pl) := Lib.hid (by
        refine FQ.out ?_
        exact ofInt_inj (HAF.out.1.1.symm.trans (hAF.trans HAF.out.1.2)))
      clear hAF MQ FQ
      go_wp2_with fail
      clear i0 i1 i2 z0 z1 z2 z3 z4 z5
      obtain ⟨r1, r2, r3, hr, hrn⟩ := gR4.out.put (e := A) NA4.out
      have HR := Lib.hid hrn
      obtain ⟨s0, s1, s2, -, -, -⟩ := hr.cells
      clear hr hrn
      refine bodyPost_ret (v := .agg #[.bool A.neg, .slice r1 r2 r3, .int .i64 A.e]) (by simp [results, Tryd.results41, go_sem, s0, s1, s2]) rfl ?_
      refine ⟨fl, hres.out, ?_⟩
      rw [← HAF.out.1.1]
      exact ⟨_, rfl, ⟨_, rfl, HR.out⟩, bl_set3 BB4.out (Nat.le_refl _) _ _ _⟩
    · have hQlt : Q < PB := by
        refine Nat.lt_of_not_le fun h => hAF ?_
        rw [HAF.out.1.1, HAF.out.1.2, MQ.out h]
      clear hAF MQ FQ i0 i1 i2 z0 z1 z2 z3 z4 z5
      go_wp2_with fail
      go_roundw
      case rel => exact ⟨Q * 2, by simp, by omega, by omega, gR4, gD4, BB4⟩
      case measure => simp [intOf]; omega
end Go.Proofs.YtifadajkngncmaaDoor

/-
  THE WALK of series.Log.
-/
namespace Go.Proofs.YtifadajkngncmaaDoor
open Go.RowKit Nt Fm
open Ea (Pr IsLg tw PB)

/-- the error of Log -/
def slgE (c : Int) (d : D) (pl : Int) : Int := if sckE c d pl ≠ 0 then sckE c d pl else if sign d ≤ 0 then 4 else if d.e < -3000 ∨ 3000 < d.e then 2 else 0
/-- what Log tells -/
def RetSl (w : World) (E : Int) (d : D) (pl : Int) (r : Ending) (w' : World) : Prop :=
  ∃ R, RetR w E R r w' ∧ (E = 0 → ∃ q : Int, IsLg (rv d) q pl.toNat ∧ R = ofInt q (-pl)) ∧ (E ≠ 0 → R = nz)
theorem slgE_zero {c pl : Int} {d : D} (h : slgE c d pl = 0) : c = 0 ∧ 0 ≤ pl ∧ pl ≤ 1300 ∧ d.m < 2 ^ 1280 ∧ 0 < sign d ∧ -3000 ≤ d.e ∧ d.e ≤ 3000 := by
  unfold slgE at h
  by_cases h1 : sckE c d pl ≠ 0
  · rw [if_pos h1] at h; exact absurd h h1
  · rw [if_neg h1] at h
    obtain ⟨a, b, e, f⟩ := sckE_zero (Decidable.not_not.1 h1)
    by_cases h2 : sign d ≤ 0
    · rw [if_pos h2] at h; omega
    · rw [if_neg h2] at h
      by_cases h3 : d.e < -3000 ∨ 3000 < d.e
      · rw [if_pos h3] at h; omega
      · exact ⟨a, b, e, f, by omega, by omega, by omega⟩
theorem sign_pos {d : D} (h : 0 < sign d) : d.m ≠ 0 ∧ rv d = (d.m : Rat) * tw d.e := by
  unfold sign at h
  split at h
  · omega
  · rename_i h1
    refine ⟨h1, ?_⟩
    split at h
    · omega
    · rename_i h2
      unfold rv D.sm
      rw [if_neg h2]
      rfl
theorem lg_one (pl : Nat) : IsLg 1 0 pl ∧ ofInt 0 (-(pl : Int)) = nz := by
  have hp := Ea.tw_pos (-(pl : Int))
  have e0 : ((0 : Int) : Rat) = 0 := rfl
  refine ⟨⟨by rw [e0, Rat.zero_mul]; exact Ea.hi_zero, 0, by rw [e0]; grind, Ea.lo_zero⟩, ?_⟩
  unfold ofInt norm; rfl
theorem one_of {d : D} (hn : d.Nf) (h : rv d = 1) : d = norm false 1 0 := by
  obtain ⟨T, h1, h2⟩ := exT d.e 0
  refine nf_inj (T := T) hn (norm_nf _ _ _) h1 (norm_eT h2) ?_
  have hP := Ea.two_pos T
  have a := rv_vl d h1
  rw [h, Rat.one_mul] at a
  have b := rv_vl (norm false 1 0) (T := T) (norm_eT h2)
  rw [rv_norm, rv_pos, Ea.tw_zero, Rat.mul_one] at b
  have e1 : ((1 : Nat) : Rat) = 1 := rfl
  rw [e1, Rat.one_mul, a] at b
  exact Rat.intCast_inj.1 b
set_option maxRecDepth 100000 in
set_option maxHeartbeats 8000000 in
theorem slog_any (v : Value) (c pl : Int) (d : D) (w : World) (hT : Tab w) (h : RD w v c d) (p0 : -9223372036854775808 ≤ pl) (p1 : pl ≤ 9223372036854775807) :
    Calls Tryd.prog 17 #[v, .int .i64 pl] w (RetSl w (slgE c d pl) d pl) := by
  have SC := Lib.hid (fun w' hb => scheck_any v c pl d w' (h.below (w' := w') hb))
  have h' := h
  obtain ⟨g, ao, n, cp, x, rfl, -⟩ := h
  have HT := Lib.hid hT
  by_cases hk : sckE c d pl ≠ 0
  · have he : slgE c d pl = sckE c d pl := by unfold slgE; rw [if_pos hk]
    have hb1 : (sckE c d pl != 0) = true := by rw [bne_iff_ne]; exact hk
    unfold RetSl
    rw [he]
    have HE := Lib.hid (show sckE c d pl ≠ 0 ∧ True from ⟨hk, trivial⟩)
    generalize sckE c d pl = E at *
    clear he hk h'
    go_enter Tryd.func17, Tryd.ntmps17
    go_wp2_with fail
    refine (SC.out _ (bl_alloc2 _ _ _)).mono ?_
    rintro r w1 ⟨rfl, hb⟩
    have B1 := Lib.hid (bl_thru (bl_alloc2 w _ _) (Nat.le_refl _) hb)
    have Z1 := Lib.hid ((GD.nil2 w (.cells #[.bool g, .slice ao n cp, .int .i64 x] 24)).below hb)
    obtain ⟨_, _, _, z0, z1, z2, z3, z4, z5⟩ := Z1.out.cells
    clear hb
    go_wp2
    clear z0 z1 z2 z3 z4 z5
    have HZ := Lib.hid Z1.out.zput
    obtain ⟨s0, s1, s2, -, -, -⟩ := HZ.out.cells
    refine bodyPost_ret (v := .tuple #[.agg #[.bool false, .slice none 0 0, .int .i64 0], .int .i64 E]) (by simp [results, Tryd.results17, go_sem, s0, s1, s2]) rfl ?_
    exact ⟨nz, ⟨none, 0, 0, rfl, NV.nil _, bl_set3 B1.out (by omega) _ _ _⟩, fun h0 => absurd h0 HE.out.1, fun _ => rfl⟩
  · have hk0 : sckE c d pl = 0 := Decidable.not_not.1 hk
    obtain ⟨rfl, q0, q1, hm⟩ := sckE_zero hk0
    have fit := h'.fit
    have hdv := h'.dv
    obtain ⟨g', ao', n', cp', x', e9, -, -, -, h7, -⟩ := h'
    obtain ⟨rfl, ⟨rfl, rfl, rfl⟩, rfl⟩ : g = g' ∧ (ao = ao' ∧ n = n' ∧ cp = cp') ∧ x = x' := by simpa using e9
    obtain ⟨hnv, rfl, rfl, -⟩ := h7 rfl
    rw [hk0] at SC
    obtain ⟨pn, rfl⟩ : ∃ pn : Nat, pl = (pn : Int) := ⟨pl.toNat, by omega⟩
    have SG := Lib.hid (fun w' hd => sign_any (.agg #[.bool d.neg, .slice ao n cp, .int .i64 d.e]) d w' hd)
    have O1 := Lib.hid (fun w' => natOf_any 1 (by omega) (by omega) w')
    have N1 := Lib.hid (fun va w' ht ha => dnorm_any false va 1 1 0 w' ht ha (by decide) (by omega) (by omega) (by omega))
    have SM := Lib.hid (fun v2 w' h1 h2 => same_any (.agg #[.bool d.neg, .slice ao n cp, .int .i64 d.e]) v2 d (norm false 1 0) w' h1 h2)
    have he : slgE 0 d pn = if sign d ≤ 0 then 4 else if d.e < -3000 ∨ 3000 < d.e then 2 else 0 := by unfold slgE; rw [if_neg (by omega)]
    have hcase : (sign d ≤ 0 ∧ slgE 0 d pn = 4) ∨ (0 < sign d ∧ ((d.e < -3000 ∧ slgE 0 d pn = 2) ∨ (-3000 ≤ d.e ∧ 3000 < d.e ∧ slgE 0 d pn = 2) ∨ (-3000 ≤ d.e ∧ d.e ≤ 3000 ∧ slgE 0 d pn = 0))) := by
      rw [he]
      by_cases h2 : sign d ≤ 0
      · left; rw [if_pos h2]; exact ⟨h2, rfl⟩
      · right
        rw [if_neg h2]
        refine ⟨by omega, ?_⟩
        by_cases h3 : d.e < -3000
        · left; rw [if_pos (Or.inl h3)]; exact ⟨h3, rfl⟩
        · right
          by_cases h4 : 3000 < d.e
          · left; rw [if_pos (Or.inr h4)]; exact ⟨by omega, h4, rfl⟩
          · right; rw [if_neg (by omega)]; exact ⟨by omega, by omega, rfl⟩
    have hS : (sameB d (norm false 1 0) = true ∧ rv d = 1) ∨ (sameB d (norm false 1 0) = false ∧ rv d ≠ 1) := by
      cases hs : sameB d (norm false 1 0)
      · refine Or.inr ⟨rfl, fun h => ?_⟩
        have := one_of fit.1 h
        rw [this, sameB_refl] at hs
        cases hs
      · refine Or.inl ⟨rfl, ?_⟩
        rw [sameB_iff.1 hs, rv_norm, rv_pos, Ea.tw_zero, Rat.mul_one]; rfl
    have hpos : 0 < sign d → d.m ≠ 0 ∧ rv d = (d.m : Rat) * tw d.e := sign_pos
    unfold RetSl
    have HNV := Lib.hid hnv
    have HPOS := Lib.hid hpos
    generalize slgE 0 d pn = E at *
    generalize sameB d (norm false 1 0) = sb at *
    generalize sign d = sg at *
    have HS := Lib.hid hS
    clear he hk hk0 h7 e9 hT hnv hdv hpos hS
    go_enter Tryd.func17, Tryd.ntmps17
    go_wp2_with fail
    refine (SC.out _ (bl_alloc2 _ _ _)).mono ?_
    rintro r w1 ⟨rfl, hb1⟩
    have B1 := Lib.hid (bl_thru (bl_alloc2 w _ _) (Nat.le_refl _) hb1)
    have Z1 := Lib.hid ((GD.nil2 w (.cells #[.bool d.neg, .slice ao n cp, .int .i64 d.e] 24)).below hb1)
    have X1 := Lib.hid (((Box.new w (.bool d.neg) (.slice ao n cp) (.int .i64 d.e) 24).alloc (.cells #[.bool false, .slice none 0 0, .int .i64 0] 24)).below hb1)
    clear hb1 SC
    obtain ⟨j0, j1, j2, -, -, -⟩ := X1.out.cells
    go_wp2_with fail
    refine (SG.out _ ⟨_, rfl, HNV.out.below B1.out⟩).mono ?_
    rintro r w2 ⟨rfl, hb2⟩
    have B2 := Lib.hid (bl_thru B1.out (Nat.le_refl _) hb2)
    have Z2 := Lib.hid (Z1.out.below hb2)
    have X2 := Lib.hid (X1.out.below hb2)
    clear hb2 SG B1 Z1 X1 j0 j1 j2
    obtain ⟨j0, j1, j2, -, -, -⟩ := X2.out.cells
    rcases hcase with ⟨h1, hE⟩ | ⟨h1, ⟨h2, hE⟩ | ⟨h2, h3, hE⟩ | ⟨h2, h3, hE⟩⟩
    · obtain ⟨_, _, _, z0, z1, z2, z3, z4, z5⟩ := Z2.out.cells
      go_wp2
      clear z0 z1 z2 z3 z4 z5
      have HZ := Lib.hid Z2.out.zput
      obtain ⟨s0, s1, s2, -, -, -⟩ := HZ.out.cells
      refine bodyPost_ret (v := .tuple #[.agg #[.bool false, .slice none 0 0, .int .i64 0], .int .i64 4]) (by simp [results, Tryd.results17, go_sem, s0, s1, s2]) rfl ?_
      subst hE
      exact ⟨nz, ⟨none, 0, 0, rfl, NV.nil _, bl_set3 B2.out (by omega) _ _ _⟩, fun h0 => absurd h0 (by decide), fun _ => rfl⟩
    · obtain ⟨_, _, _, z0, z1, z2, z3, z4, z5⟩ := Z2.out.cells
      go_wp2
      clear z0 z1 z2 z3 z4 z5
      have HZ := Lib.hid Z2.out.zput
      obtain ⟨s0, s1, s2, -, -, -⟩ := HZ.out.cells
      refine bodyPost_ret (v := .tuple #[.agg #[.bool false, .slice none 0 0, .int .i64 0], .int .i64 2]) (by simp [results, Tryd.results17, go_sem, s0, s1, s2]) rfl ?_
      subst hE
      exact ⟨nz, ⟨none, 0, 0, rfl, NV.nil _, bl_set3 B2.out (by omega) _ _ _⟩, fun h0 => absurd h0 (by decide), fun _ => rfl⟩
    · obtain ⟨_, _, _, z0, z1, z2, z3, z4, z5⟩ := Z2.out.cells
      go_wp2
      clear z0 z1 z2 z3 z4 z5
      have HZ := Lib.hid Z2.out.zput
      obtain ⟨s0, s1, s2, -, -, -⟩ := HZ.out.cells
      refine bodyPost_ret (v := .tuple #[.agg #[.bool false, .slice none 0 0, .int .i64 0], .int .i64 2]) (by simp [results, Tryd.results17, go_sem, s0, s1, s2]) rfl ?_
      subst hE
      exact ⟨nz, ⟨none, 0, 0, rfl, NV.nil _, bl_set3 B2.out (by omega) _ _ _⟩, fun h0 => absurd h0 (by decide), fun _ => rfl⟩
    · subst hE
      obtain ⟨hm0, hrv⟩ := HPOS.out h1
      have HR := Lib.hid (show (d.m ≠ 0 ∧ rv d = (d.m : Rat) * tw d.e) ∧ True from ⟨⟨hm0, hrv⟩, trivial⟩)
      clear hm0 hrv HPOS
      have FLc := Lib.hid (fun (hne : rv d ≠ 1) (X : Int) w' (hX : X = ((pn + 64 : Nat) : Int)) (ht : Tab w') (hg : GD w' w.heap.size d) => show Calls Tryd.prog 41 #[.int .i64 (pn : Int), .int .i64 X, .func (.func 45) #[] #[.pointer (some ⟨w.heap.size, 0, none⟩)]] w' (fun r w'' => ∃ q : Int, IsLg (rv d) q pn ∧ RetD w' (ofInt q (-(pn : Int))) r w'') from by
        subst hX
        rw [HR.out.1.2]
        exact floorL_any w.heap.size d (pn + 64) pn w' ht hg HR.out.1.1 hm h2 h3 (by rw [← HR.out.1.2]; exact hne) (by omega) (by omega) (by omega))
      clear hm
      go_wp2_with fail
      obtain ⟨j0, j1, j2, -, -, -⟩ := X2.out.drew.cells
      go_region_held3 (fun w' => w'.cell? ⟨w.heap.size, 0, none⟩ = some (.bool d.neg) ∧ w'.cell? ⟨w.heap.size, 1, none⟩ = some (.slice ao n cp) ∧ w'.cell? ⟨w.heap.size, 2, none⟩ = some (.int .i64 d.e))
        (first
          | with_reducible exact ⟨j0, j1, j2⟩
          | (obtain ⟨i0, i1, i2, -, -, -⟩ := (X2.out.drew.below hb2).cells
             with_reducible exact ⟨i0, i1, i2⟩)
          | (obtain ⟨i0, i1, i2, -, -, -⟩ := ((X2.out.drew.below HB2.out).below hb3).cells
             with_reducible exact ⟨i0, i1, i2⟩)
          | (obtain ⟨i0, i1, i2, -, -, -⟩ := (((X2.out.drew.below HB2.out).below HB3.out).below hb4).cells
             with_reducible exact ⟨i0, i1, i2⟩))
        (first
          | (go_at_call 40; refine (O1.out _).mono ?_; rintro r w3 ⟨v2, rfl, hv2, hb2⟩; have HB2 := Lib.hid hb2; have V2 := Lib.hid hv2; have B3 := Lib.hid (bl_thru B2.out.drew (Nat.le_refl _) hb2))
          | (go_at_call 39; refine (N1.out _ _ (HT.out.below B3.out) V2.out).mono ?_; rintro r w4 ⟨v3, rfl, hv3, hb3⟩; have HB3 := Lib.hid hb3; have V3 := Lib.hid hv3; have B4 := Lib.hid (bl_thru B3.out (Nat.le_refl _) hb3))
          | (go_at_call 36; refine (SM.out _ _ ⟨_, rfl, HNV.out.below B4.out⟩ V3.out).mono ?_; rintro r w5 ⟨rfl, hb4⟩; have HB4 := Lib.hid hb4; have B5 := Lib.hid (bl_thru B4.out (Nat.le_refl _) hb4)))
      have Z5 := Lib.hid (((Z2.out.drew.below HB2.out).below HB3.out).below HB4.out)
      have X5 := Lib.hid (((X2.out.drew.below HB2.out).below HB3.out).below HB4.out)
      clear hv2 hb2 hv3 hb3 hb4 HB2 HB3 HB4 V2 V3 B2 B3 B4 Z2 X2 j0 j1 j2
      have hS := HS.out
      clear HS
      rcases hS with ⟨rfl, hv1⟩ | ⟨rfl, hv1⟩
      · have hres : Hid ((∃ q : Int, IsLg (rv d) q ((pn : Int)).toNat ∧ nz = ofInt q (-(pn : Int))) ∧ True) := Lib.hid ⟨⟨0, by
          rw [hv1, Int.toNat_natCast]; exact (lg_one pn).1, (lg_one pn).2.symm⟩, trivial⟩
        clear hv1 FLc
        obtain ⟨_, _, _, z0, z1, z2, z3, z4, z5⟩ := Z5.out.cells
        go_wp2
        clear z0 z1 z2 z3 z4 z5
        have HZ := Lib.hid Z5.out.zput
        obtain ⟨s0, s1, s2, -, -, -⟩ := HZ.out.cells
        refine bodyPost_ret (v := .tuple #[.agg #[.bool false, .slice none 0 0, .int .i64 0], .int .i64 0]) (by simp [results, Tryd.results17, go_sem, s0, s1, s2]) rfl ?_
        refine ⟨nz, ⟨none, 0, 0, rfl, NV.nil _, bl_set3 B5.out (by omega) _ _ _⟩, ?_⟩
        first
          | exact hres.out.1
          | exact ⟨fun _ => hres.out.1, fun h0 => absurd rfl h0⟩
      · have FL2 := Lib.hid (FLc.out hv1)
        clear hv1 FLc
        have G5 := Lib.hid (show GD w5 w.heap.size d from ⟨ao, n, cp, X5.out, HNV.out.below B5.out⟩)
        obtain ⟨j0, j1, j2, -, -, -⟩ := X5.out.cells
        go_wp2_with fail
        refine (FL2.out ((pn : Int) + 64) _ (by omega) (HT.out.below B5.out) G5.out).mono ?_
        rintro r w6 ⟨q, hq, v5, rfl, hu5, hb5⟩
        obtain ⟨R, hR⟩ : ∃ R, R = ofInt q (-(pn : Int)) := ⟨_, rfl⟩
        rw [← hR] at hu5
        have HQ := Lib.hid (show (IsLg (rv d) q ((pn : Int)).toNat ∧ R = ofInt q (-(pn : Int))) ∧ True from ⟨⟨by rw [Int.toNat_natCast]; exact hq, hR⟩, trivial⟩)
        obtain ⟨e1, f1, g1, rfl, hv5⟩ := hu5.parts
        have B6 := Lib.hid (bl_thru B5.out (Nat.le_refl _) hb5)
        have Z6 := Lib.hid (Z5.out.below hb5)
        have V6 := Lib.hid hv5
        clear hu5 hv5 hb5 hR hq j0 j1 j2 G5 FL2
        obtain ⟨_, _, _, z0, z1, z2, z3, z4, z5⟩ := Z6.out.cells
        go_wp2_with fail
        clear z0 z1 z2 z3 z4 z5
        obtain ⟨r1, r2, r3, hr, hrn⟩ := Z6.out.put (e := R) V6.out
        have HRn := Lib.hid hrn
        obtain ⟨s0, s1, s2, -, -, -⟩ := hr.cells
        clear hr hrn
        refine bodyPost_ret (v := .tuple #[.agg #[.bool R.neg, .slice r1 r2 r3, .int .i64 R.e], .int .i64 0]) (by simp [results, Tryd.results17, go_sem, s0, s1, s2]) rfl ?_
        refine ⟨R, ⟨r1, r2, r3, rfl, HRn.out, bl_set3 B6.out (by omega) _ _ _⟩, ?_⟩
        first
          | exact ⟨q, HQ.out.1.1, HQ.out.1.2⟩
          | exact ⟨fun _ => ⟨q, HQ.out.1.1, HQ.out.1.2⟩, fun h0 => absurd rfl h0⟩
end Go.Proofs.YtifadajkngncmaaDoor

/-
  THE WALK of seriesLives.
-/
namespace Go.Proofs.YtifadajkngncmaaDoor
open Go.RowKit Nt Fm
open Ea (tw IsFl IsLg Lo Hi)

theorem slg_2 : slgE 0 d2 8 = 0 := by
  unfold slgE
  rw [if_neg (by rw [sck_1.2]; decide), if_neg (by decide), if_neg (by decide)]
theorem RetSl.tel {w w' : World} {c pl : Int} {d : D} {r : Ending} (h : RetSl w (slgE c d pl) d pl r w') : ∃ R, RetR w (slgE c d pl) R r w' ∧ Tel (IsLg (rv d)) (slgE c d pl) R pl := by
  obtain ⟨R, h1, h2, h3⟩ := h
  refine ⟨R, h1, fun hE => ?_, h3⟩
  obtain ⟨-, p0, p1, hm, hs, e0, e1⟩ := slgE_zero hE
  obtain ⟨q, h4, h5⟩ := h2 hE
  obtain ⟨hm0, hrv⟩ := sign_pos hs
  have hm1 : (1 : Rat) ≤ (d.m : Rat) := Rat.natCast_le_natCast.2 (show 1 ≤ d.m by omega)
  have hm2 : (d.m : Rat) ≤ tw ((1280 : Nat) : Int) := by rw [Ea.tw_nat, ← Ea.cast_two]; exact Rat.natCast_le_natCast.2 (Nat.le_of_lt hm)
  have hte := Ea.tw_pos d.e
  refine ⟨p0, p1, q, h4, lg_bd h4 ?_ ?_ (by omega), h5⟩
  · rw [hrv]
    have h1 := Rat.mul_le_mul_of_nonneg_right hm2 (Rat.le_of_lt hte)
    rw [← Ea.tw_add] at h1
    exact Rat.le_trans h1 (Ea.tw_le (by omega))
  · rw [hrv]
    have h1 := Rat.mul_le_mul_of_nonneg_right hm1 (Rat.le_of_lt hte)
    have h2 := Ea.tw_le e0
    grind
theorem slg_pos {c pl : Int} {d : D} (h : slgE c d pl = 0) : 0 < rv d := by
  obtain ⟨-, -, -, -, hs, -, -⟩ := slgE_zero h
  obtain ⟨hm0, hrv⟩ := sign_pos hs
  rw [hrv]
  exact Rat.mul_pos (Rat.natCast_pos.2 (by omega)) (Ea.tw_pos _)
/-- the places that Log tells -/
noncomputable def lgQ (a : Rat) (pl : Nat) : Int := Classical.epsilon fun q => IsLg a q pl
theorem lgQ_is {a : Rat} (ha : 0 < a) {q : Int} {pl : Nat} (h : IsLg a q pl) : lgQ a pl = q := IsLg.uniq ha (Classical.epsilon_spec (p := fun q => IsLg a q pl) ⟨q, h⟩) h
noncomputable def slgR (c : Int) (d : D) (pl : Int) : D := if slgE c d pl = 0 then ofInt (lgQ (rv d) pl.toNat) (-pl) else nz
/-- Log with what is known of it -/
theorem slogT (v : Value) (c pl : Int) (d : D) (w : World) (hT : Tab w) (h : RD w v c d) (p0 : -9223372036854775808 ≤ pl) (p1 : pl ≤ 9223372036854775807) :
    Calls Tryd.prog 17 #[v, .int .i64 pl] w fun r w' => RetR w (slgE c d pl) (slgR c d pl) r w' ∧ Tel (IsLg (rv d)) (slgE c d pl) (slgR c d pl) pl := by
  refine (slog_any v c pl d w hT h p0 p1).mono ?_
  intro r w' hr
  obtain ⟨R, h1, ht⟩ := hr.tel
  have e : R = slgR c d pl := by
    unfold slgR
    by_cases hE : slgE c d pl = 0
    · obtain ⟨-, -, q, a, -, b⟩ := ht.1 hE
      rw [if_pos hE, lgQ_is (slg_pos hE) a]; exact b
    · rw [if_neg hE]; exact ht.2 hE
  rw [← e]
  exact ⟨h1, ht⟩
theorem log_eight (v : Value) (w : World) (hT : Tab w) (h : RD w v 0 d2) : Calls Tryd.prog 17 #[v, .int .i64 8] w (RetR w 0 ⟨false, 177, -8⟩) := by
  refine (slog_any v 0 8 d2 w hT h (by decide) (by decide)).mono ?_
  rintro r w' ⟨R, h1, h2, -⟩
  obtain ⟨q, h3, rfl⟩ := h2 slg_2
  rw [slg_2] at h1
  rw [rv_d2] at h3
  have := IsLg.uniq (by decide) h3 l_eight
  rw [this, out_l] at h1
  exact h1
set_option maxRecDepth 100000 in
set_option maxHeartbeats 8000000 in
theorem seriesLives_any (w : World) (hT : Tab w) :
    Calls Tryd.prog 14 #[] w fun e w' => e = .returned (.bool true) ∧ Below w.heap.size w w' := by
  obtain ⟨D_e, hD_e⟩ : ∃ D : D, D = ⟨false, 695, -8⟩ := ⟨_, rfl⟩
  obtain ⟨D_l, hD_l⟩ : ∃ D : D, D = ⟨false, 177, -8⟩ := ⟨_, rfl⟩
  have HE := Lib.hid (fun v w' ht hr => exp_eight v w' ht hr)
  have HL := Lib.hid (fun v w' ht hr => log_eight v w' ht hr)
  rw [← hD_e] at HE
  rw [← hD_l] at HL
  have S1 := Lib.hid (fun v u w' h1 h2 => same_any v u D_e D_e w' h1 h2)
  have S2 := Lib.hid (fun v u w' h1 h2 => same_any v u D_l D_l w' h1 h2)
  rw [sameB_refl] at S1 S2
  have Q1 := Lib.hid hD_e
  have Q2 := Lib.hid hD_l
  have F_e : Hid (Fit D_e) := Lib.hid (by rw [hD_e]; exact fit_ofk (k := 10) (Or.inr (by decide)) (by omega) (by decide) (by decide) (by decide))
  have F_l : Hid (Fit D_l) := Lib.hid (by rw [hD_l]; exact fit_ofk (k := 10) (Or.inr (by decide)) (by omega) (by decide) (by decide) (by decide))
  have HT := Lib.hid hT
  have k2 := ok2_mk
  clear hT hD_e hD_l
  go_enter Tryd.func14, Tryd.ntmps14
  go_wp2_with fail
  refine (HE.out _ _ (HT.out.below (by go_grown)) (rd_of (d := d1) ((nv_uno w _ 1 _ rfl (by decide) (by decide)).alloc _) fit1)).mono ?_
  rintro r w1 ⟨a_e, n_e, k_e, rfl, hv, hb⟩
  have S : Below w.heap.size w w1 := bl_thru (by go_grown) (Nat.le_refl _) hb
  have B := Lib.hid S
  have R_e := Lib.hid (rd_of (d := D_e) hv F_e.out)
  clear hb S hv
  go_wp2_with fail
  refine (HL.out _ _ (HT.out.below (by have := B.out; have := B.out.size; go_grown)) (rd_of (d := d2) (nv_uno _ _ 1 _ (by simp) (by decide) (by decide)) fit2)).mono ?_
  rintro r w2 ⟨a_l, n_l, k_l, rfl, hv, hb⟩
  have S : Below w1.heap.size w1 w2 := bl_thru (by go_grown) (Nat.le_refl _) hb
  replace B := Lib.hid (bl_thru B.out (Nat.le_refl _) S)
  have X_e := Lib.hid (((Box.new w1 _ _ _ _).alloc _).below hb)
  replace R_e := Lib.hid (R_e.out.below S)
  have R_l := Lib.hid (rd_of (d := D_l) hv F_l.out)
  clear hb S hv
  obtain ⟨c0_e, c1_e, c2_e, d0_e, d1_e, d2_e⟩ := X_e.out.cells
  have l_e := X_e.out.lt
  go_wp2_with (go_at_call 18; refine (ok_new2 _ _  _ _ (by simp)).mono ?_; rintro e w' ⟨rfl, rfl⟩)
  refine (S1.out _ _ _ ?_ ?_).mono ?_
  · exact (R_e.out.below (by go_grown)).dv
  · exact (by rw [Q1.out]; exact dv_uno _ _ 695 _ (-8) _ (by decide) (by simp) (by decide) (by decide))
  rintro r w3 ⟨rfl, hb⟩
  have S : Below w2.heap.size w2 w3 := bl_thru (by go_grown) (Nat.le_refl _) hb
  replace B := Lib.hid (bl_thru B.out (Nat.le_refl _) S)
  clear X_e
  have X_l := Lib.hid ((((Box.new w2 _ _ _ _).alloc _).alloc _).below hb)
  clear R_e
  replace R_l := Lib.hid (R_l.out.below S)
  clear hb S c0_e c1_e c2_e d0_e d1_e d2_e l_e
  obtain ⟨c0_l, c1_l, c2_l, d0_l, d1_l, d2_l⟩ := X_l.out.cells
  have l_l := X_l.out.lt
  go_wp2_with fail
  refine (S2.out _ _ _ ?_ ?_).mono ?_
  · exact (R_l.out.below (by go_grown)).dv
  · exact (by rw [Q2.out]; exact dv_uno _ _ 177 _ (-8) _ (by decide) (by simp) (by decide) (by decide))
  rintro r w4 ⟨rfl, hb⟩
  have S : Below w3.heap.size w3 w4 := bl_thru (by go_grown) (Nat.le_refl _) hb
  replace B := Lib.hid (bl_thru B.out (Nat.le_refl _) S)
  clear X_l
  clear R_l
  clear hb S c0_l c1_l c2_l d0_l d1_l d2_l l_l
  go_wp2
  go_ret
  exact ⟨rfl, B.out⟩
end Go.Proofs.YtifadajkngncmaaDoor

/-
  PLAIN: the laws of series.
-/
namespace Go.Proofs.YtifadajkngncmaaDoor
open Go.RowKit Nt Fm
open Ea (IsFl IsLg tw)

theorem nm_true {d1 d2 : D} (h : cmp d1 d2 ≤ 0) (v1 v2 : Value) (w : World) (hT : Tab w) (h1 : RD w v1 0 d1) (h2 : RD w v2 0 d2) :
    Calls Tryd.prog 15 #[v1, v2] w fun r w' => r = .returned (.bool true) ∧ Below w.heap.size w w' := by
  have := noMore_any v1 v2 0 0 d1 d2 w hT h1 h2
  rw [nmB_zero, decide_eq_true h] at this
  exact this
theorem ok4_all {a b c d : Int} (h : ok4 a b c d = true) : a = 0 ∧ b = 0 ∧ c = 0 ∧ d = 0 := by
  unfold ok4 at h; simp [and_assoc] at h; exact h
theorem ok2_two {a b : Int} (h : ok2 a b = true) : a = 0 ∧ b = 0 := by
  unfold ok2 at h; simp [and_assoc] at h; exact h
theorem opE_00 {S : D} (h : opE 0 0 S = 0) : opR 0 0 S = S := by unfold opR; rw [if_pos h]
theorem opE_of {S : D} (h : Fit S) : opE 0 0 S = 0 ∧ opR 0 0 S = S := by
  have e : opE 0 0 S = 0 := by rw [(opE_zero _).1]; exact fitE_of h
  exact ⟨e, opE_00 e⟩
theorem add_fit {a b : D} (h : Fit (plus a b)) (v1 v2 : Value) (w : World) (hT : Tab w) (h1 : RD w v1 0 a) (h2 : RD w v2 0 b) : Calls Tryd.prog 19 #[v1, v2] w (RetR w 0 (plus a b)) := by
  have := add_any v1 v2 0 0 a b w hT h1 h2
  rw [(opE_of h).1, (opE_of h).2] at this
  exact this
theorem mul_fit {a b : D} (h : Fit (times a b)) (v1 v2 : Value) (w : World) (hT : Tab w) (h1 : RD w v1 0 a) (h2 : RD w v2 0 b) : Calls Tryd.prog 21 #[v1, v2] w (RetR w 0 (times a b)) := by
  have := mul_any v1 v2 0 0 a b w hT h1 h2
  rw [(opE_of h).1, (opE_of h).2] at this
  exact this
theorem one_fit {e : Int} (h0 : -9000 ≤ e) (h1 : e ≤ 9000) : Fit (⟨false, 1, e⟩ : D) := fit_ofk (k := 1) (Or.inr (by show 1 % 2 = 1; decide)) (by omega) (by show 1 < 2 ^ 1; decide) (by show -10000 ≤ e; omega) (by show e ≤ 10000; omega)
theorem rv_step (e : Int) : rv (⟨false, 1, e⟩ : D) = tw e := by
  rw [rv_pos]
  have : ((1 : Nat) : Rat) = 1 := rfl
  rw [this, Rat.one_mul]
theorem fl_nonneg {x : Rat} {q : Int} {pl : Nat} (h : IsFl x q pl) : 0 ≤ q := by
  obtain ⟨-, z, h2, h3⟩ := h
  have hz := h2.pos
  refine Ea.lt_of_mul (i := 0) (j := q) (Ea.tw_pos (-(pl : Int))) ?_
  have e0 : ((0 : Int) : Rat) = 0 := rfl
  rw [e0, Rat.zero_mul]; grind
/-- there and back -/
theorem back_law {F1 F2 F3 : Int} {d X Y A Z U : D} {pl : Int} (hd : 0 < rv d) (hx : Tel (IsLg (rv d)) F1 X pl) (hy : Tel (IsFl (rv X)) F2 Y 60) (hz : Tel (IsFl (rv A)) F3 Z 60)
    (ex : F1 = 0) (ey : F2 = 0) (ez : F3 = 0) (hA : A = plus X ⟨false, 1, -pl⟩) (hU : U = plus Z ⟨false, 1, -60⟩) : cmp Y d ≤ 0 ∧ cmp d U ≤ 0 := by
  obtain ⟨p0, p1, q, ⟨h1, t, h2, h3⟩, -, rfl⟩ := hx.1 ex
  obtain ⟨-, -, y, ⟨h4, -⟩, -, rfl⟩ := hy.1 ey
  obtain ⟨-, -, z, ⟨-, b, h5, h6⟩, -, rfl⟩ := hz.1 ez
  obtain ⟨p, rfl⟩ : ∃ p : Nat, pl = (p : Int) := ⟨pl.toNat, by omega⟩
  rw [Int.toNat_natCast] at h1 h2
  rw [rv_ofInt] at h4
  constructor
  · rw [rv_le, rv_ofInt]
    exact Ea.lo_hi h4 h1
  · rw [rv_le, hU, rv_plus, rv_ofInt, rv_step]
    rw [hA, rv_plus, rv_ofInt, rv_step] at h5
    have h7 := Ea.lo_hi (Ea.lo_mono h3 (show t ≤ (q : Rat) * tw (-(p : Int)) + tw (-(p : Int)) by grind)) h5
    have h8 : ((z : Rat) + 1) * tw (-((60 : Int).toNat : Int)) = (z : Rat) * tw (-60) + tw (-60) := by
      rw [Rat.add_mul, Rat.one_mul]; rfl
    rw [h8] at h6
    grind
theorem two_ofInt (pl : Int) : (⟨false, 1, 1 - pl⟩ : D) = ofInt 2 (-pl) := by
  have := ofInt_shift 1 (-pl) 1
  rw [← ofInt_one, show (1 : Int) - pl = -pl + ((1 : Nat) : Int) by omega, ← this]
  rfl
theorem natAbs_add_lt {a b : Int} {k l : Nat} (ha : a.natAbs < 2 ^ k) (hb : b.natAbs < 2 ^ k) (hl : l = k + 1) : (a + b).natAbs < 2 ^ l := by
  subst hl
  have : 2 ^ (k + 1) = 2 * 2 ^ k := by have := Nat.pow_succ (n := 2) (m := k); omega
  omega
theorem natAbs_mul_lt {a b : Int} {k l : Nat} (ha : a.natAbs < 2 ^ k) (hb : b.natAbs < 2 ^ k) (hl : l = k + k) : (a * b).natAbs < 2 ^ l := by
  subst hl
  rw [Int.natAbs_mul, Nat.pow_add]
  exact Nat.mul_lt_mul'' ha hb
theorem pow_le2 {a k l : Nat} (h : a < 2 ^ k) (hk : k ≤ l) : a < 2 ^ l := Nat.lt_of_lt_of_le h (Nat.pow_le_pow_right (by decide) hk)
/-- the logarithm of a product -/
theorem sums_law {F1 F2 F4 : Int} {c d P X Y Z : D} {pl : Int} (hc : 0 < rv c) (hd : 0 < rv d) (hx : Tel (IsLg (rv c)) F1 X pl) (hy : Tel (IsLg (rv d)) F2 Y pl) (hz : Tel (IsLg (rv P)) F4 Z pl)
    (ex : F1 = 0) (ey : F2 = 0) (ez : F4 = 0) (hP : P = times c d) :
    Fit (plus X Y) ∧ Fit (plus (plus X Y) ⟨false, 1, 1 - pl⟩) ∧ Fit (⟨false, 1, 1 - pl⟩ : D) ∧ cmp (plus X Y) Z ≤ 0 ∧ cmp Z (plus (plus X Y) ⟨false, 1, 1 - pl⟩) ≤ 0 := by
  obtain ⟨p0, p1, x, ⟨h1, t, h2, h3⟩, bx, rfl⟩ := hx.1 ex
  obtain ⟨-, -, y, ⟨h4, u, h5, h6⟩, by', rfl⟩ := hy.1 ey
  obtain ⟨-, -, z, ⟨h7, v, h8, h9⟩, -, rfl⟩ := hz.1 ez
  obtain ⟨p, rfl⟩ : ∃ p : Nat, pl = (p : Int) := ⟨pl.toNat, by omega⟩
  rw [Int.toNat_natCast] at h1 h2 h4 h5 h7 h8
  have hδ := Ea.tw_pos (-(p : Int))
  rw [two_ofInt, ofInt_plus, ofInt_plus]
  have b1 := natAbs_add_lt bx by' (l := 2902) rfl
  have b2 := natAbs_add_lt b1 (b := 2) (pow_le2 (k := 2) (l := 2902) (by decide) (by decide)) (l := 2903) rfl
  have hv : rv P = rv c * rv d := by rw [hP, rv_times]
  rw [hv] at h7 h9
  have hcd := Rat.mul_pos hc hd
  refine ⟨ofInt_bd b1 (by omega) (by omega) (by omega), ofInt_bd b2 (by omega) (by omega) (by omega), ofInt_bd (k := 2) (by decide) (by omega) (by omega) (by omega), cmp_ofInt.2 ?_, cmp_ofInt.2 ?_⟩
  · have g1 := Ea.hi_mul h1 h4
    have g2 : ((x + y : Int) : Rat) * tw (-(p : Int)) < ((z : Rat) + 1) * tw (-(p : Int)) := by
      refine Rat.not_le.1 fun e => ?_
      rw [Rat.intCast_add, Rat.add_mul] at e
      have := Ea.lo_hi_lt (show v < (x : Rat) * tw (-(p : Int)) + (y : Rat) * tw (-(p : Int)) by grind) hcd h9 g1
      grind
    exact Ea.lt_of_mul hδ g2
  · have g1 := Ea.lo_mul (Rat.le_of_lt hc) (Rat.le_of_lt hd) h3 h6
    have g2 : (z : Rat) * tw (-(p : Int)) < (((x + y + 1 : Int) : Rat) + 1) * tw (-(p : Int)) := by
      refine Rat.not_le.1 fun e => ?_
      rw [Rat.intCast_add, Rat.intCast_add] at e
      have e1 : ((1 : Int) : Rat) = 1 := rfl
      rw [e1] at e
      have := Ea.lo_hi_lt (show t + u < (z : Rat) * tw (-(p : Int)) by grind) hcd g1 h7
      grind
    have := Ea.lt_of_mul hδ g2
    omega
/-- e to a sum -/
theorem powers_law {F1 F2 F4 : Int} {c d S X Y Z : D} {pl : Int} (hx : Tel (IsFl (rv c)) F1 X pl) (hy : Tel (IsFl (rv d)) F2 Y pl) (hz : Tel (IsFl (rv S)) F4 Z pl)
    (ex : F1 = 0) (ey : F2 = 0) (ez : F4 = 0) (hS : S = plus c d) :
    Fit (⟨false, 1, -pl⟩ : D) ∧ Fit (times X Y) ∧ Fit (plus Z ⟨false, 1, -pl⟩) ∧ Fit (plus X ⟨false, 1, -pl⟩) ∧ Fit (plus Y ⟨false, 1, -pl⟩) ∧ Fit (times (plus X ⟨false, 1, -pl⟩) (plus Y ⟨false, 1, -pl⟩)) ∧
    cmp (times X Y) (plus Z ⟨false, 1, -pl⟩) ≤ 0 ∧ cmp Z (times (plus X ⟨false, 1, -pl⟩) (plus Y ⟨false, 1, -pl⟩)) ≤ 0 := by
  obtain ⟨p0, p1, x, hx1, bx, rfl⟩ := hx.1 ex
  obtain ⟨-, -, y, hy1, by', rfl⟩ := hy.1 ey
  obtain ⟨-, -, z, hz1, bz, rfl⟩ := hz.1 ez
  obtain ⟨p, rfl⟩ : ∃ p : Nat, pl = (p : Int) := ⟨pl.toNat, by omega⟩
  rw [Int.toNat_natCast] at hx1 hy1 hz1
  have x0 := fl_nonneg hx1
  have y0 := fl_nonneg hy1
  have hδ := Ea.tw_pos (-(p : Int))
  obtain ⟨h1, t, h2, h3⟩ := hx1
  obtain ⟨h4, u, h5, h6⟩ := hy1
  obtain ⟨h7, v, h8, h9⟩ := hz1
  have one_bd : (1 : Int).natAbs < 2 ^ 2901 := pow_le2 (k := 1) (l := 2901) (by decide) (by decide)
  have hv : rv S = rv c + rv d := by rw [hS, rv_plus]
  rw [hv] at h7 h8
  have px : 0 ≤ (x : Rat) * tw (-(p : Int)) := Rat.mul_nonneg (Rat.intCast_nonneg.2 x0) (Rat.le_of_lt hδ)
  have py : 0 ≤ (y : Rat) * tw (-(p : Int)) := Rat.mul_nonneg (Rat.intCast_nonneg.2 y0) (Rat.le_of_lt hδ)
  have s1 := natAbs_add_lt bx one_bd (l := 2902) rfl
  have s2 := natAbs_add_lt by' one_bd (l := 2902) rfl
  have s3 := natAbs_add_lt bz one_bd (l := 2902) rfl
  rw [← ofInt_one, ofInt_plus, ofInt_plus, ofInt_plus, ofInt_times, ofInt_times]
  refine ⟨ofInt_bd (k := 1) (by decide) (by omega) (by omega) (by omega), ofInt_bd (natAbs_mul_lt bx by' (l := 5802) rfl) (by omega) (by omega) (by omega), ofInt_bd s3 (by omega) (by omega) (by omega), ofInt_bd s1 (by omega) (by omega) (by omega), ofInt_bd s2 (by omega) (by omega) (by omega), ofInt_bd (natAbs_mul_lt s1 s2 (l := 5804) rfl) (by omega) (by omega) (by omega), ?_, ?_⟩
  · rw [rv_le, ← ofInt_times, rv_times, rv_ofInt, rv_ofInt, rv_ofInt]
    have g1 := Ea.lo_hi (Ea.lo_mul px py h1 h4) h8
    rw [Rat.intCast_add]
    have e1 : ((1 : Int) : Rat) = 1 := rfl
    rw [e1]
    grind
  · rw [rv_le, ← ofInt_times, rv_times, rv_ofInt, rv_ofInt, rv_ofInt]
    have g1 := Ea.lo_hi h7 (Ea.hi_mul h2 h5)
    rw [Rat.intCast_add, Rat.intCast_add]
    have e1 : ((1 : Int) : Rat) = 1 := rfl
    rw [e1]
    have ht := h2.pos
    have hu := h5.pos
    have g2 : t * u ≤ ((x : Rat) + 1) * tw (-(p : Int)) * (((y : Rat) + 1) * tw (-(p : Int))) := Ea.mul_le (Rat.le_of_lt h3) (Rat.le_of_lt h6) (by grind) (Rat.le_of_lt hu)
    grind
end Go.Proofs.YtifadajkngncmaaDoor
