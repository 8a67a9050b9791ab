/-
  THE WALK of series.LogBounds.
-/
import Derived.Test.YtmpdbmaokbhcjaaDoorPrg
import Derived.Test.YtmpdbmaokbhcjaaDoorPrh
import Derived.Deep.DeepCutAuto
set_option linter.unusedVariables false
set_option linter.unusedSimpArgs false
namespace Go.Proofs.YtmpdbmaokbhcjaaDoor
open Go.RowKit Nt Fm
open Ea (Pr qP pwP atP)

/-- the number is f times a power of two, f between 2/3 and 4/3 -/
def lgB (m : Nat) : Bool := decide (4 * 2 ^ (blen m - 1) < 3 * m)
def lgO (m : Nat) : Nat := if lgB m then 2 * 2 ^ (blen m - 1) else 2 ^ (blen m - 1)
def lgN (m : Nat) (e : Int) : Int := if lgB m then e + blen m - 1 + 1 else e + blen m - 1
def lgG (m : Nat) : Bool := decide (m < lgO m)
def lgU (m : Nat) : Nat := if lgG m then lgO m - m else m - lgO m
def sLo (x : Pr) (neg : Bool) (p : Nat) : D := if neg then opp (norm false x.h (-(p : Int))) else norm false x.l (-(p : Int))
def sHi (x : Pr) (neg : Bool) (p : Nat) : D := if neg then opp (norm false x.l (-(p : Int))) else norm false x.h (-(p : Int))
def mulP (x : Pr) (n : Nat) : Pr := ⟨x.l * n, x.h * n⟩
def lbL (m : Nat) (e : Int) (p k j : Nat) : D := plus (sLo (atP (lgU m) (m + lgO m) p k) (lgG m) p) (sLo (mulP (atP 1 3 p j) (lgN m e).natAbs) (decide (lgN m e < 0)) p)
def lbH (m : Nat) (e : Int) (p k j : Nat) : D := plus (sHi (atP (lgU m) (m + lgO m) p k) (lgG m) p) (sHi (mulP (atP 1 3 p j) (lgN m e).natAbs) (decide (lgN m e < 0)) p)
def RetLB (w : World) (m : Nat) (e : Int) (p : Nat) (r : Ending) (w' : World) : Prop :=
  ∃ k j, k ≤ p ∧ j ≤ p ∧ (pwP (qP (lgU m) (m + lgO m) p) p k).h ≤ 1 ∧ (pwP (qP 1 3 p) p j).h ≤ 1 ∧ RetD2 w (lbL m e p k j) (lbH m e p k j) r w'
theorem lg_facts {m : Nat} (hm : m ≠ 0) : 0 < lgO m ∧ 3 * lgU m ≤ m + lgO m ∧ lgO m < 2 ^ (blen m + 1) ∧ (lgG m = true → m ≤ lgO m) ∧ (lgG m = false → lgO m ≤ m) := by
  have h1 : 2 ^ (blen m - 1) ≤ m := bl_le hm
  have h2 : m < 2 ^ blen m := bl_lt m
  have h3 : 0 < blen m := bl_pos hm
  have e : 2 ^ blen m = 2 * 2 ^ (blen m - 1) := by
    have : blen m = blen m - 1 + 1 := by omega
    rw [this, Nat.pow_succ]; simp; omega
  have hp := Nat.two_pow_pos (blen m - 1)
  have e2 : 2 ^ (blen m + 1) = 2 * 2 ^ blen m := by rw [Nat.pow_succ]; omega
  unfold lgU lgG
  have hO : (lgB m = true ∧ lgO m = 2 * 2 ^ (blen m - 1)) ∨ (lgB m = false ∧ lgO m = 2 ^ (blen m - 1)) := by
    unfold lgO; cases lgB m <;> simp
  have hB : (lgB m = true → 4 * 2 ^ (blen m - 1) < 3 * m) ∧ (lgB m = false → 3 * m ≤ 4 * 2 ^ (blen m - 1)) := by
    unfold lgB; constructor <;> intro h
    · exact of_decide_eq_true h
    · have := of_decide_eq_false h; omega
  generalize lgO m = O at *
  generalize 2 ^ (blen m - 1) = q at *
  refine ⟨?_, ?_, ?_, ?_, ?_⟩
  · rcases hO with ⟨a, b⟩ | ⟨a, b⟩ <;> omega
  · by_cases hg : m < O
    · rw [if_pos (by rw [decide_eq_true_eq]; exact hg)]
      rcases hO with ⟨a, b⟩ | ⟨a, b⟩
      · have := hB.1 a; omega
      · omega
    · rw [if_neg (by rw [decide_eq_true_eq]; exact hg)]
      rcases hO with ⟨a, b⟩ | ⟨a, b⟩
      · omega
      · have := hB.2 a; omega
  · rcases hO with ⟨a, b⟩ | ⟨a, b⟩ <;> omega
  · intro h; have := of_decide_eq_true h; omega
  · intro h; have := of_decide_eq_false h; omega
theorem sLo_bd {x : Pr} {neg : Bool} {p k : Nat} (hl : x.l < 2 ^ k) (hh : x.h < 2 ^ k) (hk : p ≤ k) : (sLo x neg p).m < 2 ^ k ∧ -(k : Int) ≤ (sLo x neg p).e ∧ (sLo x neg p).e ≤ k := by
  have aux : ∀ n : Nat, n < 2 ^ k → (norm false n (-(p : Int))).m < 2 ^ k ∧ -(k : Int) ≤ (norm false n (-(p : Int))).e ∧ (norm false n (-(p : Int))).e ≤ k := by
    intro n hn
    refine ⟨Nat.lt_of_le_of_lt (norm_m_le _ _ _) hn, ?_⟩
    rcases norm_e_bd false (e := -(p : Int)) hn with h | ⟨h1, h2⟩
    · rw [h]; show -(k : Int) ≤ 0 ∧ (0 : Int) ≤ k; omega
    · omega
  unfold sLo
  cases neg
  · exact aux _ hl
  · exact aux _ hh
theorem sHi_bd {x : Pr} {neg : Bool} {p k : Nat} (hl : x.l < 2 ^ k) (hh : x.h < 2 ^ k) (hk : p ≤ k) : (sHi x neg p).m < 2 ^ k ∧ -(k : Int) ≤ (sHi x neg p).e ∧ (sHi x neg p).e ≤ k := by
  have := sLo_bd (x := ⟨x.h, x.l⟩) (neg := neg) (p := p) hh hl hk
  exact this
theorem at_bits {num den p k : Nat} (hd : 0 < den) (h : 3 * num ≤ den) (hp : 4 ≤ p) (hk : k ≤ p) (hend : (pwP (qP num den p) p k).h ≤ 1) : (atP num den p k).l < 2 ^ (p + 4) ∧ (atP num den p k).h < 2 ^ (p + 4) := by
  have hdr : (0 : Rat) < (den : Rat) := Rat.natCast_pos.2 hd
  obtain ⟨-, -, h1, -, h2⟩ := Ea.at_ok (x := (num : Rat) / (den : Rat)) hd h hp hk hend (Rat.div_mul_cancel (Rat.ne_of_gt hdr))
  omega
theorem NV.drN {w : World} {v : Value} {n : Nat} (h : NV w v n) (k : Nat) : NV (w.drewN k) v n := h
theorem at_of {ops : Array Oper} {i : Nat} {o : Oper} (h : (ops.toList.drop i).head? = some o) : ops[i]? = some o := by
  rw [List.head?_drop] at h
  simpa using h
theorem use_F {P : Program} {md : Region.Mode} {ops : Array Oper} {Q : Exit → Act → World → Prop} {S : World → Prop} (Inv : Act → World → Prop) (L : Array Bool) (fuel : Nat) {fuel0 : Nat} {L0 : Array Bool} {a0 : Act} {w0 : World}
    (hF : ∀ a w, Inv a w → wpAnyH P md ops Q S fuel L a w) (main : (∀ a w, Inv a w → wpAnyH P md ops Q S fuel L a w) → wpAnyH P md ops Q S fuel0 L0 a0 w0) : wpAnyH P md ops Q S fuel0 L0 a0 w0 := main hF
theorem sgn2_two (a b : Nat) : (b < a ∧ (0 : Int) < sgn2 a b) ∨ (a ≤ b ∧ sgn2 a b ≤ 0) := by
  unfold sgn2
  rcases Nat.lt_trichotomy a b with h | h | h
  · right; refine ⟨by omega, ?_⟩; rw [if_pos (by omega)]; decide
  · right; refine ⟨by omega, ?_⟩; subst h; rw [if_neg (by omega), if_neg (by omega)]; decide
  · left; refine ⟨h, ?_⟩; rw [if_neg (by omega), if_pos (by omega)]; decide
theorem sgn2_neg (a b : Nat) : decide (sgn2 a b < 0) = decide (a < b) := by
  unfold sgn2
  rcases Nat.lt_trichotomy a b with h | h | h
  · rw [if_pos (by omega)]; simp [h]
  · subst h; rw [if_neg (by omega), if_neg (by omega)]; simp
  · have hn : ¬ a < b := by omega
    rw [if_neg (by omega), if_pos (by omega)]; simp [hn]
set_option maxRecDepth 100000 in
set_option maxHeartbeats 16000000 in
theorem logBounds_any (v : Value) (g : Bool) (m b p : Nat) (e P : Int) (w : World) (hT : Tab w) (hd : DV w v ⟨g, m, e⟩) (hP : P = (p : Int)) (hm : m < 2 ^ b) (hm0 : m ≠ 0) (hb : b ≤ 1000000) (e0 : -1000000 ≤ e) (e1 : e ≤ 1000000) (hp : p ≤ 14000000000000) (hp0 : 4 ≤ p) :
    Calls Tryd.prog 93 #[v, .int .i64 P] w (RetLB w m e p) := by
  subst hP
  obtain ⟨a1, n1, c1, rfl, hv⟩ := hd.parts
  simp only at hv ⊢
  obtain ⟨L, hL⟩ : ∃ L, L = blen m := ⟨_, rfl⟩
  have hL1 : 1 ≤ L := by rw [hL]; exact bl_pos hm0
  have hLb : L ≤ b := by rw [hL]; exact blen_le2 hm
  obtain ⟨O0, O3, O2, OG1, OG2⟩ := lg_facts hm0
  rw [← hL] at O2
  have LN := Lib.hid (fun w' hv => natLen_any (.slice a1 n1 c1) m b w' hv hm (by omega))
  rw [← hL] at LN
  have O1c := Lib.hid (fun w' => natOf_any 1 (by omega) (by omega) w')
  have O3c := Lib.hid (fun w' => natOf_any 3 (by omega) (by omega) w')
  have LE := Lib.hid (fun v x w' ha (hx : x = ((L - 1 : Nat) : Int)) => left_any v 1 (L - 1) 1 x w' ha hx (by decide) (by omega) (by omega))
  obtain ⟨q, hq⟩ : ∃ q, q = 2 ^ (L - 1) := ⟨_, rfl⟩
  have hqb : q < 2 ^ b := by
    rw [hq]; exact Nat.pow_lt_pow_right (by decide) (by omega)
  rw [Nat.one_mul, ← hq] at LE
  have b1 : 2 ^ b ≤ 2 ^ (b + 2) := Nat.pow_le_pow_right (by decide) (by omega)
  have b2 : 3 < 2 ^ (b + 2) := by
    have : 2 ^ 2 ≤ 2 ^ (b + 2) := Nat.pow_le_pow_right (by decide) (by omega)
    omega
  have b3 : 2 ^ (b + 2) = 4 * 2 ^ b := by rw [Nat.pow_add]; omega
  have bL : 2 ^ (L + 1) ≤ 2 ^ (b + 1) := Nat.pow_le_pow_right (by decide) (by omega)
  have b4 : 2 ^ (b + 1) = 2 * 2 ^ b := by rw [Nat.pow_succ]; omega
  have T3 := Lib.hid (fun va vb w' ha hb => times_any va vb m 3 (b + 2) w' ha hb (by omega) b2 (by omega))
  have L2 := Lib.hid (fun va w' ha => left_any va q 2 b 2 w' ha rfl hqb (by omega) (by omega))
  have L1c := Lib.hid (fun va w' ha => left_any va q 1 b 1 w' ha rfl hqb (by omega) (by omega))
  have eL1 : q * 2 ^ 1 = 2 * q := by omega
  rw [eL1] at L1c
  obtain ⟨O, hO⟩ : ∃ O, O = lgO m := ⟨_, rfl⟩
  obtain ⟨U, hU⟩ : ∃ U, U = lgU m := ⟨_, rfl⟩
  obtain ⟨N, hN⟩ : ∃ N, N = lgN m e := ⟨_, rfl⟩
  obtain ⟨G, hG⟩ : ∃ G, G = lgG m := ⟨_, rfl⟩
  have hUb : U < 2 ^ (b + 2) := by rw [hU]; omega
  have hOb : O < 2 ^ (b + 2) := by rw [hO]; omega
  have hmo : m + O < 2 ^ (b + 2) := by rw [hO]; omega
  have MI1 := Lib.hid (fun va vb w' ha hb (hle : m ≤ O) => minus_any va vb O m (b + 2) w' ha hb hle hOb (by omega))
  have MI2 := Lib.hid (fun va vb w' ha hb (hle : O ≤ m) => minus_any va vb m O (b + 2) w' ha hb hle (by omega) (by omega))
  have PLm := Lib.hid (fun va vb w' ha hb => plus_any va vb m O (b + 2) w' ha hb (by omega) hOb (by omega))
  have AT := Lib.hid (fun va vb w' ha hb => atanh_any va vb U (m + O) (b + 2) p p w' ha hb rfl hUb (by rw [hO]; omega) (by rw [hU, hO]; omega) (by omega) (by omega) hp0)
  have AT3 := Lib.hid (fun va vb w' ha hb => atanh_any va vb 1 3 (b + 2) p p w' ha hb rfl (by omega) (by omega) (by omega) (by omega) (by omega) hp0)
  have ATB := Lib.hid (fun k hk hend => (show (atP U (m + O) p k).l < 2 ^ (p + 26) ∧ (atP U (m + O) p k).h < 2 ^ (p + 26) from by
    have := at_bits (num := U) (den := m + O) (k := k) (by rw [hO]; omega) (by rw [hU, hO]; omega) hp0 hk hend
    have h2 : 2 ^ (p + 4) ≤ 2 ^ (p + 26) := Nat.pow_le_pow_right (by decide) (by omega)
    omega))
  have AT3B := Lib.hid (fun k hk hend => at_bits (num := 1) (den := 3) (p := p) (k := k) (by omega) (by omega) hp0 hk hend)
  have hNb : -3000000 ≤ N ∧ N ≤ 3000000 := by
    rw [hN]; unfold lgN; rw [← hL]
    split <;> omega
  unfold RetLB lbL lbH
  rw [← hO, ← hU, ← hN, ← hG]
  have hcase : ((0 : Int) < sgn2 ((m : Int) * 3) ((q : Int) * 4) ∧ O = 2 * q ∧ N = e + L - 1 + 1) ∨ (sgn2 ((m : Int) * 3) ((q : Int) * 4) ≤ 0 ∧ O = q ∧ N = e + L - 1) := by
    rw [hO, hN]; unfold lgO lgN lgB
    rw [← hL, ← hq]
    have ec : sgn2 ((m : Int) * 3) ((q : Int) * 4) = sgn2 ((m * 3 : Nat) : Int) ((q * 2 ^ 2 : Nat) : Int) := by congr 1
    rw [ec]
    rcases sgn2_two (m * 3) (q * 2 ^ 2) with ⟨h1, h2⟩ | ⟨h1, h2⟩
    · left
      have hd : decide (4 * q < 3 * m) = true := by rw [decide_eq_true_eq]; omega
      rw [if_pos hd, if_pos hd]; exact ⟨h2, rfl, rfl⟩
    · right
      have hd : ¬ decide (4 * q < 3 * m) = true := by rw [decide_eq_true_eq]; omega
      rw [if_neg hd, if_neg hd]; exact ⟨h2, rfl, rfl⟩
  have hgc : (G = true ∧ U = O - m ∧ m ≤ O) ∨ (G = false ∧ U = m - O ∧ O ≤ m) := by
    rw [hU, hG, hO]; unfold lgU
    cases hg : lgG m
    · right; exact ⟨rfl, by simp, OG2 hg⟩
    · left; exact ⟨rfl, by simp, OG1 hg⟩
  have hGd : decide (sgn2 m O < 0) = G := by rw [hG, hO, sgn2_neg]; rfl
  have GD' := Lib.hid (show decide (sgn2 m O < 0) = G ∧ True from ⟨hGd, trivial⟩)
  have HV := Lib.hid hv
  have HT := Lib.hid hT
  clear hv hT hd hq hO hU hN hG O0 O3 O2 OG1 OG2 hUb hOb hmo eL1 b1 b2 b3 bL b4 hqb hm hm0 hGd hL
  go_enter Tryd.func93, Tryd.ntmps93
  go_wp2_with fail
  have B0 := Lib.hid (bl_alloc3 w (.cells #[.bool g, .slice a1 n1 c1, .int .i64 e] 24) (.cells #[.bool false, .slice none 0 0, .int .i64 0] 24) (.cells #[.bool false, .slice none 0 0, .int .i64 0] 24))
  have X0 := Lib.hid ((Box.new w (.bool g) (.slice a1 n1 c1) (.int .i64 e) 24).alloc (.cells #[.bool false, .slice none 0 0, .int .i64 0] 24) |>.alloc (.cells #[.bool false, .slice none 0 0, .int .i64 0] 24))
  have R0 := Lib.hid ((GD.nil2 w (.cells #[.bool g, .slice a1 n1 c1, .int .i64 e] 24)).alloc (.cells #[.bool false, .slice none 0 0, .int .i64 0] 24))
  have S0 := Lib.hid (GD.nil3 w (.cells #[.bool g, .slice a1 n1 c1, .int .i64 e] 24) (.cells #[.bool false, .slice none 0 0, .int .i64 0] 24))
  refine (LN.out _ (HV.out.below B0.out)).mono ?_
  rintro r w' ⟨rfl, rfl⟩
  go_wp2_with fail
  refine (O1c.out _).mono ?_
  rintro r w1 ⟨v1, rfl, hv1, hb1⟩
  have B1 := Lib.hid (bl_thru B0.out (Nat.le_refl _) hb1)
  have X1 := Lib.hid (X0.out.below hb1)
  have R1 := Lib.hid (R0.out.below hb1)
  have S1 := Lib.hid (S0.out.below hb1)
  have V1 := Lib.hid hv1
  clear hv1 hb1 B0 X0 R0 S0
  go_wp2_with fail
  refine (LE.out _ _ _ V1.out (by omega)).mono ?_
  rintro r w2 ⟨v2, rfl, hv2, hb2⟩
  obtain ⟨o1, o2, o3, rfl⟩ := hv2.shape
  have B2 := Lib.hid (bl_thru B1.out (Nat.le_refl _) hb2)
  have X2 := Lib.hid (X1.out.below hb2)
  have R2 := Lib.hid (R1.out.below hb2)
  have S2 := Lib.hid (S1.out.below hb2)
  have V2 := Lib.hid hv2
  have W2 := Lib.hid (HV.out.below B2.out)
  clear hv2 hb2 B1 X1 R1 S1 V1 HV
  obtain ⟨x0, x1, x2, -, -, -⟩ := X2.out.cells
  go_wp2_with fail
  clear x0 x1 x2
  obtain ⟨x0, x1, x2, -, -, -⟩ := X2.out.drew.cells
  go_region_held3 (fun w' => w'.cell? ⟨w.heap.size, 1, none⟩ = some (.slice a1 n1 c1))
    (first
      | with_reducible exact x1
      | (obtain ⟨-, p1, -, -, -, -⟩ := (X2.out.drew.below hb3).cells
         with_reducible exact p1)
      | (obtain ⟨-, p1, -, -, -, -⟩ := ((X2.out.drew.below HB3.out).below hb4).cells
         with_reducible exact p1)
      | (obtain ⟨-, p1, -, -, -, -⟩ := (((X2.out.drew.below HB3.out).below HB4.out).below hb5).cells
         with_reducible exact p1)
      | (obtain ⟨-, p1, -, -, -, -⟩ := ((((X2.out.drew.below HB3.out).below HB4.out).below HB5.out).drewN dn).cells
         with_reducible exact p1)
      | (go_keep; done))
    (first
      | (go_at_call 71; refine (O3c.out _).mono ?_; rintro r w3 ⟨v3, rfl, hv3, hb3⟩; have HB3 := Lib.hid hb3; have V3 := Lib.hid hv3)
      | (go_at_call 116; refine (T3.out _ _ _ (W2.out.dr.below HB3.out) V3.out).mono ?_; rintro r w4 ⟨v4, rfl, hv4, hb4⟩; have HB4 := Lib.hid hb4; have V4 := Lib.hid hv4)
      | (go_at_call 86; refine (L2.out _ _ ((V2.out.dr.below HB3.out).below HB4.out)).mono ?_; rintro r w5 ⟨v5, rfl, hv5, hb5⟩; have HB5 := Lib.hid hb5; have V5 := Lib.hid hv5)
      | (go_at_call 96; refine (compare_any _ _ _ _ _ (V4.out.below HB5.out) V5.out).mono ?_; rintro r u2 ⟨rfl, dn, rfl⟩))
  clear hv3 hb3 hv4 hb4 hv5 hb5 x0 x1 x2
  obtain ⟨W6, hW6⟩ : ∃ W6, W6 = w5.drewN dn := ⟨_, rfl⟩
  rw [← hW6]
  have B6 := Lib.hid (show Below w.heap.size w W6 from by rw [hW6]; exact below_to_drewN (bl_thru (bl_thru (bl_thru B2.out.drew (Nat.le_refl _) HB3.out) (Nat.le_refl _) HB4.out) (Nat.le_refl _) HB5.out))
  have X6 := Lib.hid (show Box W6 w.heap.size 24 (.bool g) (.slice a1 n1 c1) (.int .i64 e) from by rw [hW6]; exact (((X2.out.drew.below HB3.out).below HB4.out).below HB5.out).drewN dn)
  have R6 := Lib.hid (show GD W6 (w.heap.size + 1) nz from by rw [hW6]; exact (((R2.out.drew.below HB3.out).below HB4.out).below HB5.out).drewN dn)
  have S6 := Lib.hid (show GD W6 (w.heap.size + 1 + 1) nz from by rw [hW6]; exact (((S2.out.drew.below HB3.out).below HB4.out).below HB5.out).drewN dn)
  have V6 := Lib.hid (show NV W6 (.slice o1 o2 o3) q from by rw [hW6]; exact NV.drN (((V2.out.dr.below HB3.out).below HB4.out).below HB5.out) dn)
  have M6 := Lib.hid (show NV W6 (.slice a1 n1 c1) m from by rw [hW6]; exact NV.drN (((W2.out.dr.below HB3.out).below HB4.out).below HB5.out) dn)
  clear hW6 B2 X2 R2 S2 V2 W2 HB3 HB4 HB5 V3 V4 V5
  go_upto_if 36 with fail
  go_cut [7, 8] (fun s7 s8 wx => ∃ y1 y2 y3, s7 = .slice y1 y2 y3 ∧ s8 = .int .i64 N ∧ Hid (Below w.heap.size w wx) ∧ Hid (Box wx w.heap.size 24 (.bool g) (.slice a1 n1 c1) (.int .i64 e)) ∧ Hid (GD wx (w.heap.size + 1) nz) ∧ Hid (GD wx (w.heap.size + 1 + 1) nz) ∧ Hid (NV wx (.slice y1 y2 y3) O) ∧ Hid (NV wx (.slice a1 n1 c1) m))
  case first =>
    rcases hcase with ⟨hs, hO, hN⟩ | ⟨hs, hO, hN⟩
    · go_wp2_with fail
      refine (L1c.out _ _ V6.out).mono ?_
      rintro r w7 ⟨v7, rfl, hv7, hb7⟩
      obtain ⟨y1, y2, y3, rfl⟩ := hv7.shape
      rw [← hO] at hv7
      have B7 := Lib.hid (bl_thru B6.out (Nat.le_refl _) hb7)
      have X7 := Lib.hid (X6.out.below hb7)
      have R7 := Lib.hid (R6.out.below hb7)
      have S7 := Lib.hid (S6.out.below hb7)
      have V7 := Lib.hid hv7
      have M7 := Lib.hid (M6.out.below hb7)
      have HNE := Lib.hid (show e + L = N ∧ True from ⟨by omega, trivial⟩)
      clear hv7 hb7 B6 X6 R6 S6 V6 M6 hO hN hs
      go_wp2_with fail
      go_meet
      exact ⟨y1, y2, y3, rfl, by rw [HNE.out.1], B7, X7, R7, S7, V7, M7⟩
    · rw [← hO] at V6
      have HNE := Lib.hid (show e + L - 1 = N ∧ True from ⟨hN.symm, trivial⟩)
      clear hO hN
      go_wp2_with fail
      go_meet
      exact ⟨o1, o2, o3, rfl, by rw [HNE.out.1], B6, X6, R6, S6, V6, M6⟩
  case rest =>
  obtain ⟨y1, y2, y3, rfl, rfl, B7, X7, R7, S7, V7, M7⟩ := hcut
  clear B6 X6 R6 S6 V6 M6 hcase L1c LE LN
  go_wp2_with fail
  obtain ⟨x0, x1, x2, -, -, -⟩ := X7.out.drew.cells
  go_region_held3 (fun w' => w'.cell? ⟨w.heap.size, 1, none⟩ = some (.slice a1 n1 c1))
    (first
      | with_reducible exact x1
      | (obtain ⟨-, p1, -, -, -, -⟩ := (X7.out.drewN (1 + dn2)).cells
         with_reducible exact p1)
      | (go_keep; done))
    (first
      | (go_at_call 96; refine (compare_any _ _ _ _ _ M7.out.dr V7.out.dr).mono ?_; rintro r u2 ⟨rfl, dn2, rfl⟩))
  rw [GD'.out.1]
  clear x0 x1 x2
  obtain ⟨W8, hW8⟩ : ∃ W8, W8 = wc.drewN (1 + dn2) := ⟨_, rfl⟩
  rw [← hW8]
  have B8 := Lib.hid (show Below w.heap.size w W8 from by rw [hW8]; exact below_to_drewN B7.out)
  have X8 := Lib.hid (show Box W8 w.heap.size 24 (.bool g) (.slice a1 n1 c1) (.int .i64 e) from by rw [hW8]; exact X7.out.drewN _)
  have R8 := Lib.hid (show GD W8 (w.heap.size + 1) nz from by rw [hW8]; exact R7.out.drewN _)
  have S8 := Lib.hid (show GD W8 (w.heap.size + 1 + 1) nz from by rw [hW8]; exact S7.out.drewN _)
  have V8 := Lib.hid (show NV W8 (.slice y1 y2 y3) O from by rw [hW8]; exact NV.drN V7.out _)
  have M8 := Lib.hid (show NV W8 (.slice a1 n1 c1) m from by rw [hW8]; exact NV.drN M7.out _)
  clear hW8 B7 X7 R7 S7 V7 M7
  go_upto_if 48 with fail
  go_cut [9, 10] (fun s9 s10 wx => ∃ z1 z2 z3, s9 = .slice z1 z2 z3 ∧ s10 = .bool G ∧ Hid (Below w.heap.size w wx) ∧ Hid (Box wx w.heap.size 24 (.bool g) (.slice a1 n1 c1) (.int .i64 e)) ∧ Hid (GD wx (w.heap.size + 1) nz) ∧ Hid (GD wx (w.heap.size + 1 + 1) nz) ∧ Hid (NV wx (.slice y1 y2 y3) O) ∧ Hid (NV wx (.slice a1 n1 c1) m) ∧ Hid (NV wx (.slice z1 z2 z3) U))
  case first =>
    rcases hgc with ⟨hG, hU, hle⟩ | ⟨hG, hU, hle⟩
    all_goals
      rw [hG]
      go_wp2_with fail
      first
        | refine (MI1.out _ _ _ V8.out M8.out hle).mono ?_
        | refine (MI2.out _ _ _ M8.out V8.out hle).mono ?_
      rintro r w9 ⟨v9, rfl, hv9, hb9⟩
      obtain ⟨z1, z2, z3, rfl⟩ := hv9.shape
      rw [← hU] at hv9
      have B9 := Lib.hid (bl_thru B8.out (Nat.le_refl _) hb9)
      have X9 := Lib.hid (X8.out.below hb9)
      have R9 := Lib.hid (R8.out.below hb9)
      have S9 := Lib.hid (S8.out.below hb9)
      have V9 := Lib.hid (V8.out.below hb9)
      have M9 := Lib.hid (M8.out.below hb9)
      have U9 := Lib.hid hv9
      clear hv9 hb9 B8 X8 R8 S8 V8 M8 hU hle MI1 MI2
      go_wp2_with fail
      go_meet
      exact ⟨z1, z2, z3, rfl, by rw [hG], B9, X9, R9, S9, V9, M9, U9⟩
  case rest =>
  obtain ⟨z1, z2, z3, rfl, rfl, B9, X9, R9, S9, V9, M9, U9⟩ := hcut
  obtain ⟨x0, x1, x2, -, -, -⟩ := X9.out.cells
  clear B8 X8 R8 S8 V8 M8 MI1 MI2 hgc
  go_wp2_with fail
  refine (PLm.out _ _ _ M9.out V9.out).mono ?_
  rintro r w10 ⟨v10, rfl, hv10, hb10⟩
  have B10 := Lib.hid (bl_thru B9.out (Nat.le_refl _) hb10)
  have R10 := Lib.hid (R9.out.below hb10)
  have S10 := Lib.hid (S9.out.below hb10)
  have U10 := Lib.hid (U9.out.below hb10)
  have D10 := Lib.hid hv10
  clear hv10 hb10 B9 X9 R9 S9 V9 M9 U9 x0 x1 x2 PLm
  go_wp2_with fail
  refine (AT.out _ _ _ U10.out D10.out).mono ?_
  rintro r w11 ⟨k, v11, rfl, hk, hend, hp11, hb11⟩
  have HK := Lib.hid (show (k ≤ p ∧ (pwP (qP U (m + O) p) p k).h ≤ 1) ∧ True from ⟨⟨hk, hend⟩, trivial⟩)
  have SG := Lib.hid (fun w' ht hv => signed_any v11 (atP U (m + O) p k) G p (p + 26) p w' ht hv rfl (ATB.out k hk hend).1 (ATB.out k hk hend).2 (by omega) (by omega))
  have B11 := Lib.hid (bl_thru B10.out (Nat.le_refl _) hb11)
  have R11 := Lib.hid (R10.out.below hb11)
  have S11 := Lib.hid (S10.out.below hb11)
  have P11 := Lib.hid hp11
  have BD1 := Lib.hid (show ((sLo (atP U (m + O) p k) G p).m < 2 ^ (p + 26) ∧ -((p + 26 : Nat) : Int) ≤ (sLo (atP U (m + O) p k) G p).e ∧ (sLo (atP U (m + O) p k) G p).e ≤ ((p + 26 : Nat) : Int)) ∧ True from ⟨sLo_bd (ATB.out k hk hend).1 (ATB.out k hk hend).2 (by omega), trivial⟩)
  have BD2 := Lib.hid (show ((sHi (atP U (m + O) p k) G p).m < 2 ^ (p + 26) ∧ -((p + 26 : Nat) : Int) ≤ (sHi (atP U (m + O) p k) G p).e ∧ (sHi (atP U (m + O) p k) G p).e ≤ ((p + 26 : Nat) : Int)) ∧ True from ⟨sHi_bd (ATB.out k hk hend).1 (ATB.out k hk hend).2 (by omega), trivial⟩)
  clear hp11 hb11 hk hend B10 R10 S10 U10 D10 AT ATB
  go_wp2_with fail
  refine (SG.out _ (HT.out.below B11.out) P11.out).mono ?_
  rintro r w12 ⟨u1, u2, rfl, hu1, hu2, hb12⟩
  obtain ⟨A, hA⟩ : ∃ A, A = sLo (atP U (m + O) p k) G p := ⟨_, rfl⟩
  obtain ⟨B, hB⟩ : ∃ B, B = sHi (atP U (m + O) p k) G p := ⟨_, rfl⟩
  change DV w12 u1 (sLo (atP U (m + O) p k) G p) at hu1
  change DV w12 u2 (sHi (atP U (m + O) p k) G p) at hu2
  rw [← hA] at hu1 BD1
  rw [← hB] at hu2 BD2
  have HAB := Lib.hid (show (A = sLo (atP U (m + O) p k) G p ∧ B = sHi (atP U (m + O) p k) G p) ∧ True from ⟨⟨hA, hB⟩, trivial⟩)
  clear hA hB
  obtain ⟨e1, f1, g1, rfl, hv1⟩ := hu1.parts
  obtain ⟨e2, f2, g2, rfl, hv2⟩ := hu2.parts
  obtain ⟨V12, hV12⟩ : ∃ V, V = ((w12.alloc (.cells #[.bool A.neg, .slice e1 f1 g1, .int .i64 A.e] 24)).alloc (.cells #[.bool B.neg, .slice e2 f2 g2, .int .i64 B.e] 24)) := ⟨_, rfl⟩
  have B12 := Lib.hid (show Below w.heap.size w V12 from by rw [hV12]; exact ((bl_thru B11.out (Nat.le_refl _) hb12).alloc (bl_thru B11.out (Nat.le_refl _) hb12).size _).alloc (by have := (bl_thru B11.out (Nat.le_refl _) hb12).size; simp; omega) _)
  have R12 := Lib.hid (show GD V12 (w.heap.size + 1) nz from by rw [hV12]; exact ((R11.out.below hb12).alloc _).alloc _)
  have S12 := Lib.hid (show GD V12 (w.heap.size + 1 + 1) nz from by rw [hV12]; exact ((S11.out.below hb12).alloc _).alloc _)
  have hz12 : w.heap.size + 1 + 1 < w12.heap.size := (S11.out.below hb12).lt
  have XA12 := Lib.hid (show Box V12 w12.heap.size 24 (.bool A.neg) (.slice e1 f1 g1) (.int .i64 A.e) from by rw [hV12]; exact (Box.new w12 _ _ _ _).alloc _)
  have XB12 := Lib.hid (show Box V12 (w12.heap.size + 1) 24 (.bool B.neg) (.slice e2 f2 g2) (.int .i64 B.e) from by rw [hV12]; exact Box.new2 w12 _ _ _ _ _)
  have NA12 := Lib.hid (show NV V12 (.slice e1 f1 g1) A.m from by rw [hV12]; exact (hv1.alloc _).alloc _)
  have NB12 := Lib.hid (show NV V12 (.slice e2 f2 g2) B.m from by rw [hV12]; exact (hv2.alloc _).alloc _)
  obtain ⟨bA, hbA⟩ : ∃ bA, bA = w12.heap.size := ⟨_, rfl⟩
  rw [← hbA] at XA12 XB12 hz12
  clear hu1 hu2 hv1 hv2 hb12 B11 R11 S11 P11 SG
  go_wp2_with fail
  rw [← hV12, ← hbA]
  clear hV12 hbA
  refine (O1c.out _).mono ?_
  rintro r w13 ⟨v13, rfl, hv13, hb13⟩
  have B13 := Lib.hid (bl_thru B12.out (Nat.le_refl _) hb13)
  have R13 := Lib.hid (R12.out.below hb13)
  have S13 := Lib.hid (S12.out.below hb13)
  have XA13 := Lib.hid (XA12.out.below hb13)
  have XB13 := Lib.hid (XB12.out.below hb13)
  have NA13 := Lib.hid (NA12.out.below hb13)
  have NB13 := Lib.hid (NB12.out.below hb13)
  have I13 := Lib.hid hv13
  clear hv13 hb13 B12 R12 S12 XA12 XB12 NA12 NB12
  go_wp2_with fail
  refine (O3c.out _).mono ?_
  rintro r w14 ⟨v14, rfl, hv14, hb14⟩
  have B14 := Lib.hid (bl_thru B13.out (Nat.le_refl _) hb14)
  have R14 := Lib.hid (R13.out.below hb14)
  have S14 := Lib.hid (S13.out.below hb14)
  have XA14 := Lib.hid (XA13.out.below hb14)
  have XB14 := Lib.hid (XB13.out.below hb14)
  have NA14 := Lib.hid (NA13.out.below hb14)
  have NB14 := Lib.hid (NB13.out.below hb14)
  have I14 := Lib.hid (I13.out.below hb14)
  have J14 := Lib.hid hv14
  clear hv14 hb14 B13 R13 S13 XA13 XB13 NA13 NB13 I13
  go_wp2_with fail
  refine (AT3.out _ _ _ I14.out J14.out).mono ?_
  rintro r w15 ⟨j, v15, rfl, hj, hjend, hp15, hb15⟩
  obtain ⟨t1, t2, t3, t4, t5, t6, rfl, hv1, hv2⟩ := hp15.parts
  have HJ := Lib.hid (show (j ≤ p ∧ (pwP (qP 1 3 p) p j).h ≤ 1) ∧ True from ⟨⟨hj, hjend⟩, trivial⟩)
  have TB := Lib.hid (show ((atP 1 3 p j).l < 2 ^ (p + 4) ∧ (atP 1 3 p j).h < 2 ^ (p + 4)) ∧ True from ⟨AT3B.out j hj hjend, trivial⟩)
  obtain ⟨V15, hV15⟩ : ∃ V, V = w15.alloc (.cells #[.slice t1 t2 t3, .slice t4 t5 t6] 111) := ⟨_, rfl⟩
  have B15 := Lib.hid (show Below w.heap.size w V15 from by rw [hV15]; exact (bl_thru B14.out (Nat.le_refl _) hb15).alloc (bl_thru B14.out (Nat.le_refl _) hb15).size _)
  have R15 := Lib.hid (show GD V15 (w.heap.size + 1) nz from by rw [hV15]; exact (R14.out.below hb15).alloc _)
  have S15 := Lib.hid (show GD V15 (w.heap.size + 1 + 1) nz from by rw [hV15]; exact (S14.out.below hb15).alloc _)
  have XA15 := Lib.hid (show Box V15 bA 24 (.bool A.neg) (.slice e1 f1 g1) (.int .i64 A.e) from by rw [hV15]; exact (XA14.out.below hb15).alloc _)
  have XB15 := Lib.hid (show Box V15 (bA + 1) 24 (.bool B.neg) (.slice e2 f2 g2) (.int .i64 B.e) from by rw [hV15]; exact (XB14.out.below hb15).alloc _)
  have NA15 := Lib.hid (show NV V15 (.slice e1 f1 g1) A.m from by rw [hV15]; exact (NA14.out.below hb15).alloc _)
  have NB15 := Lib.hid (show NV V15 (.slice e2 f2 g2) B.m from by rw [hV15]; exact (NB14.out.below hb15).alloc _)
  have XT15 := Lib.hid (show Bp V15 w15.heap.size (.slice t1 t2 t3) (.slice t4 t5 t6) from by rw [hV15]; exact Bp.new w15 _ _)
  have NT1 := Lib.hid (show NV V15 (.slice t1 t2 t3) (atP 1 3 p j).l from by rw [hV15]; exact hv1.alloc _)
  have NT2 := Lib.hid (show NV V15 (.slice t4 t5 t6) (atP 1 3 p j).h from by rw [hV15]; exact hv2.alloc _)
  have hz15 : bA + 1 < w15.heap.size := (XB14.out.below hb15).lt
  obtain ⟨bT, hbT⟩ : ∃ bT, bT = w15.heap.size := ⟨_, rfl⟩
  rw [← hbT] at XT15 hz15
  clear hp15 hb15 hv1 hv2 hj hjend B14 R14 S14 XA14 XB14 NA14 NB14 I14 J14 AT3 AT3B
  go_wp2_with fail
  rw [← hV15, ← hbT]
  clear hV15 hbT
  obtain ⟨M, hM⟩ : ∃ M, M = N.natAbs := ⟨_, rfl⟩
  have EM : max N (-N) = ((M : Nat) : Int) := by rw [hM]; omega
  rw [EM]
  have hM3 : M ≤ 3000000 := by omega
  have OM : Hid (∀ w', Calls Tryd.prog 71 #[.int .u64 (M : Int)] w' (RetNV w' M)) := Lib.hid (fun w' => by
    have := natOf_any (M : Int) (by omega) (by omega) w'
    rwa [Int.toNat_natCast] at this)
  have p26 : 2 ^ (p + 26) = 2 ^ (p + 4) * 4194304 := by rw [show p + 26 = p + 4 + 22 by omega, Nat.pow_add]
  have p4 := Nat.two_pow_pos (p + 4)
  have TM1 := Lib.hid (fun vb w' ha hb => times_any (.slice t1 t2 t3) vb (atP 1 3 p j).l M (p + 26) w' ha hb (by have := TB.out.1.1; omega) (by omega) (by omega))
  have TM2 := Lib.hid (fun vb w' ha hb => times_any (.slice t4 t5 t6) vb (atP 1 3 p j).h M (p + 26) w' ha hb (by have := TB.out.1.2; omega) (by omega) (by omega))
  have m1 : (atP 1 3 p j).l * M < 2 ^ (p + 26) := by
    have h1 := TB.out.1.1
    have := Nat.mul_le_mul_left (atP 1 3 p j).l (show M ≤ 4194304 by omega)
    have := Nat.mul_lt_mul_of_pos_right h1 (show 0 < 4194304 by decide)
    omega
  have m2 : (atP 1 3 p j).h * M < 2 ^ (p + 26) := by
    have h1 := TB.out.1.2
    have := Nat.mul_le_mul_left (atP 1 3 p j).h (show M ≤ 4194304 by omega)
    have := Nat.mul_lt_mul_of_pos_right h1 (show 0 < 4194304 by decide)
    omega
  obtain ⟨C, hC⟩ : ∃ C, C = sLo (mulP (atP 1 3 p j) M) (decide (N < 0)) p := ⟨_, rfl⟩
  obtain ⟨E, hE⟩ : ∃ E, E = sHi (mulP (atP 1 3 p j) M) (decide (N < 0)) p := ⟨_, rfl⟩
  have BD3 := Lib.hid (show (C.m < 2 ^ (p + 26) ∧ -((p + 26 : Nat) : Int) ≤ C.e ∧ C.e ≤ ((p + 26 : Nat) : Int)) ∧ True from ⟨by rw [hC]; exact sLo_bd (x := mulP (atP 1 3 p j) M) m1 m2 (by omega), trivial⟩)
  have BD4 := Lib.hid (show (E.m < 2 ^ (p + 26) ∧ -((p + 26 : Nat) : Int) ≤ E.e ∧ E.e ≤ ((p + 26 : Nat) : Int)) ∧ True from ⟨by rw [hE]; exact sHi_bd (x := mulP (atP 1 3 p j) M) m1 m2 (by omega), trivial⟩)
  have SGT : Hid (∀ v w', Tab w' → PV w' v ⟨(atP 1 3 p j).l * M, (atP 1 3 p j).h * M⟩ → Calls Tryd.prog 123 #[v, .bool (decide (N < 0)), .int .i64 (p : Int)] w' (RetD2 w' C E)) := Lib.hid (fun v w' ht hv => by
    rw [hC, hE]
    exact signed_any v (mulP (atP 1 3 p j) M) (decide (N < 0)) p (p + 26) p w' ht hv rfl m1 m2 (by omega) (by omega))
  have HCE := Lib.hid (show (C = sLo (mulP (atP 1 3 p j) N.natAbs) (decide (N < 0)) p ∧ E = sHi (mulP (atP 1 3 p j) N.natAbs) (decide (N < 0)) p) ∧ True from ⟨⟨by rw [hC, hM], by rw [hE, hM]⟩, trivial⟩)
  have HT15 := Lib.hid (HT.out.below B15.out)
  have CT : Hid (∀ w', Below V15.heap.size V15 w' → w'.cell? ⟨bT, 0, none⟩ = some (.slice t1 t2 t3) ∧ w'.cell? ⟨bT, 1, none⟩ = some (.slice t4 t5 t6)) := Lib.hid (fun w' hb => ⟨(XT15.out.below hb).cells.1, (XT15.out.below hb).cells.2.1⟩)
  have hTl : bT < V15.heap.size := XT15.out.lt
  have hz12' := Lib.hid (show (w.heap.size + 1 + 1 < bA ∧ bA + 1 < V15.heap.size) ∧ True from ⟨⟨hz12, XB15.out.lt⟩, trivial⟩)
  clear hM EM p26 p4 m1 m2 hC hE hz15 hz12 hNb
  go_cut [15, 16] (fun s15 s16 wx => ∃ bC bE : Nat, s15 = .pointer (some ⟨bC, 0, none⟩) ∧ s16 = .pointer (some ⟨bE, 0, none⟩) ∧ Hid (FIN V15 wx bC bE C E))
  case first =>
    refine wp_region_held_drew (S := fun w' => w'.cell? ⟨bT, 0, none⟩ = some (.slice t1 t2 t3) ∧ w'.cell? ⟨bT, 1, none⟩ = some (.slice t4 t5 t6)) (by kernel_rfl) (CT.out _ (bl_r0 V15).drew) (fun hHeld => ?_)
    refine use_F (fun a' w' => ∃ (q1 : Value) (p1 : Option Addr) (p2 : Nat) (p3 : Nat) (q3 : Value) (p4 : Option Addr) (p5 : Nat) (p6 : Nat) (k1 : Option Addr) (k2 : Nat) (k3 : Nat) (k4 : Option Addr) (k5 : Nat) (k6 : Nat) (bC : Nat) (bE : Nat), a' = { tmps := #[Value.agg #[Value.bool g, Value.slice a1 n1 c1, Value.int IntKind.i64 e], Value.int IntKind.i64 (p : Int), Value.pointer (some { block := w.heap.size, off := 0 }), undef, Value.pointer (some { block := w.heap.size + 1, off := 0 }), Value.pointer (some { block := w.heap.size + 1 + 1, off := 0 }), Value.int IntKind.i64 (L : Int), Value.slice y1 y2 y3, Value.int IntKind.i64 N, Value.slice z1 z2 z3, Value.bool G, Value.pointer (some { block := bA, off := 0 }), Value.pointer (some { block := bA + 1, off := 0 }), Value.pointer (some { block := bT, off := 0 }), Value.int IntKind.u64 (M : Int), Value.pointer (some { block := bC, off := 0 }), Value.pointer (some { block := bE, off := 0 }), u17, u18, u19, u20, u21, u22, u23, u24, u25, u26, u27, u28, u29, u30, u31, u32, u33, u34, u35, u36, u37, u38, u39, u40, u41, u42, u43, u44, u45, u46, u47, u48, u49, u50, u51, u52, u53, u54, Value.tuple #[Value.agg #[Value.bool A.neg, Value.slice e1 f1 g1, Value.int IntKind.i64 A.e], Value.agg #[Value.bool B.neg, Value.slice e2 f2 g2, Value.int IntKind.i64 B.e]], Value.slice z1 z2 z3, Value.pointer (some { block := w.heap.size, off := 1 }), Value.slice a1 n1 c1, Value.slice y1 y2 y3, v10, Value.int IntKind.i64 (p : Int), v11, Value.bool G, Value.int IntKind.i64 (p : Int), Value.tuple #[Value.agg #[Value.bool A.neg, Value.slice e1 f1 g1, Value.int IntKind.i64 A.e], Value.agg #[Value.bool B.neg, Value.slice e2 f2 g2, Value.int IntKind.i64 B.e]], Value.agg #[Value.bool A.neg, Value.slice e1 f1 g1, Value.int IntKind.i64 A.e], Value.agg #[Value.bool B.neg, Value.slice e2 f2 g2, Value.int IntKind.i64 B.e], v13, v14, Value.int IntKind.i64 (p : Int), Value.agg #[Value.slice t1 t2 t3, Value.slice t4 t5 t6], Value.int IntKind.i64 N, Value.int IntKind.i64 N, Value.int IntKind.i64 (-N), Value.int IntKind.i64 (M : Int), Value.int IntKind.u64 (M : Int), Value.tuple #[Value.agg #[Value.bool C.neg, Value.slice k1 k2 k3, Value.int IntKind.i64 C.e], Value.agg #[Value.bool E.neg, Value.slice k4 k5 k6, Value.int IntKind.i64 E.e]], Value.pointer (some { block := bT, off := 0 }), Value.slice t1 t2 t3, Value.int IntKind.u64 (M : Int), q1, Value.slice p1 p2 p3, Value.pointer (some { block := bT, off := 1 }), Value.slice t4 t5 t6, Value.int IntKind.u64 (M : Int), q3, Value.slice p4 p5 p6, Value.agg #[Value.slice p1 p2 p3, Value.slice p4 p5 p6], Value.int IntKind.i64 N, Value.bool (decide (N < 0)), Value.int IntKind.i64 (p : Int), Value.tuple #[Value.agg #[Value.bool C.neg, Value.slice k1 k2 k3, Value.int IntKind.i64 C.e], Value.agg #[Value.bool E.neg, Value.slice k4 k5 k6, Value.int IntKind.i64 E.e]], Value.agg #[Value.bool C.neg, Value.slice k1 k2 k3, Value.int IntKind.i64 C.e], Value.agg #[Value.bool E.neg, Value.slice k4 k5 k6, Value.int IntKind.i64 E.e], u95, u96, u97, u98, u99, u100], defers := [] } ∧ Hid (Below V15.heap.size V15 w') ∧ Hid (NV w' (.slice k1 k2 k3) C.m) ∧ Hid (NV w' (.slice k4 k5 k6) E.m) ∧ Hid (GD w' bC nz) ∧ Hid (V15.heap.size ≤ bC ∧ True) ∧ Hid (GD w' bE nz) ∧ Hid (V15.heap.size ≤ bE ∧ True) ∧ Hid (bC ≠ bE ∧ True)) #[true, true, true, true, true, true, true, true, true, true, true, true, true, true, true, true, true, true, true, true, false, false] 2 ?F ?main
    case F =>
      intro a' w' hI
      obtain ⟨q1, p1, p2, p3, q3, p4, p5, p6, k1, k2, k3, k4, k5, k6, bC, bE, rfl, FB, E1, E2, GC, LC, GE', LE', NEb⟩ := hI
      obtain ⟨_, _, _, ia0, ia1, ia2, ia3, ia4, ia5⟩ := GC.out.cells
      obtain ⟨_, _, _, ic0, ic1, ic2, ic3, ic4, ic5⟩ := GC.out.two GE'.out (Ne.symm NEb.out.1) (.bool C.neg) (.slice k1 k2 k3) (.int .i64 C.e)
      refine wpAnyH_ready (rs := [20]) (by kernel_rfl) (by simp) ?_
      refine AllReadyH.cons (o := _) (at_of rfl) (fun K hK => ?_) AllReadyH.nil
      go_simp
      refine hK.out _ _ (CT.out _ (bl_set3 FB.out LC.out.1 _ _ _)) (fun _ => ?_)
      try simp only [Act.put, List.setIfInBounds_toArray, List.set_cons_zero, List.set_cons_succ]
      refine wpAnyH_ready (rs := [21]) (by kernel_rfl) (by simp) ?_
      refine AllReadyH.cons (o := _) (at_of rfl) (fun K hK => ?_) AllReadyH.nil
      go_simp
      refine hK.out _ _ (CT.out _ (bl_set3 (bl_set3 FB.out LC.out.1 _ _ _) LE'.out.1 _ _ _)) (fun _ => ?_)
      try simp only [Act.put, List.setIfInBounds_toArray, List.set_cons_zero, List.set_cons_succ]
      refine wpAnyH_done (by kernel_rfl) ?_ _
      go_wp2_with fail
      go_meet
      exact ⟨_, _, rfl, rfl, Lib.hid (fin_cc FB.out GC.out GE'.out NEb.out.1 LC.out.1 LE'.out.1 E1.out E2.out)⟩
    case main =>
    intro hF'
    have F511 := Lib.hid hF'
    clear hF'
    refine use_F (fun a' w' => ∃ (q1 : Value) (p1 : Option Addr) (p2 : Nat) (p3 : Nat) (q3 : Value) (p4 : Option Addr) (p5 : Nat) (p6 : Nat) (k1 : Option Addr) (k2 : Nat) (k3 : Nat) (k4 : Option Addr) (k5 : Nat) (k6 : Nat) (bC : Nat), a' = { tmps := #[Value.agg #[Value.bool g, Value.slice a1 n1 c1, Value.int IntKind.i64 e], Value.int IntKind.i64 (p : Int), Value.pointer (some { block := w.heap.size, off := 0 }), undef, Value.pointer (some { block := w.heap.size + 1, off := 0 }), Value.pointer (some { block := w.heap.size + 1 + 1, off := 0 }), Value.int IntKind.i64 (L : Int), Value.slice y1 y2 y3, Value.int IntKind.i64 N, Value.slice z1 z2 z3, Value.bool G, Value.pointer (some { block := bA, off := 0 }), Value.pointer (some { block := bA + 1, off := 0 }), Value.pointer (some { block := bT, off := 0 }), Value.int IntKind.u64 (M : Int), Value.pointer (some { block := bC, off := 0 }), undef, u17, u18, u19, u20, u21, u22, u23, u24, u25, u26, u27, u28, u29, u30, u31, u32, u33, u34, u35, u36, u37, u38, u39, u40, u41, u42, u43, u44, u45, u46, u47, u48, u49, u50, u51, u52, u53, u54, Value.tuple #[Value.agg #[Value.bool A.neg, Value.slice e1 f1 g1, Value.int IntKind.i64 A.e], Value.agg #[Value.bool B.neg, Value.slice e2 f2 g2, Value.int IntKind.i64 B.e]], Value.slice z1 z2 z3, Value.pointer (some { block := w.heap.size, off := 1 }), Value.slice a1 n1 c1, Value.slice y1 y2 y3, v10, Value.int IntKind.i64 (p : Int), v11, Value.bool G, Value.int IntKind.i64 (p : Int), Value.tuple #[Value.agg #[Value.bool A.neg, Value.slice e1 f1 g1, Value.int IntKind.i64 A.e], Value.agg #[Value.bool B.neg, Value.slice e2 f2 g2, Value.int IntKind.i64 B.e]], Value.agg #[Value.bool A.neg, Value.slice e1 f1 g1, Value.int IntKind.i64 A.e], Value.agg #[Value.bool B.neg, Value.slice e2 f2 g2, Value.int IntKind.i64 B.e], v13, v14, Value.int IntKind.i64 (p : Int), Value.agg #[Value.slice t1 t2 t3, Value.slice t4 t5 t6], Value.int IntKind.i64 N, Value.int IntKind.i64 N, Value.int IntKind.i64 (-N), Value.int IntKind.i64 (M : Int), Value.int IntKind.u64 (M : Int), Value.tuple #[Value.agg #[Value.bool C.neg, Value.slice k1 k2 k3, Value.int IntKind.i64 C.e], Value.agg #[Value.bool E.neg, Value.slice k4 k5 k6, Value.int IntKind.i64 E.e]], Value.pointer (some { block := bT, off := 0 }), Value.slice t1 t2 t3, Value.int IntKind.u64 (M : Int), q1, Value.slice p1 p2 p3, Value.pointer (some { block := bT, off := 1 }), Value.slice t4 t5 t6, Value.int IntKind.u64 (M : Int), q3, Value.slice p4 p5 p6, Value.agg #[Value.slice p1 p2 p3, Value.slice p4 p5 p6], Value.int IntKind.i64 N, Value.bool (decide (N < 0)), Value.int IntKind.i64 (p : Int), Value.tuple #[Value.agg #[Value.bool C.neg, Value.slice k1 k2 k3, Value.int IntKind.i64 C.e], Value.agg #[Value.bool E.neg, Value.slice k4 k5 k6, Value.int IntKind.i64 E.e]], Value.agg #[Value.bool C.neg, Value.slice k1 k2 k3, Value.int IntKind.i64 C.e], Value.agg #[Value.bool E.neg, Value.slice k4 k5 k6, Value.int IntKind.i64 E.e], u95, u96, u97, u98, u99, u100], defers := [] } ∧ Hid (Below V15.heap.size V15 w') ∧ Hid (NV w' (.slice k1 k2 k3) C.m) ∧ Hid (NV w' (.slice k4 k5 k6) E.m) ∧ Hid (GD w' bC nz) ∧ Hid (V15.heap.size ≤ bC ∧ True)) #[true, true, true, true, true, true, true, true, true, true, true, true, true, true, true, true, true, true, true, false, false, false] 3 ?F ?main
    case F =>
      intro a' w' hI
      obtain ⟨q1, p1, p2, p3, q3, p4, p5, p6, k1, k2, k3, k4, k5, k6, bC, rfl, FB, E1, E2, GC, LC⟩ := hI
      refine wpAnyH_ready (rs := [19]) (by kernel_rfl) (by simp) ?_
      refine AllReadyH.cons (o := _) (at_of rfl) (fun K hK => ?_) ?_
      · have hlt := FB.out.size
        go_simp
        refine hK.out _ _ (CT.out _ (bl_a1 FB.out _)) (fun _ => ?_)
        try simp only [Act.put, List.setIfInBounds_toArray, List.set_cons_zero, List.set_cons_succ]
        have FBn := Lib.hid (bl_a1 FB.out (.cells #[.bool false, .slice none 0 0, .int .i64 0] 24))
        have E1n := Lib.hid (E1.out.alloc (.cells #[.bool false, .slice none 0 0, .int .i64 0] 24))
        have E2n := Lib.hid (E2.out.alloc (.cells #[.bool false, .slice none 0 0, .int .i64 0] 24))
        have GCn := Lib.hid (GC.out.alloc (.cells #[.bool false, .slice none 0 0, .int .i64 0] 24))
        have LCn := LC
        have GE'n := Lib.hid (GD.nil w')
        have LE'n : Hid (V15.heap.size ≤ w'.heap.size ∧ True) := Lib.hid ⟨hlt, trivial⟩
        have NEbn := Lib.hid (show bC ≠ w'.heap.size ∧ True from ⟨by have := GC.out.lt; omega, trivial⟩)
        exact F511.out _ _ ⟨_, _, _, _, _, _, _, _, _, _, _, _, _, _, _, _, rfl, FBn, E1n, E2n, GCn, LCn, GE'n, LE'n, NEbn⟩
      exact AllReadyH.nil
    case main =>
    intro hF'
    have F510 := Lib.hid hF'
    clear hF'
    refine use_F (fun a' w' => ∃ (q1 : Value) (p1 : Option Addr) (p2 : Nat) (p3 : Nat) (q3 : Value) (p4 : Option Addr) (p5 : Nat) (p6 : Nat) (k1 : Option Addr) (k2 : Nat) (k3 : Nat) (k4 : Option Addr) (k5 : Nat) (k6 : Nat) (bE : Nat), a' = { tmps := #[Value.agg #[Value.bool g, Value.slice a1 n1 c1, Value.int IntKind.i64 e], Value.int IntKind.i64 (p : Int), Value.pointer (some { block := w.heap.size, off := 0 }), undef, Value.pointer (some { block := w.heap.size + 1, off := 0 }), Value.pointer (some { block := w.heap.size + 1 + 1, off := 0 }), Value.int IntKind.i64 (L : Int), Value.slice y1 y2 y3, Value.int IntKind.i64 N, Value.slice z1 z2 z3, Value.bool G, Value.pointer (some { block := bA, off := 0 }), Value.pointer (some { block := bA + 1, off := 0 }), Value.pointer (some { block := bT, off := 0 }), Value.int IntKind.u64 (M : Int), undef, Value.pointer (some { block := bE, off := 0 }), u17, u18, u19, u20, u21, u22, u23, u24, u25, u26, u27, u28, u29, u30, u31, u32, u33, u34, u35, u36, u37, u38, u39, u40, u41, u42, u43, u44, u45, u46, u47, u48, u49, u50, u51, u52, u53, u54, Value.tuple #[Value.agg #[Value.bool A.neg, Value.slice e1 f1 g1, Value.int IntKind.i64 A.e], Value.agg #[Value.bool B.neg, Value.slice e2 f2 g2, Value.int IntKind.i64 B.e]], Value.slice z1 z2 z3, Value.pointer (some { block := w.heap.size, off := 1 }), Value.slice a1 n1 c1, Value.slice y1 y2 y3, v10, Value.int IntKind.i64 (p : Int), v11, Value.bool G, Value.int IntKind.i64 (p : Int), Value.tuple #[Value.agg #[Value.bool A.neg, Value.slice e1 f1 g1, Value.int IntKind.i64 A.e], Value.agg #[Value.bool B.neg, Value.slice e2 f2 g2, Value.int IntKind.i64 B.e]], Value.agg #[Value.bool A.neg, Value.slice e1 f1 g1, Value.int IntKind.i64 A.e], Value.agg #[Value.bool B.neg, Value.slice e2 f2 g2, Value.int IntKind.i64 B.e], v13, v14, Value.int IntKind.i64 (p : Int), Value.agg #[Value.slice t1 t2 t3, Value.slice t4 t5 t6], Value.int IntKind.i64 N, Value.int IntKind.i64 N, Value.int IntKind.i64 (-N), Value.int IntKind.i64 (M : Int), Value.int IntKind.u64 (M : Int), Value.tuple #[Value.agg #[Value.bool C.neg, Value.slice k1 k2 k3, Value.int IntKind.i64 C.e], Value.agg #[Value.bool E.neg, Value.slice k4 k5 k6, Value.int IntKind.i64 E.e]], Value.pointer (some { block := bT, off := 0 }), Value.slice t1 t2 t3, Value.int IntKind.u64 (M : Int), q1, Value.slice p1 p2 p3, Value.pointer (some { block := bT, off := 1 }), Value.slice t4 t5 t6, Value.int IntKind.u64 (M : Int), q3, Value.slice p4 p5 p6, Value.agg #[Value.slice p1 p2 p3, Value.slice p4 p5 p6], Value.int IntKind.i64 N, Value.bool (decide (N < 0)), Value.int IntKind.i64 (p : Int), Value.tuple #[Value.agg #[Value.bool C.neg, Value.slice k1 k2 k3, Value.int IntKind.i64 C.e], Value.agg #[Value.bool E.neg, Value.slice k4 k5 k6, Value.int IntKind.i64 E.e]], Value.agg #[Value.bool C.neg, Value.slice k1 k2 k3, Value.int IntKind.i64 C.e], Value.agg #[Value.bool E.neg, Value.slice k4 k5 k6, Value.int IntKind.i64 E.e], u95, u96, u97, u98, u99, u100], defers := [] } ∧ Hid (Below V15.heap.size V15 w') ∧ Hid (NV w' (.slice k1 k2 k3) C.m) ∧ Hid (NV w' (.slice k4 k5 k6) E.m) ∧ Hid (GD w' bE nz) ∧ Hid (V15.heap.size ≤ bE ∧ True)) #[true, true, true, true, true, true, true, true, true, true, true, true, true, true, true, true, true, true, false, true, false, false] 3 ?F ?main
    case F =>
      intro a' w' hI
      obtain ⟨q1, p1, p2, p3, q3, p4, p5, p6, k1, k2, k3, k4, k5, k6, bE, rfl, FB, E1, E2, GE', LE'⟩ := hI
      refine wpAnyH_ready (rs := [18]) (by kernel_rfl) (by simp) ?_
      refine AllReadyH.cons (o := _) (at_of rfl) (fun K hK => ?_) ?_
      · have hlt := FB.out.size
        go_simp
        refine hK.out _ _ (CT.out _ (bl_a1 FB.out _)) (fun _ => ?_)
        try simp only [Act.put, List.setIfInBounds_toArray, List.set_cons_zero, List.set_cons_succ]
        have FBn := Lib.hid (bl_a1 FB.out (.cells #[.bool false, .slice none 0 0, .int .i64 0] 24))
        have E1n := Lib.hid (E1.out.alloc (.cells #[.bool false, .slice none 0 0, .int .i64 0] 24))
        have E2n := Lib.hid (E2.out.alloc (.cells #[.bool false, .slice none 0 0, .int .i64 0] 24))
        have GE'n := Lib.hid (GE'.out.alloc (.cells #[.bool false, .slice none 0 0, .int .i64 0] 24))
        have LE'n := LE'
        have GCn := Lib.hid (GD.nil w')
        have LCn : Hid (V15.heap.size ≤ w'.heap.size ∧ True) := Lib.hid ⟨hlt, trivial⟩
        have NEbn := Lib.hid (show w'.heap.size ≠ bE ∧ True from ⟨by have := GE'.out.lt; omega, trivial⟩)
        exact F511.out _ _ ⟨_, _, _, _, _, _, _, _, _, _, _, _, _, _, _, _, rfl, FBn, E1n, E2n, GCn, LCn, GE'n, LE'n, NEbn⟩
      exact AllReadyH.nil
    case main =>
    intro hF'
    have F501 := Lib.hid hF'
    clear hF'
    refine use_F (fun a' w' => ∃ (q1 : Value) (p1 : Option Addr) (p2 : Nat) (p3 : Nat) (q3 : Value) (p4 : Option Addr) (p5 : Nat) (p6 : Nat) (k1 : Option Addr) (k2 : Nat) (k3 : Nat) (k4 : Option Addr) (k5 : Nat) (k6 : Nat), a' = { tmps := #[Value.agg #[Value.bool g, Value.slice a1 n1 c1, Value.int IntKind.i64 e], Value.int IntKind.i64 (p : Int), Value.pointer (some { block := w.heap.size, off := 0 }), undef, Value.pointer (some { block := w.heap.size + 1, off := 0 }), Value.pointer (some { block := w.heap.size + 1 + 1, off := 0 }), Value.int IntKind.i64 (L : Int), Value.slice y1 y2 y3, Value.int IntKind.i64 N, Value.slice z1 z2 z3, Value.bool G, Value.pointer (some { block := bA, off := 0 }), Value.pointer (some { block := bA + 1, off := 0 }), Value.pointer (some { block := bT, off := 0 }), Value.int IntKind.u64 (M : Int), undef, undef, u17, u18, u19, u20, u21, u22, u23, u24, u25, u26, u27, u28, u29, u30, u31, u32, u33, u34, u35, u36, u37, u38, u39, u40, u41, u42, u43, u44, u45, u46, u47, u48, u49, u50, u51, u52, u53, u54, Value.tuple #[Value.agg #[Value.bool A.neg, Value.slice e1 f1 g1, Value.int IntKind.i64 A.e], Value.agg #[Value.bool B.neg, Value.slice e2 f2 g2, Value.int IntKind.i64 B.e]], Value.slice z1 z2 z3, Value.pointer (some { block := w.heap.size, off := 1 }), Value.slice a1 n1 c1, Value.slice y1 y2 y3, v10, Value.int IntKind.i64 (p : Int), v11, Value.bool G, Value.int IntKind.i64 (p : Int), Value.tuple #[Value.agg #[Value.bool A.neg, Value.slice e1 f1 g1, Value.int IntKind.i64 A.e], Value.agg #[Value.bool B.neg, Value.slice e2 f2 g2, Value.int IntKind.i64 B.e]], Value.agg #[Value.bool A.neg, Value.slice e1 f1 g1, Value.int IntKind.i64 A.e], Value.agg #[Value.bool B.neg, Value.slice e2 f2 g2, Value.int IntKind.i64 B.e], v13, v14, Value.int IntKind.i64 (p : Int), Value.agg #[Value.slice t1 t2 t3, Value.slice t4 t5 t6], Value.int IntKind.i64 N, Value.int IntKind.i64 N, Value.int IntKind.i64 (-N), Value.int IntKind.i64 (M : Int), Value.int IntKind.u64 (M : Int), Value.tuple #[Value.agg #[Value.bool C.neg, Value.slice k1 k2 k3, Value.int IntKind.i64 C.e], Value.agg #[Value.bool E.neg, Value.slice k4 k5 k6, Value.int IntKind.i64 E.e]], Value.pointer (some { block := bT, off := 0 }), Value.slice t1 t2 t3, Value.int IntKind.u64 (M : Int), q1, Value.slice p1 p2 p3, Value.pointer (some { block := bT, off := 1 }), Value.slice t4 t5 t6, Value.int IntKind.u64 (M : Int), q3, Value.slice p4 p5 p6, Value.agg #[Value.slice p1 p2 p3, Value.slice p4 p5 p6], Value.int IntKind.i64 N, Value.bool (decide (N < 0)), Value.int IntKind.i64 (p : Int), Value.tuple #[Value.agg #[Value.bool C.neg, Value.slice k1 k2 k3, Value.int IntKind.i64 C.e], Value.agg #[Value.bool E.neg, Value.slice k4 k5 k6, Value.int IntKind.i64 E.e]], Value.agg #[Value.bool C.neg, Value.slice k1 k2 k3, Value.int IntKind.i64 C.e], Value.agg #[Value.bool E.neg, Value.slice k4 k5 k6, Value.int IntKind.i64 E.e], u95, u96, u97, u98, u99, u100], defers := [] } ∧ Hid (Below V15.heap.size V15 w') ∧ Hid (NV w' (.slice k1 k2 k3) C.m) ∧ Hid (NV w' (.slice k4 k5 k6) E.m)) #[true, true, true, true, true, true, true, true, true, true, true, true, true, true, true, true, true, true, false, false, false, false] 4 ?F ?main
    case F =>
      intro a' w' hI
      obtain ⟨q1, p1, p2, p3, q3, p4, p5, p6, k1, k2, k3, k4, k5, k6, rfl, FB, E1, E2⟩ := hI
      refine wpAnyH_ready (rs := [18, 19]) (by kernel_rfl) (by simp) ?_
      refine AllReadyH.cons (o := _) (at_of rfl) (fun K hK => ?_) ?_
      · have hlt := FB.out.size
        go_simp
        refine hK.out _ _ (CT.out _ (bl_a1 FB.out _)) (fun _ => ?_)
        try simp only [Act.put, List.setIfInBounds_toArray, List.set_cons_zero, List.set_cons_succ]
        have FBn := Lib.hid (bl_a1 FB.out (.cells #[.bool false, .slice none 0 0, .int .i64 0] 24))
        have E1n := Lib.hid (E1.out.alloc (.cells #[.bool false, .slice none 0 0, .int .i64 0] 24))
        have E2n := Lib.hid (E2.out.alloc (.cells #[.bool false, .slice none 0 0, .int .i64 0] 24))
        have GCn := Lib.hid (GD.nil w')
        have LCn : Hid (V15.heap.size ≤ w'.heap.size ∧ True) := Lib.hid ⟨hlt, trivial⟩
        exact F510.out _ _ ⟨_, _, _, _, _, _, _, _, _, _, _, _, _, _, _, rfl, FBn, E1n, E2n, GCn, LCn⟩
      refine AllReadyH.cons (o := _) (at_of rfl) (fun K hK => ?_) ?_
      · have hlt := FB.out.size
        go_simp
        refine hK.out _ _ (CT.out _ (bl_a1 FB.out _)) (fun _ => ?_)
        try simp only [Act.put, List.setIfInBounds_toArray, List.set_cons_zero, List.set_cons_succ]
        have FBn := Lib.hid (bl_a1 FB.out (.cells #[.bool false, .slice none 0 0, .int .i64 0] 24))
        have E1n := Lib.hid (E1.out.alloc (.cells #[.bool false, .slice none 0 0, .int .i64 0] 24))
        have E2n := Lib.hid (E2.out.alloc (.cells #[.bool false, .slice none 0 0, .int .i64 0] 24))
        have GE'n := Lib.hid (GD.nil w')
        have LE'n : Hid (V15.heap.size ≤ w'.heap.size ∧ True) := Lib.hid ⟨hlt, trivial⟩
        exact F501.out _ _ ⟨_, _, _, _, _, _, _, _, _, _, _, _, _, _, _, rfl, FBn, E1n, E2n, GE'n, LE'n⟩
      exact AllReadyH.nil
    case main =>
    intro hF'
    have F500 := Lib.hid hF'
    clear hF'
    refine use_F (fun a' w' => ∃ (q1 : Value) (p1 : Option Addr) (p2 : Nat) (p3 : Nat) (q3 : Value) (p4 : Option Addr) (p5 : Nat) (p6 : Nat) (bC : Nat) (bE : Nat), a' = { tmps := #[Value.agg #[Value.bool g, Value.slice a1 n1 c1, Value.int IntKind.i64 e], Value.int IntKind.i64 (p : Int), Value.pointer (some { block := w.heap.size, off := 0 }), undef, Value.pointer (some { block := w.heap.size + 1, off := 0 }), Value.pointer (some { block := w.heap.size + 1 + 1, off := 0 }), Value.int IntKind.i64 (L : Int), Value.slice y1 y2 y3, Value.int IntKind.i64 N, Value.slice z1 z2 z3, Value.bool G, Value.pointer (some { block := bA, off := 0 }), Value.pointer (some { block := bA + 1, off := 0 }), Value.pointer (some { block := bT, off := 0 }), Value.int IntKind.u64 (M : Int), Value.pointer (some { block := bC, off := 0 }), Value.pointer (some { block := bE, off := 0 }), u17, u18, u19, u20, u21, u22, u23, u24, u25, u26, u27, u28, u29, u30, u31, u32, u33, u34, u35, u36, u37, u38, u39, u40, u41, u42, u43, u44, u45, u46, u47, u48, u49, u50, u51, u52, u53, u54, Value.tuple #[Value.agg #[Value.bool A.neg, Value.slice e1 f1 g1, Value.int IntKind.i64 A.e], Value.agg #[Value.bool B.neg, Value.slice e2 f2 g2, Value.int IntKind.i64 B.e]], Value.slice z1 z2 z3, Value.pointer (some { block := w.heap.size, off := 1 }), Value.slice a1 n1 c1, Value.slice y1 y2 y3, v10, Value.int IntKind.i64 (p : Int), v11, Value.bool G, Value.int IntKind.i64 (p : Int), Value.tuple #[Value.agg #[Value.bool A.neg, Value.slice e1 f1 g1, Value.int IntKind.i64 A.e], Value.agg #[Value.bool B.neg, Value.slice e2 f2 g2, Value.int IntKind.i64 B.e]], Value.agg #[Value.bool A.neg, Value.slice e1 f1 g1, Value.int IntKind.i64 A.e], Value.agg #[Value.bool B.neg, Value.slice e2 f2 g2, Value.int IntKind.i64 B.e], v13, v14, Value.int IntKind.i64 (p : Int), Value.agg #[Value.slice t1 t2 t3, Value.slice t4 t5 t6], Value.int IntKind.i64 N, Value.int IntKind.i64 N, Value.int IntKind.i64 (-N), Value.int IntKind.i64 (M : Int), Value.int IntKind.u64 (M : Int), u77, Value.pointer (some { block := bT, off := 0 }), Value.slice t1 t2 t3, Value.int IntKind.u64 (M : Int), q1, Value.slice p1 p2 p3, Value.pointer (some { block := bT, off := 1 }), Value.slice t4 t5 t6, Value.int IntKind.u64 (M : Int), q3, Value.slice p4 p5 p6, Value.agg #[Value.slice p1 p2 p3, Value.slice p4 p5 p6], Value.int IntKind.i64 N, Value.bool (decide (N < 0)), Value.int IntKind.i64 (p : Int), u92, u93, u94, u95, u96, u97, u98, u99, u100], defers := [] } ∧ Hid (Below V15.heap.size V15 w') ∧ Hid (NV w' (.slice p1 p2 p3) ((atP 1 3 p j).l * M)) ∧ Hid (NV w' (.slice p4 p5 p6) ((atP 1 3 p j).h * M)) ∧ Hid (GD w' bC nz) ∧ Hid (V15.heap.size ≤ bC ∧ True) ∧ Hid (GD w' bE nz) ∧ Hid (V15.heap.size ≤ bE ∧ True) ∧ Hid (bC ≠ bE ∧ True)) #[true, true, true, true, true, true, true, true, true, true, true, true, true, true, false, false, false, false, true, true, false, false] 6 ?F ?main
    case F =>
      intro a' w' hI
      obtain ⟨q1, p1, p2, p3, q3, p4, p5, p6, bC, bE, rfl, FB, F2, F4, GC, LC, GE', LE', NEb⟩ := hI
      refine wpAnyH_ready (rs := [14]) (by kernel_rfl) (by simp) ?_
      refine AllReadyH.cons (o := _) (at_of rfl) (fun K hK => ?_) ?_
      · go_simp
        refine (SGT.out _ _ (HT15.out.below FB.out) ⟨_, _, rfl, F2.out, F4.out⟩).mono ?_
        rintro r wn ⟨r1, r2, rfl, hr1, hr2, hb⟩
        obtain ⟨k1, k2, k3, rfl, hr3⟩ := hr1.parts
        obtain ⟨k4, k5, k6, rfl, hr4⟩ := hr2.parts
        have E1n := Lib.hid hr3
        have E2n := Lib.hid hr4
        have FBn := Lib.hid (bl_thru FB.out (Nat.le_refl _) hb)
        have GCn := Lib.hid (GC.out.below hb)
        have LCn := LC
        have GE'n := Lib.hid (GE'.out.below hb)
        have LE'n := LE'
        have NEbn := NEb
        dsimp only
        refine hK.out _ _ (CT.out _ FBn.out) (fun _ => ?_)
        try simp only [Act.put, List.setIfInBounds_toArray, List.set_cons_zero, List.set_cons_succ]
        refine wpAnyH_take (i := 15) (oi := _) (v := ?_) (at_of rfl) (by kernel_rfl) (by kernel_rfl) (by kernel_rfl) (fun _ _ _ h => h) (Or.inl ⟨by rfl, ?_⟩) (CT.out _ FBn.out) ?_
        rotate_left
        · (intro w hSw; (try dsimp only at hSw); first | (go_simp; done) | (go_simp; with_reducible rfl))
        try simp only [Act.put, List.setIfInBounds_toArray, List.set_cons_zero, List.set_cons_succ]
        refine wpAnyH_take (i := 16) (oi := _) (v := ?_) (at_of rfl) (by kernel_rfl) (by kernel_rfl) (by kernel_rfl) (fun _ _ _ h => h) (Or.inl ⟨by rfl, ?_⟩) (CT.out _ FBn.out) ?_
        rotate_left
        · (intro w hSw; (try dsimp only at hSw); first | (go_simp; done) | (go_simp; with_reducible rfl))
        try simp only [Act.put, List.setIfInBounds_toArray, List.set_cons_zero, List.set_cons_succ]
        refine wpAnyH_take (i := 17) (oi := _) (v := ?_) (at_of rfl) (by kernel_rfl) (by kernel_rfl) (by kernel_rfl) (fun _ _ _ h => h) (Or.inl ⟨by rfl, ?_⟩) (CT.out _ FBn.out) ?_
        rotate_left
        · (intro w hSw; (try dsimp only at hSw); first | (go_simp; done) | (go_simp; with_reducible rfl))
        try simp only [Act.put, List.setIfInBounds_toArray, List.set_cons_zero, List.set_cons_succ]
        exact F511.out _ _ ⟨_, _, _, _, _, _, _, _, _, _, _, _, _, _, _, _, rfl, FBn, E1n, E2n, GCn, LCn, GE'n, LE'n, NEbn⟩
      exact AllReadyH.nil
    case main =>
    intro hF'
    have F411 := Lib.hid hF'
    clear hF'
    refine use_F (fun a' w' => ∃ (q1 : Value) (p1 : Option Addr) (p2 : Nat) (p3 : Nat) (q3 : Value) (p4 : Option Addr) (p5 : Nat) (p6 : Nat) (bC : Nat), a' = { tmps := #[Value.agg #[Value.bool g, Value.slice a1 n1 c1, Value.int IntKind.i64 e], Value.int IntKind.i64 (p : Int), Value.pointer (some { block := w.heap.size, off := 0 }), undef, Value.pointer (some { block := w.heap.size + 1, off := 0 }), Value.pointer (some { block := w.heap.size + 1 + 1, off := 0 }), Value.int IntKind.i64 (L : Int), Value.slice y1 y2 y3, Value.int IntKind.i64 N, Value.slice z1 z2 z3, Value.bool G, Value.pointer (some { block := bA, off := 0 }), Value.pointer (some { block := bA + 1, off := 0 }), Value.pointer (some { block := bT, off := 0 }), Value.int IntKind.u64 (M : Int), Value.pointer (some { block := bC, off := 0 }), undef, u17, u18, u19, u20, u21, u22, u23, u24, u25, u26, u27, u28, u29, u30, u31, u32, u33, u34, u35, u36, u37, u38, u39, u40, u41, u42, u43, u44, u45, u46, u47, u48, u49, u50, u51, u52, u53, u54, Value.tuple #[Value.agg #[Value.bool A.neg, Value.slice e1 f1 g1, Value.int IntKind.i64 A.e], Value.agg #[Value.bool B.neg, Value.slice e2 f2 g2, Value.int IntKind.i64 B.e]], Value.slice z1 z2 z3, Value.pointer (some { block := w.heap.size, off := 1 }), Value.slice a1 n1 c1, Value.slice y1 y2 y3, v10, Value.int IntKind.i64 (p : Int), v11, Value.bool G, Value.int IntKind.i64 (p : Int), Value.tuple #[Value.agg #[Value.bool A.neg, Value.slice e1 f1 g1, Value.int IntKind.i64 A.e], Value.agg #[Value.bool B.neg, Value.slice e2 f2 g2, Value.int IntKind.i64 B.e]], Value.agg #[Value.bool A.neg, Value.slice e1 f1 g1, Value.int IntKind.i64 A.e], Value.agg #[Value.bool B.neg, Value.slice e2 f2 g2, Value.int IntKind.i64 B.e], v13, v14, Value.int IntKind.i64 (p : Int), Value.agg #[Value.slice t1 t2 t3, Value.slice t4 t5 t6], Value.int IntKind.i64 N, Value.int IntKind.i64 N, Value.int IntKind.i64 (-N), Value.int IntKind.i64 (M : Int), Value.int IntKind.u64 (M : Int), u77, Value.pointer (some { block := bT, off := 0 }), Value.slice t1 t2 t3, Value.int IntKind.u64 (M : Int), q1, Value.slice p1 p2 p3, Value.pointer (some { block := bT, off := 1 }), Value.slice t4 t5 t6, Value.int IntKind.u64 (M : Int), q3, Value.slice p4 p5 p6, Value.agg #[Value.slice p1 p2 p3, Value.slice p4 p5 p6], Value.int IntKind.i64 N, Value.bool (decide (N < 0)), Value.int IntKind.i64 (p : Int), u92, u93, u94, u95, u96, u97, u98, u99, u100], defers := [] } ∧ Hid (Below V15.heap.size V15 w') ∧ Hid (NV w' (.slice p1 p2 p3) ((atP 1 3 p j).l * M)) ∧ Hid (NV w' (.slice p4 p5 p6) ((atP 1 3 p j).h * M)) ∧ Hid (GD w' bC nz) ∧ Hid (V15.heap.size ≤ bC ∧ True)) #[true, true, true, true, true, true, true, true, true, true, true, true, true, true, false, false, false, false, true, false, false, false] 7 ?F ?main
    case F =>
      intro a' w' hI
      obtain ⟨q1, p1, p2, p3, q3, p4, p5, p6, bC, rfl, FB, F2, F4, GC, LC⟩ := hI
      refine wpAnyH_ready (rs := [14, 19]) (by kernel_rfl) (by simp) ?_
      refine AllReadyH.cons (o := _) (at_of rfl) (fun K hK => ?_) ?_
      · go_simp
        refine (SGT.out _ _ (HT15.out.below FB.out) ⟨_, _, rfl, F2.out, F4.out⟩).mono ?_
        rintro r wn ⟨r1, r2, rfl, hr1, hr2, hb⟩
        obtain ⟨k1, k2, k3, rfl, hr3⟩ := hr1.parts
        obtain ⟨k4, k5, k6, rfl, hr4⟩ := hr2.parts
        have E1n := Lib.hid hr3
        have E2n := Lib.hid hr4
        have FBn := Lib.hid (bl_thru FB.out (Nat.le_refl _) hb)
        have GCn := Lib.hid (GC.out.below hb)
        have LCn := LC
        dsimp only
        refine hK.out _ _ (CT.out _ FBn.out) (fun _ => ?_)
        try simp only [Act.put, List.setIfInBounds_toArray, List.set_cons_zero, List.set_cons_succ]
        refine wpAnyH_take (i := 15) (oi := _) (v := ?_) (at_of rfl) (by kernel_rfl) (by kernel_rfl) (by kernel_rfl) (fun _ _ _ h => h) (Or.inl ⟨by rfl, ?_⟩) (CT.out _ FBn.out) ?_
        rotate_left
        · (intro w hSw; (try dsimp only at hSw); first | (go_simp; done) | (go_simp; with_reducible rfl))
        try simp only [Act.put, List.setIfInBounds_toArray, List.set_cons_zero, List.set_cons_succ]
        refine wpAnyH_take (i := 16) (oi := _) (v := ?_) (at_of rfl) (by kernel_rfl) (by kernel_rfl) (by kernel_rfl) (fun _ _ _ h => h) (Or.inl ⟨by rfl, ?_⟩) (CT.out _ FBn.out) ?_
        rotate_left
        · (intro w hSw; (try dsimp only at hSw); first | (go_simp; done) | (go_simp; with_reducible rfl))
        try simp only [Act.put, List.setIfInBounds_toArray, List.set_cons_zero, List.set_cons_succ]
        refine wpAnyH_take (i := 17) (oi := _) (v := ?_) (at_of rfl) (by kernel_rfl) (by kernel_rfl) (by kernel_rfl) (fun _ _ _ h => h) (Or.inl ⟨by rfl, ?_⟩) (CT.out _ FBn.out) ?_
        rotate_left
        · (intro w hSw; (try dsimp only at hSw); first | (go_simp; done) | (go_simp; with_reducible rfl))
        try simp only [Act.put, List.setIfInBounds_toArray, List.set_cons_zero, List.set_cons_succ]
        exact F510.out _ _ ⟨_, _, _, _, _, _, _, _, _, _, _, _, _, _, _, rfl, FBn, E1n, E2n, GCn, LCn⟩
      refine AllReadyH.cons (o := _) (at_of rfl) (fun K hK => ?_) ?_
      · have hlt := FB.out.size
        go_simp
        refine hK.out _ _ (CT.out _ (bl_a1 FB.out _)) (fun _ => ?_)
        try simp only [Act.put, List.setIfInBounds_toArray, List.set_cons_zero, List.set_cons_succ]
        have FBn := Lib.hid (bl_a1 FB.out (.cells #[.bool false, .slice none 0 0, .int .i64 0] 24))
        have F2n := Lib.hid (F2.out.alloc (.cells #[.bool false, .slice none 0 0, .int .i64 0] 24))
        have F4n := Lib.hid (F4.out.alloc (.cells #[.bool false, .slice none 0 0, .int .i64 0] 24))
        have GCn := Lib.hid (GC.out.alloc (.cells #[.bool false, .slice none 0 0, .int .i64 0] 24))
        have LCn := LC
        have GE'n := Lib.hid (GD.nil w')
        have LE'n : Hid (V15.heap.size ≤ w'.heap.size ∧ True) := Lib.hid ⟨hlt, trivial⟩
        have NEbn := Lib.hid (show bC ≠ w'.heap.size ∧ True from ⟨by have := GC.out.lt; omega, trivial⟩)
        exact F411.out _ _ ⟨_, _, _, _, _, _, _, _, _, _, rfl, FBn, F2n, F4n, GCn, LCn, GE'n, LE'n, NEbn⟩
      exact AllReadyH.nil
    case main =>
    intro hF'
    have F410 := Lib.hid hF'
    clear hF'
    refine use_F (fun a' w' => ∃ (q1 : Value) (p1 : Option Addr) (p2 : Nat) (p3 : Nat) (q3 : Value) (p4 : Option Addr) (p5 : Nat) (p6 : Nat) (bE : Nat), a' = { tmps := #[Value.agg #[Value.bool g, Value.slice a1 n1 c1, Value.int IntKind.i64 e], Value.int IntKind.i64 (p : Int), Value.pointer (some { block := w.heap.size, off := 0 }), undef, Value.pointer (some { block := w.heap.size + 1, off := 0 }), Value.pointer (some { block := w.heap.size + 1 + 1, off := 0 }), Value.int IntKind.i64 (L : Int), Value.slice y1 y2 y3, Value.int IntKind.i64 N, Value.slice z1 z2 z3, Value.bool G, Value.pointer (some { block := bA, off := 0 }), Value.pointer (some { block := bA + 1, off := 0 }), Value.pointer (some { block := bT, off := 0 }), Value.int IntKind.u64 (M : Int), undef, Value.pointer (some { block := bE, off := 0 }), u17, u18, u19, u20, u21, u22, u23, u24, u25, u26, u27, u28, u29, u30, u31, u32, u33, u34, u35, u36, u37, u38, u39, u40, u41, u42, u43, u44, u45, u46, u47, u48, u49, u50, u51, u52, u53, u54, Value.tuple #[Value.agg #[Value.bool A.neg, Value.slice e1 f1 g1, Value.int IntKind.i64 A.e], Value.agg #[Value.bool B.neg, Value.slice e2 f2 g2, Value.int IntKind.i64 B.e]], Value.slice z1 z2 z3, Value.pointer (some { block := w.heap.size, off := 1 }), Value.slice a1 n1 c1, Value.slice y1 y2 y3, v10, Value.int IntKind.i64 (p : Int), v11, Value.bool G, Value.int IntKind.i64 (p : Int), Value.tuple #[Value.agg #[Value.bool A.neg, Value.slice e1 f1 g1, Value.int IntKind.i64 A.e], Value.agg #[Value.bool B.neg, Value.slice e2 f2 g2, Value.int IntKind.i64 B.e]], Value.agg #[Value.bool A.neg, Value.slice e1 f1 g1, Value.int IntKind.i64 A.e], Value.agg #[Value.bool B.neg, Value.slice e2 f2 g2, Value.int IntKind.i64 B.e], v13, v14, Value.int IntKind.i64 (p : Int), Value.agg #[Value.slice t1 t2 t3, Value.slice t4 t5 t6], Value.int IntKind.i64 N, Value.int IntKind.i64 N, Value.int IntKind.i64 (-N), Value.int IntKind.i64 (M : Int), Value.int IntKind.u64 (M : Int), u77, Value.pointer (some { block := bT, off := 0 }), Value.slice t1 t2 t3, Value.int IntKind.u64 (M : Int), q1, Value.slice p1 p2 p3, Value.pointer (some { block := bT, off := 1 }), Value.slice t4 t5 t6, Value.int IntKind.u64 (M : Int), q3, Value.slice p4 p5 p6, Value.agg #[Value.slice p1 p2 p3, Value.slice p4 p5 p6], Value.int IntKind.i64 N, Value.bool (decide (N < 0)), Value.int IntKind.i64 (p : Int), u92, u93, u94, u95, u96, u97, u98, u99, u100], defers := [] } ∧ Hid (Below V15.heap.size V15 w') ∧ Hid (NV w' (.slice p1 p2 p3) ((atP 1 3 p j).l * M)) ∧ Hid (NV w' (.slice p4 p5 p6) ((atP 1 3 p j).h * M)) ∧ Hid (GD w' bE nz) ∧ Hid (V15.heap.size ≤ bE ∧ True)) #[true, true, true, true, true, true, true, true, true, true, true, true, true, true, false, false, false, false, false, true, false, false] 7 ?F ?main
    case F =>
      intro a' w' hI
      obtain ⟨q1, p1, p2, p3, q3, p4, p5, p6, bE, rfl, FB, F2, F4, GE', LE'⟩ := hI
      refine wpAnyH_ready (rs := [14, 18]) (by kernel_rfl) (by simp) ?_
      refine AllReadyH.cons (o := _) (at_of rfl) (fun K hK => ?_) ?_
      · go_simp
        refine (SGT.out _ _ (HT15.out.below FB.out) ⟨_, _, rfl, F2.out, F4.out⟩).mono ?_
        rintro r wn ⟨r1, r2, rfl, hr1, hr2, hb⟩
        obtain ⟨k1, k2, k3, rfl, hr3⟩ := hr1.parts
        obtain ⟨k4, k5, k6, rfl, hr4⟩ := hr2.parts
        have E1n := Lib.hid hr3
        have E2n := Lib.hid hr4
        have FBn := Lib.hid (bl_thru FB.out (Nat.le_refl _) hb)
        have GE'n := Lib.hid (GE'.out.below hb)
        have LE'n := LE'
        dsimp only
        refine hK.out _ _ (CT.out _ FBn.out) (fun _ => ?_)
        try simp only [Act.put, List.setIfInBounds_toArray, List.set_cons_zero, List.set_cons_succ]
        refine wpAnyH_take (i := 15) (oi := _) (v := ?_) (at_of rfl) (by kernel_rfl) (by kernel_rfl) (by kernel_rfl) (fun _ _ _ h => h) (Or.inl ⟨by rfl, ?_⟩) (CT.out _ FBn.out) ?_
        rotate_left
        · (intro w hSw; (try dsimp only at hSw); first | (go_simp; done) | (go_simp; with_reducible rfl))
        try simp only [Act.put, List.setIfInBounds_toArray, List.set_cons_zero, List.set_cons_succ]
        refine wpAnyH_take (i := 16) (oi := _) (v := ?_) (at_of rfl) (by kernel_rfl) (by kernel_rfl) (by kernel_rfl) (fun _ _ _ h => h) (Or.inl ⟨by rfl, ?_⟩) (CT.out _ FBn.out) ?_
        rotate_left
        · (intro w hSw; (try dsimp only at hSw); first | (go_simp; done) | (go_simp; with_reducible rfl))
        try simp only [Act.put, List.setIfInBounds_toArray, List.set_cons_zero, List.set_cons_succ]
        refine wpAnyH_take (i := 17) (oi := _) (v := ?_) (at_of rfl) (by kernel_rfl) (by kernel_rfl) (by kernel_rfl) (fun _ _ _ h => h) (Or.inl ⟨by rfl, ?_⟩) (CT.out _ FBn.out) ?_
        rotate_left
        · (intro w hSw; (try dsimp only at hSw); first | (go_simp; done) | (go_simp; with_reducible rfl))
        try simp only [Act.put, List.setIfInBounds_toArray, List.set_cons_zero, List.set_cons_succ]
        exact F501.out _ _ ⟨_, _, _, _, _, _, _, _, _, _, _, _, _, _, _, rfl, FBn, E1n, E2n, GE'n, LE'n⟩
      refine AllReadyH.cons (o := _) (at_of rfl) (fun K hK => ?_) ?_
      · have hlt := FB.out.size
        go_simp
        refine hK.out _ _ (CT.out _ (bl_a1 FB.out _)) (fun _ => ?_)
        try simp only [Act.put, List.setIfInBounds_toArray, List.set_cons_zero, List.set_cons_succ]
        have FBn := Lib.hid (bl_a1 FB.out (.cells #[.bool false, .slice none 0 0, .int .i64 0] 24))
        have F2n := Lib.hid (F2.out.alloc (.cells #[.bool false, .slice none 0 0, .int .i64 0] 24))
        have F4n := Lib.hid (F4.out.alloc (.cells #[.bool false, .slice none 0 0, .int .i64 0] 24))
        have GE'n := Lib.hid (GE'.out.alloc (.cells #[.bool false, .slice none 0 0, .int .i64 0] 24))
        have LE'n := LE'
        have GCn := Lib.hid (GD.nil w')
        have LCn : Hid (V15.heap.size ≤ w'.heap.size ∧ True) := Lib.hid ⟨hlt, trivial⟩
        have NEbn := Lib.hid (show w'.heap.size ≠ bE ∧ True from ⟨by have := GE'.out.lt; omega, trivial⟩)
        exact F411.out _ _ ⟨_, _, _, _, _, _, _, _, _, _, rfl, FBn, F2n, F4n, GCn, LCn, GE'n, LE'n, NEbn⟩
      exact AllReadyH.nil
    case main =>
    intro hF'
    have F401 := Lib.hid hF'
    clear hF'
    refine use_F (fun a' w' => ∃ (q1 : Value) (p1 : Option Addr) (p2 : Nat) (p3 : Nat) (q3 : Value) (p4 : Option Addr) (p5 : Nat) (p6 : Nat), a' = { tmps := #[Value.agg #[Value.bool g, Value.slice a1 n1 c1, Value.int IntKind.i64 e], Value.int IntKind.i64 (p : Int), Value.pointer (some { block := w.heap.size, off := 0 }), undef, Value.pointer (some { block := w.heap.size + 1, off := 0 }), Value.pointer (some { block := w.heap.size + 1 + 1, off := 0 }), Value.int IntKind.i64 (L : Int), Value.slice y1 y2 y3, Value.int IntKind.i64 N, Value.slice z1 z2 z3, Value.bool G, Value.pointer (some { block := bA, off := 0 }), Value.pointer (some { block := bA + 1, off := 0 }), Value.pointer (some { block := bT, off := 0 }), Value.int IntKind.u64 (M : Int), undef, undef, u17, u18, u19, u20, u21, u22, u23, u24, u25, u26, u27, u28, u29, u30, u31, u32, u33, u34, u35, u36, u37, u38, u39, u40, u41, u42, u43, u44, u45, u46, u47, u48, u49, u50, u51, u52, u53, u54, Value.tuple #[Value.agg #[Value.bool A.neg, Value.slice e1 f1 g1, Value.int IntKind.i64 A.e], Value.agg #[Value.bool B.neg, Value.slice e2 f2 g2, Value.int IntKind.i64 B.e]], Value.slice z1 z2 z3, Value.pointer (some { block := w.heap.size, off := 1 }), Value.slice a1 n1 c1, Value.slice y1 y2 y3, v10, Value.int IntKind.i64 (p : Int), v11, Value.bool G, Value.int IntKind.i64 (p : Int), Value.tuple #[Value.agg #[Value.bool A.neg, Value.slice e1 f1 g1, Value.int IntKind.i64 A.e], Value.agg #[Value.bool B.neg, Value.slice e2 f2 g2, Value.int IntKind.i64 B.e]], Value.agg #[Value.bool A.neg, Value.slice e1 f1 g1, Value.int IntKind.i64 A.e], Value.agg #[Value.bool B.neg, Value.slice e2 f2 g2, Value.int IntKind.i64 B.e], v13, v14, Value.int IntKind.i64 (p : Int), Value.agg #[Value.slice t1 t2 t3, Value.slice t4 t5 t6], Value.int IntKind.i64 N, Value.int IntKind.i64 N, Value.int IntKind.i64 (-N), Value.int IntKind.i64 (M : Int), Value.int IntKind.u64 (M : Int), u77, Value.pointer (some { block := bT, off := 0 }), Value.slice t1 t2 t3, Value.int IntKind.u64 (M : Int), q1, Value.slice p1 p2 p3, Value.pointer (some { block := bT, off := 1 }), Value.slice t4 t5 t6, Value.int IntKind.u64 (M : Int), q3, Value.slice p4 p5 p6, Value.agg #[Value.slice p1 p2 p3, Value.slice p4 p5 p6], Value.int IntKind.i64 N, Value.bool (decide (N < 0)), Value.int IntKind.i64 (p : Int), u92, u93, u94, u95, u96, u97, u98, u99, u100], defers := [] } ∧ Hid (Below V15.heap.size V15 w') ∧ Hid (NV w' (.slice p1 p2 p3) ((atP 1 3 p j).l * M)) ∧ Hid (NV w' (.slice p4 p5 p6) ((atP 1 3 p j).h * M))) #[true, true, true, true, true, true, true, true, true, true, true, true, true, true, false, false, false, false, false, false, false, false] 8 ?F ?main
    case F =>
      intro a' w' hI
      obtain ⟨q1, p1, p2, p3, q3, p4, p5, p6, rfl, FB, F2, F4⟩ := hI
      refine wpAnyH_ready (rs := [14, 18, 19]) (by kernel_rfl) (by simp) ?_
      refine AllReadyH.cons (o := _) (at_of rfl) (fun K hK => ?_) ?_
      · go_simp
        refine (SGT.out _ _ (HT15.out.below FB.out) ⟨_, _, rfl, F2.out, F4.out⟩).mono ?_
        rintro r wn ⟨r1, r2, rfl, hr1, hr2, hb⟩
        obtain ⟨k1, k2, k3, rfl, hr3⟩ := hr1.parts
        obtain ⟨k4, k5, k6, rfl, hr4⟩ := hr2.parts
        have E1n := Lib.hid hr3
        have E2n := Lib.hid hr4
        have FBn := Lib.hid (bl_thru FB.out (Nat.le_refl _) hb)
        dsimp only
        refine hK.out _ _ (CT.out _ FBn.out) (fun _ => ?_)
        try simp only [Act.put, List.setIfInBounds_toArray, List.set_cons_zero, List.set_cons_succ]
        refine wpAnyH_take (i := 15) (oi := _) (v := ?_) (at_of rfl) (by kernel_rfl) (by kernel_rfl) (by kernel_rfl) (fun _ _ _ h => h) (Or.inl ⟨by rfl, ?_⟩) (CT.out _ FBn.out) ?_
        rotate_left
        · (intro w hSw; (try dsimp only at hSw); first | (go_simp; done) | (go_simp; with_reducible rfl))
        try simp only [Act.put, List.setIfInBounds_toArray, List.set_cons_zero, List.set_cons_succ]
        refine wpAnyH_take (i := 16) (oi := _) (v := ?_) (at_of rfl) (by kernel_rfl) (by kernel_rfl) (by kernel_rfl) (fun _ _ _ h => h) (Or.inl ⟨by rfl, ?_⟩) (CT.out _ FBn.out) ?_
        rotate_left
        · (intro w hSw; (try dsimp only at hSw); first | (go_simp; done) | (go_simp; with_reducible rfl))
        try simp only [Act.put, List.setIfInBounds_toArray, List.set_cons_zero, List.set_cons_succ]
        refine wpAnyH_take (i := 17) (oi := _) (v := ?_) (at_of rfl) (by kernel_rfl) (by kernel_rfl) (by kernel_rfl) (fun _ _ _ h => h) (Or.inl ⟨by rfl, ?_⟩) (CT.out _ FBn.out) ?_
        rotate_left
        · (intro w hSw; (try dsimp only at hSw); first | (go_simp; done) | (go_simp; with_reducible rfl))
        try simp only [Act.put, List.setIfInBounds_toArray, List.set_cons_zero, List.set_cons_succ]
        exact F500.out _ _ ⟨_, _, _, _, _, _, _, _, _, _, _, _, _, _, rfl, FBn, E1n, E2n⟩
      refine AllReadyH.cons (o := _) (at_of rfl) (fun K hK => ?_) ?_
      · have hlt := FB.out.size
        go_simp
        refine hK.out _ _ (CT.out _ (bl_a1 FB.out _)) (fun _ => ?_)
        try simp only [Act.put, List.setIfInBounds_toArray, List.set_cons_zero, List.set_cons_succ]
        have FBn := Lib.hid (bl_a1 FB.out (.cells #[.bool false, .slice none 0 0, .int .i64 0] 24))
        have F2n := Lib.hid (F2.out.alloc (.cells #[.bool false, .slice none 0 0, .int .i64 0] 24))
        have F4n := Lib.hid (F4.out.alloc (.cells #[.bool false, .slice none 0 0, .int .i64 0] 24))
        have GCn := Lib.hid (GD.nil w')
        have LCn : Hid (V15.heap.size ≤ w'.heap.size ∧ True) := Lib.hid ⟨hlt, trivial⟩
        exact F410.out _ _ ⟨_, _, _, _, _, _, _, _, _, rfl, FBn, F2n, F4n, GCn, LCn⟩
      refine AllReadyH.cons (o := _) (at_of rfl) (fun K hK => ?_) ?_
      · have hlt := FB.out.size
        go_simp
        refine hK.out _ _ (CT.out _ (bl_a1 FB.out _)) (fun _ => ?_)
        try simp only [Act.put, List.setIfInBounds_toArray, List.set_cons_zero, List.set_cons_succ]
        have FBn := Lib.hid (bl_a1 FB.out (.cells #[.bool false, .slice none 0 0, .int .i64 0] 24))
        have F2n := Lib.hid (F2.out.alloc (.cells #[.bool false, .slice none 0 0, .int .i64 0] 24))
        have F4n := Lib.hid (F4.out.alloc (.cells #[.bool false, .slice none 0 0, .int .i64 0] 24))
        have GE'n := Lib.hid (GD.nil w')
        have LE'n : Hid (V15.heap.size ≤ w'.heap.size ∧ True) := Lib.hid ⟨hlt, trivial⟩
        exact F401.out _ _ ⟨_, _, _, _, _, _, _, _, _, rfl, FBn, F2n, F4n, GE'n, LE'n⟩
      exact AllReadyH.nil
    case main =>
    intro hF'
    have F400 := Lib.hid hF'
    clear hF'
    refine use_F (fun a' w' => ∃ (q1 : Value) (p1 : Option Addr) (p2 : Nat) (p3 : Nat) (q3 : Value) (bC : Nat) (bE : Nat), a' = { tmps := #[Value.agg #[Value.bool g, Value.slice a1 n1 c1, Value.int IntKind.i64 e], Value.int IntKind.i64 (p : Int), Value.pointer (some { block := w.heap.size, off := 0 }), undef, Value.pointer (some { block := w.heap.size + 1, off := 0 }), Value.pointer (some { block := w.heap.size + 1 + 1, off := 0 }), Value.int IntKind.i64 (L : Int), Value.slice y1 y2 y3, Value.int IntKind.i64 N, Value.slice z1 z2 z3, Value.bool G, Value.pointer (some { block := bA, off := 0 }), Value.pointer (some { block := bA + 1, off := 0 }), Value.pointer (some { block := bT, off := 0 }), Value.int IntKind.u64 (M : Int), Value.pointer (some { block := bC, off := 0 }), Value.pointer (some { block := bE, off := 0 }), u17, u18, u19, u20, u21, u22, u23, u24, u25, u26, u27, u28, u29, u30, u31, u32, u33, u34, u35, u36, u37, u38, u39, u40, u41, u42, u43, u44, u45, u46, u47, u48, u49, u50, u51, u52, u53, u54, Value.tuple #[Value.agg #[Value.bool A.neg, Value.slice e1 f1 g1, Value.int IntKind.i64 A.e], Value.agg #[Value.bool B.neg, Value.slice e2 f2 g2, Value.int IntKind.i64 B.e]], Value.slice z1 z2 z3, Value.pointer (some { block := w.heap.size, off := 1 }), Value.slice a1 n1 c1, Value.slice y1 y2 y3, v10, Value.int IntKind.i64 (p : Int), v11, Value.bool G, Value.int IntKind.i64 (p : Int), Value.tuple #[Value.agg #[Value.bool A.neg, Value.slice e1 f1 g1, Value.int IntKind.i64 A.e], Value.agg #[Value.bool B.neg, Value.slice e2 f2 g2, Value.int IntKind.i64 B.e]], Value.agg #[Value.bool A.neg, Value.slice e1 f1 g1, Value.int IntKind.i64 A.e], Value.agg #[Value.bool B.neg, Value.slice e2 f2 g2, Value.int IntKind.i64 B.e], v13, v14, Value.int IntKind.i64 (p : Int), Value.agg #[Value.slice t1 t2 t3, Value.slice t4 t5 t6], Value.int IntKind.i64 N, Value.int IntKind.i64 N, Value.int IntKind.i64 (-N), Value.int IntKind.i64 (M : Int), Value.int IntKind.u64 (M : Int), u77, Value.pointer (some { block := bT, off := 0 }), Value.slice t1 t2 t3, Value.int IntKind.u64 (M : Int), q1, Value.slice p1 p2 p3, Value.pointer (some { block := bT, off := 1 }), Value.slice t4 t5 t6, Value.int IntKind.u64 (M : Int), q3, u87, u88, Value.int IntKind.i64 N, Value.bool (decide (N < 0)), Value.int IntKind.i64 (p : Int), u92, u93, u94, u95, u96, u97, u98, u99, u100], defers := [] } ∧ Hid (Below V15.heap.size V15 w') ∧ Hid (NV w' (.slice p1 p2 p3) ((atP 1 3 p j).l * M)) ∧ Hid (NV w' q3 M) ∧ Hid (GD w' bC nz) ∧ Hid (V15.heap.size ≤ bC ∧ True) ∧ Hid (GD w' bE nz) ∧ Hid (V15.heap.size ≤ bE ∧ True) ∧ Hid (bC ≠ bE ∧ True)) #[true, true, true, true, true, true, true, true, true, false, false, true, true, true, false, false, false, false, true, true, false, false] 8 ?F ?main
    case F =>
      intro a' w' hI
      obtain ⟨q1, p1, p2, p3, q3, bC, bE, rfl, FB, F2, F3, GC, LC, GE', LE', NEb⟩ := hI
      refine wpAnyH_ready (rs := [9]) (by kernel_rfl) (by simp) ?_
      refine AllReadyH.cons (o := _) (at_of rfl) (fun K hK => ?_) ?_
      · go_simp
        refine (TM2.out _ _ (NT2.out.below FB.out) F3.out).mono ?_
        rintro r wn ⟨q4, rfl, hq, hb⟩
        obtain ⟨p4, p5, p6, rfl⟩ := hq.shape
        have F4n := Lib.hid hq
        have F2n := Lib.hid (F2.out.below hb)
        have FBn := Lib.hid (bl_thru FB.out (Nat.le_refl _) hb)
        have GCn := Lib.hid (GC.out.below hb)
        have LCn := LC
        have GE'n := Lib.hid (GE'.out.below hb)
        have LE'n := LE'
        have NEbn := NEb
        dsimp only
        refine hK.out _ _ (CT.out _ FBn.out) (fun _ => ?_)
        try simp only [Act.put, List.setIfInBounds_toArray, List.set_cons_zero, List.set_cons_succ]
        refine wpAnyH_take (i := 10) (oi := _) (v := ?_) (at_of rfl) (by kernel_rfl) (by kernel_rfl) (by kernel_rfl) (fun _ _ _ h => h) (Or.inl ⟨by rfl, ?_⟩) (CT.out _ FBn.out) ?_
        rotate_left
        · (intro w hSw; (try dsimp only at hSw); first | (go_simp; done) | (go_simp; with_reducible rfl))
        try simp only [Act.put, List.setIfInBounds_toArray, List.set_cons_zero, List.set_cons_succ]
        exact F411.out _ _ ⟨_, _, _, _, _, _, _, _, _, _, rfl, FBn, F2n, F4n, GCn, LCn, GE'n, LE'n, NEbn⟩
      exact AllReadyH.nil
    case main =>
    intro hF'
    have F311 := Lib.hid hF'
    clear hF'
    refine use_F (fun a' w' => ∃ (q1 : Value) (p1 : Option Addr) (p2 : Nat) (p3 : Nat) (q3 : Value) (bC : Nat), a' = { tmps := #[Value.agg #[Value.bool g, Value.slice a1 n1 c1, Value.int IntKind.i64 e], Value.int IntKind.i64 (p : Int), Value.pointer (some { block := w.heap.size, off := 0 }), undef, Value.pointer (some { block := w.heap.size + 1, off := 0 }), Value.pointer (some { block := w.heap.size + 1 + 1, off := 0 }), Value.int IntKind.i64 (L : Int), Value.slice y1 y2 y3, Value.int IntKind.i64 N, Value.slice z1 z2 z3, Value.bool G, Value.pointer (some { block := bA, off := 0 }), Value.pointer (some { block := bA + 1, off := 0 }), Value.pointer (some { block := bT, off := 0 }), Value.int IntKind.u64 (M : Int), Value.pointer (some { block := bC, off := 0 }), undef, u17, u18, u19, u20, u21, u22, u23, u24, u25, u26, u27, u28, u29, u30, u31, u32, u33, u34, u35, u36, u37, u38, u39, u40, u41, u42, u43, u44, u45, u46, u47, u48, u49, u50, u51, u52, u53, u54, Value.tuple #[Value.agg #[Value.bool A.neg, Value.slice e1 f1 g1, Value.int IntKind.i64 A.e], Value.agg #[Value.bool B.neg, Value.slice e2 f2 g2, Value.int IntKind.i64 B.e]], Value.slice z1 z2 z3, Value.pointer (some { block := w.heap.size, off := 1 }), Value.slice a1 n1 c1, Value.slice y1 y2 y3, v10, Value.int IntKind.i64 (p : Int), v11, Value.bool G, Value.int IntKind.i64 (p : Int), Value.tuple #[Value.agg #[Value.bool A.neg, Value.slice e1 f1 g1, Value.int IntKind.i64 A.e], Value.agg #[Value.bool B.neg, Value.slice e2 f2 g2, Value.int IntKind.i64 B.e]], Value.agg #[Value.bool A.neg, Value.slice e1 f1 g1, Value.int IntKind.i64 A.e], Value.agg #[Value.bool B.neg, Value.slice e2 f2 g2, Value.int IntKind.i64 B.e], v13, v14, Value.int IntKind.i64 (p : Int), Value.agg #[Value.slice t1 t2 t3, Value.slice t4 t5 t6], Value.int IntKind.i64 N, Value.int IntKind.i64 N, Value.int IntKind.i64 (-N), Value.int IntKind.i64 (M : Int), Value.int IntKind.u64 (M : Int), u77, Value.pointer (some { block := bT, off := 0 }), Value.slice t1 t2 t3, Value.int IntKind.u64 (M : Int), q1, Value.slice p1 p2 p3, Value.pointer (some { block := bT, off := 1 }), Value.slice t4 t5 t6, Value.int IntKind.u64 (M : Int), q3, u87, u88, Value.int IntKind.i64 N, Value.bool (decide (N < 0)), Value.int IntKind.i64 (p : Int), u92, u93, u94, u95, u96, u97, u98, u99, u100], defers := [] } ∧ Hid (Below V15.heap.size V15 w') ∧ Hid (NV w' (.slice p1 p2 p3) ((atP 1 3 p j).l * M)) ∧ Hid (NV w' q3 M) ∧ Hid (GD w' bC nz) ∧ Hid (V15.heap.size ≤ bC ∧ True)) #[true, true, true, true, true, true, true, true, true, false, false, true, true, true, false, false, false, false, true, false, false, false] 9 ?F ?main
    case F =>
      intro a' w' hI
      obtain ⟨q1, p1, p2, p3, q3, bC, rfl, FB, F2, F3, GC, LC⟩ := hI
      refine wpAnyH_ready (rs := [9, 19]) (by kernel_rfl) (by simp) ?_
      refine AllReadyH.cons (o := _) (at_of rfl) (fun K hK => ?_) ?_
      · go_simp
        refine (TM2.out _ _ (NT2.out.below FB.out) F3.out).mono ?_
        rintro r wn ⟨q4, rfl, hq, hb⟩
        obtain ⟨p4, p5, p6, rfl⟩ := hq.shape
        have F4n := Lib.hid hq
        have F2n := Lib.hid (F2.out.below hb)
        have FBn := Lib.hid (bl_thru FB.out (Nat.le_refl _) hb)
        have GCn := Lib.hid (GC.out.below hb)
        have LCn := LC
        dsimp only
        refine hK.out _ _ (CT.out _ FBn.out) (fun _ => ?_)
        try simp only [Act.put, List.setIfInBounds_toArray, List.set_cons_zero, List.set_cons_succ]
        refine wpAnyH_take (i := 10) (oi := _) (v := ?_) (at_of rfl) (by kernel_rfl) (by kernel_rfl) (by kernel_rfl) (fun _ _ _ h => h) (Or.inl ⟨by rfl, ?_⟩) (CT.out _ FBn.out) ?_
        rotate_left
        · (intro w hSw; (try dsimp only at hSw); first | (go_simp; done) | (go_simp; with_reducible rfl))
        try simp only [Act.put, List.setIfInBounds_toArray, List.set_cons_zero, List.set_cons_succ]
        exact F410.out _ _ ⟨_, _, _, _, _, _, _, _, _, rfl, FBn, F2n, F4n, GCn, LCn⟩
      refine AllReadyH.cons (o := _) (at_of rfl) (fun K hK => ?_) ?_
      · have hlt := FB.out.size
        go_simp
        refine hK.out _ _ (CT.out _ (bl_a1 FB.out _)) (fun _ => ?_)
        try simp only [Act.put, List.setIfInBounds_toArray, List.set_cons_zero, List.set_cons_succ]
        have FBn := Lib.hid (bl_a1 FB.out (.cells #[.bool false, .slice none 0 0, .int .i64 0] 24))
        have F2n := Lib.hid (F2.out.alloc (.cells #[.bool false, .slice none 0 0, .int .i64 0] 24))
        have F3n := Lib.hid (F3.out.alloc (.cells #[.bool false, .slice none 0 0, .int .i64 0] 24))
        have GCn := Lib.hid (GC.out.alloc (.cells #[.bool false, .slice none 0 0, .int .i64 0] 24))
        have LCn := LC
        have GE'n := Lib.hid (GD.nil w')
        have LE'n : Hid (V15.heap.size ≤ w'.heap.size ∧ True) := Lib.hid ⟨hlt, trivial⟩
        have NEbn := Lib.hid (show bC ≠ w'.heap.size ∧ True from ⟨by have := GC.out.lt; omega, trivial⟩)
        exact F311.out _ _ ⟨_, _, _, _, _, _, _, rfl, FBn, F2n, F3n, GCn, LCn, GE'n, LE'n, NEbn⟩
      exact AllReadyH.nil
    case main =>
    intro hF'
    have F310 := Lib.hid hF'
    clear hF'
    refine use_F (fun a' w' => ∃ (q1 : Value) (p1 : Option Addr) (p2 : Nat) (p3 : Nat) (q3 : Value) (bE : Nat), a' = { tmps := #[Value.agg #[Value.bool g, Value.slice a1 n1 c1, Value.int IntKind.i64 e], Value.int IntKind.i64 (p : Int), Value.pointer (some { block := w.heap.size, off := 0 }), undef, Value.pointer (some { block := w.heap.size + 1, off := 0 }), Value.pointer (some { block := w.heap.size + 1 + 1, off := 0 }), Value.int IntKind.i64 (L : Int), Value.slice y1 y2 y3, Value.int IntKind.i64 N, Value.slice z1 z2 z3, Value.bool G, Value.pointer (some { block := bA, off := 0 }), Value.pointer (some { block := bA + 1, off := 0 }), Value.pointer (some { block := bT, off := 0 }), Value.int IntKind.u64 (M : Int), undef, Value.pointer (some { block := bE, off := 0 }), u17, u18, u19, u20, u21, u22, u23, u24, u25, u26, u27, u28, u29, u30, u31, u32, u33, u34, u35, u36, u37, u38, u39, u40, u41, u42, u43, u44, u45, u46, u47, u48, u49, u50, u51, u52, u53, u54, Value.tuple #[Value.agg #[Value.bool A.neg, Value.slice e1 f1 g1, Value.int IntKind.i64 A.e], Value.agg #[Value.bool B.neg, Value.slice e2 f2 g2, Value.int IntKind.i64 B.e]], Value.slice z1 z2 z3, Value.pointer (some { block := w.heap.size, off := 1 }), Value.slice a1 n1 c1, Value.slice y1 y2 y3, v10, Value.int IntKind.i64 (p : Int), v11, Value.bool G, Value.int IntKind.i64 (p : Int), Value.tuple #[Value.agg #[Value.bool A.neg, Value.slice e1 f1 g1, Value.int IntKind.i64 A.e], Value.agg #[Value.bool B.neg, Value.slice e2 f2 g2, Value.int IntKind.i64 B.e]], Value.agg #[Value.bool A.neg, Value.slice e1 f1 g1, Value.int IntKind.i64 A.e], Value.agg #[Value.bool B.neg, Value.slice e2 f2 g2, Value.int IntKind.i64 B.e], v13, v14, Value.int IntKind.i64 (p : Int), Value.agg #[Value.slice t1 t2 t3, Value.slice t4 t5 t6], Value.int IntKind.i64 N, Value.int IntKind.i64 N, Value.int IntKind.i64 (-N), Value.int IntKind.i64 (M : Int), Value.int IntKind.u64 (M : Int), u77, Value.pointer (some { block := bT, off := 0 }), Value.slice t1 t2 t3, Value.int IntKind.u64 (M : Int), q1, Value.slice p1 p2 p3, Value.pointer (some { block := bT, off := 1 }), Value.slice t4 t5 t6, Value.int IntKind.u64 (M : Int), q3, u87, u88, Value.int IntKind.i64 N, Value.bool (decide (N < 0)), Value.int IntKind.i64 (p : Int), u92, u93, u94, u95, u96, u97, u98, u99, u100], defers := [] } ∧ Hid (Below V15.heap.size V15 w') ∧ Hid (NV w' (.slice p1 p2 p3) ((atP 1 3 p j).l * M)) ∧ Hid (NV w' q3 M) ∧ Hid (GD w' bE nz) ∧ Hid (V15.heap.size ≤ bE ∧ True)) #[true, true, true, true, true, true, true, true, true, false, false, true, true, true, false, false, false, false, false, true, false, false] 9 ?F ?main
    case F =>
      intro a' w' hI
      obtain ⟨q1, p1, p2, p3, q3, bE, rfl, FB, F2, F3, GE', LE'⟩ := hI
      refine wpAnyH_ready (rs := [9, 18]) (by kernel_rfl) (by simp) ?_
      refine AllReadyH.cons (o := _) (at_of rfl) (fun K hK => ?_) ?_
      · go_simp
        refine (TM2.out _ _ (NT2.out.below FB.out) F3.out).mono ?_
        rintro r wn ⟨q4, rfl, hq, hb⟩
        obtain ⟨p4, p5, p6, rfl⟩ := hq.shape
        have F4n := Lib.hid hq
        have F2n := Lib.hid (F2.out.below hb)
        have FBn := Lib.hid (bl_thru FB.out (Nat.le_refl _) hb)
        have GE'n := Lib.hid (GE'.out.below hb)
        have LE'n := LE'
        dsimp only
        refine hK.out _ _ (CT.out _ FBn.out) (fun _ => ?_)
        try simp only [Act.put, List.setIfInBounds_toArray, List.set_cons_zero, List.set_cons_succ]
        refine wpAnyH_take (i := 10) (oi := _) (v := ?_) (at_of rfl) (by kernel_rfl) (by kernel_rfl) (by kernel_rfl) (fun _ _ _ h => h) (Or.inl ⟨by rfl, ?_⟩) (CT.out _ FBn.out) ?_
        rotate_left
        · (intro w hSw; (try dsimp only at hSw); first | (go_simp; done) | (go_simp; with_reducible rfl))
        try simp only [Act.put, List.setIfInBounds_toArray, List.set_cons_zero, List.set_cons_succ]
        exact F401.out _ _ ⟨_, _, _, _, _, _, _, _, _, rfl, FBn, F2n, F4n, GE'n, LE'n⟩
      refine AllReadyH.cons (o := _) (at_of rfl) (fun K hK => ?_) ?_
      · have hlt := FB.out.size
        go_simp
        refine hK.out _ _ (CT.out _ (bl_a1 FB.out _)) (fun _ => ?_)
        try simp only [Act.put, List.setIfInBounds_toArray, List.set_cons_zero, List.set_cons_succ]
        have FBn := Lib.hid (bl_a1 FB.out (.cells #[.bool false, .slice none 0 0, .int .i64 0] 24))
        have F2n := Lib.hid (F2.out.alloc (.cells #[.bool false, .slice none 0 0, .int .i64 0] 24))
        have F3n := Lib.hid (F3.out.alloc (.cells #[.bool false, .slice none 0 0, .int .i64 0] 24))
        have GE'n := Lib.hid (GE'.out.alloc (.cells #[.bool false, .slice none 0 0, .int .i64 0] 24))
        have LE'n := LE'
        have GCn := Lib.hid (GD.nil w')
        have LCn : Hid (V15.heap.size ≤ w'.heap.size ∧ True) := Lib.hid ⟨hlt, trivial⟩
        have NEbn := Lib.hid (show w'.heap.size ≠ bE ∧ True from ⟨by have := GE'.out.lt; omega, trivial⟩)
        exact F311.out _ _ ⟨_, _, _, _, _, _, _, rfl, FBn, F2n, F3n, GCn, LCn, GE'n, LE'n, NEbn⟩
      exact AllReadyH.nil
    case main =>
    intro hF'
    have F301 := Lib.hid hF'
    clear hF'
    refine use_F (fun a' w' => ∃ (q1 : Value) (p1 : Option Addr) (p2 : Nat) (p3 : Nat) (q3 : Value), a' = { tmps := #[Value.agg #[Value.bool g, Value.slice a1 n1 c1, Value.int IntKind.i64 e], Value.int IntKind.i64 (p : Int), Value.pointer (some { block := w.heap.size, off := 0 }), undef, Value.pointer (some { block := w.heap.size + 1, off := 0 }), Value.pointer (some { block := w.heap.size + 1 + 1, off := 0 }), Value.int IntKind.i64 (L : Int), Value.slice y1 y2 y3, Value.int IntKind.i64 N, Value.slice z1 z2 z3, Value.bool G, Value.pointer (some { block := bA, off := 0 }), Value.pointer (some { block := bA + 1, off := 0 }), Value.pointer (some { block := bT, off := 0 }), Value.int IntKind.u64 (M : Int), undef, undef, u17, u18, u19, u20, u21, u22, u23, u24, u25, u26, u27, u28, u29, u30, u31, u32, u33, u34, u35, u36, u37, u38, u39, u40, u41, u42, u43, u44, u45, u46, u47, u48, u49, u50, u51, u52, u53, u54, Value.tuple #[Value.agg #[Value.bool A.neg, Value.slice e1 f1 g1, Value.int IntKind.i64 A.e], Value.agg #[Value.bool B.neg, Value.slice e2 f2 g2, Value.int IntKind.i64 B.e]], Value.slice z1 z2 z3, Value.pointer (some { block := w.heap.size, off := 1 }), Value.slice a1 n1 c1, Value.slice y1 y2 y3, v10, Value.int IntKind.i64 (p : Int), v11, Value.bool G, Value.int IntKind.i64 (p : Int), Value.tuple #[Value.agg #[Value.bool A.neg, Value.slice e1 f1 g1, Value.int IntKind.i64 A.e], Value.agg #[Value.bool B.neg, Value.slice e2 f2 g2, Value.int IntKind.i64 B.e]], Value.agg #[Value.bool A.neg, Value.slice e1 f1 g1, Value.int IntKind.i64 A.e], Value.agg #[Value.bool B.neg, Value.slice e2 f2 g2, Value.int IntKind.i64 B.e], v13, v14, Value.int IntKind.i64 (p : Int), Value.agg #[Value.slice t1 t2 t3, Value.slice t4 t5 t6], Value.int IntKind.i64 N, Value.int IntKind.i64 N, Value.int IntKind.i64 (-N), Value.int IntKind.i64 (M : Int), Value.int IntKind.u64 (M : Int), u77, Value.pointer (some { block := bT, off := 0 }), Value.slice t1 t2 t3, Value.int IntKind.u64 (M : Int), q1, Value.slice p1 p2 p3, Value.pointer (some { block := bT, off := 1 }), Value.slice t4 t5 t6, Value.int IntKind.u64 (M : Int), q3, u87, u88, Value.int IntKind.i64 N, Value.bool (decide (N < 0)), Value.int IntKind.i64 (p : Int), u92, u93, u94, u95, u96, u97, u98, u99, u100], defers := [] } ∧ Hid (Below V15.heap.size V15 w') ∧ Hid (NV w' (.slice p1 p2 p3) ((atP 1 3 p j).l * M)) ∧ Hid (NV w' q3 M)) #[true, true, true, true, true, true, true, true, true, false, false, true, true, true, false, false, false, false, false, false, false, false] 10 ?F ?main
    case F =>
      intro a' w' hI
      obtain ⟨q1, p1, p2, p3, q3, rfl, FB, F2, F3⟩ := hI
      refine wpAnyH_ready (rs := [9, 18, 19]) (by kernel_rfl) (by simp) ?_
      refine AllReadyH.cons (o := _) (at_of rfl) (fun K hK => ?_) ?_
      · go_simp
        refine (TM2.out _ _ (NT2.out.below FB.out) F3.out).mono ?_
        rintro r wn ⟨q4, rfl, hq, hb⟩
        obtain ⟨p4, p5, p6, rfl⟩ := hq.shape
        have F4n := Lib.hid hq
        have F2n := Lib.hid (F2.out.below hb)
        have FBn := Lib.hid (bl_thru FB.out (Nat.le_refl _) hb)
        dsimp only
        refine hK.out _ _ (CT.out _ FBn.out) (fun _ => ?_)
        try simp only [Act.put, List.setIfInBounds_toArray, List.set_cons_zero, List.set_cons_succ]
        refine wpAnyH_take (i := 10) (oi := _) (v := ?_) (at_of rfl) (by kernel_rfl) (by kernel_rfl) (by kernel_rfl) (fun _ _ _ h => h) (Or.inl ⟨by rfl, ?_⟩) (CT.out _ FBn.out) ?_
        rotate_left
        · (intro w hSw; (try dsimp only at hSw); first | (go_simp; done) | (go_simp; with_reducible rfl))
        try simp only [Act.put, List.setIfInBounds_toArray, List.set_cons_zero, List.set_cons_succ]
        exact F400.out _ _ ⟨_, _, _, _, _, _, _, _, rfl, FBn, F2n, F4n⟩
      refine AllReadyH.cons (o := _) (at_of rfl) (fun K hK => ?_) ?_
      · have hlt := FB.out.size
        go_simp
        refine hK.out _ _ (CT.out _ (bl_a1 FB.out _)) (fun _ => ?_)
        try simp only [Act.put, List.setIfInBounds_toArray, List.set_cons_zero, List.set_cons_succ]
        have FBn := Lib.hid (bl_a1 FB.out (.cells #[.bool false, .slice none 0 0, .int .i64 0] 24))
        have F2n := Lib.hid (F2.out.alloc (.cells #[.bool false, .slice none 0 0, .int .i64 0] 24))
        have F3n := Lib.hid (F3.out.alloc (.cells #[.bool false, .slice none 0 0, .int .i64 0] 24))
        have GCn := Lib.hid (GD.nil w')
        have LCn : Hid (V15.heap.size ≤ w'.heap.size ∧ True) := Lib.hid ⟨hlt, trivial⟩
        exact F310.out _ _ ⟨_, _, _, _, _, _, rfl, FBn, F2n, F3n, GCn, LCn⟩
      refine AllReadyH.cons (o := _) (at_of rfl) (fun K hK => ?_) ?_
      · have hlt := FB.out.size
        go_simp
        refine hK.out _ _ (CT.out _ (bl_a1 FB.out _)) (fun _ => ?_)
        try simp only [Act.put, List.setIfInBounds_toArray, List.set_cons_zero, List.set_cons_succ]
        have FBn := Lib.hid (bl_a1 FB.out (.cells #[.bool false, .slice none 0 0, .int .i64 0] 24))
        have F2n := Lib.hid (F2.out.alloc (.cells #[.bool false, .slice none 0 0, .int .i64 0] 24))
        have F3n := Lib.hid (F3.out.alloc (.cells #[.bool false, .slice none 0 0, .int .i64 0] 24))
        have GE'n := Lib.hid (GD.nil w')
        have LE'n : Hid (V15.heap.size ≤ w'.heap.size ∧ True) := Lib.hid ⟨hlt, trivial⟩
        exact F301.out _ _ ⟨_, _, _, _, _, _, rfl, FBn, F2n, F3n, GE'n, LE'n⟩
      exact AllReadyH.nil
    case main =>
    intro hF'
    have F300 := Lib.hid hF'
    clear hF'
    refine use_F (fun a' w' => ∃ (q1 : Value) (p1 : Option Addr) (p2 : Nat) (p3 : Nat) (bC : Nat) (bE : Nat), a' = { tmps := #[Value.agg #[Value.bool g, Value.slice a1 n1 c1, Value.int IntKind.i64 e], Value.int IntKind.i64 (p : Int), Value.pointer (some { block := w.heap.size, off := 0 }), undef, Value.pointer (some { block := w.heap.size + 1, off := 0 }), Value.pointer (some { block := w.heap.size + 1 + 1, off := 0 }), Value.int IntKind.i64 (L : Int), Value.slice y1 y2 y3, Value.int IntKind.i64 N, Value.slice z1 z2 z3, Value.bool G, Value.pointer (some { block := bA, off := 0 }), Value.pointer (some { block := bA + 1, off := 0 }), Value.pointer (some { block := bT, off := 0 }), Value.int IntKind.u64 (M : Int), Value.pointer (some { block := bC, off := 0 }), Value.pointer (some { block := bE, off := 0 }), u17, u18, u19, u20, u21, u22, u23, u24, u25, u26, u27, u28, u29, u30, u31, u32, u33, u34, u35, u36, u37, u38, u39, u40, u41, u42, u43, u44, u45, u46, u47, u48, u49, u50, u51, u52, u53, u54, Value.tuple #[Value.agg #[Value.bool A.neg, Value.slice e1 f1 g1, Value.int IntKind.i64 A.e], Value.agg #[Value.bool B.neg, Value.slice e2 f2 g2, Value.int IntKind.i64 B.e]], Value.slice z1 z2 z3, Value.pointer (some { block := w.heap.size, off := 1 }), Value.slice a1 n1 c1, Value.slice y1 y2 y3, v10, Value.int IntKind.i64 (p : Int), v11, Value.bool G, Value.int IntKind.i64 (p : Int), Value.tuple #[Value.agg #[Value.bool A.neg, Value.slice e1 f1 g1, Value.int IntKind.i64 A.e], Value.agg #[Value.bool B.neg, Value.slice e2 f2 g2, Value.int IntKind.i64 B.e]], Value.agg #[Value.bool A.neg, Value.slice e1 f1 g1, Value.int IntKind.i64 A.e], Value.agg #[Value.bool B.neg, Value.slice e2 f2 g2, Value.int IntKind.i64 B.e], v13, v14, Value.int IntKind.i64 (p : Int), Value.agg #[Value.slice t1 t2 t3, Value.slice t4 t5 t6], Value.int IntKind.i64 N, Value.int IntKind.i64 N, Value.int IntKind.i64 (-N), Value.int IntKind.i64 (M : Int), Value.int IntKind.u64 (M : Int), u77, Value.pointer (some { block := bT, off := 0 }), Value.slice t1 t2 t3, Value.int IntKind.u64 (M : Int), q1, Value.slice p1 p2 p3, Value.pointer (some { block := bT, off := 1 }), Value.slice t4 t5 t6, Value.int IntKind.u64 (M : Int), u86, u87, u88, Value.int IntKind.i64 N, Value.bool (decide (N < 0)), Value.int IntKind.i64 (p : Int), u92, u93, u94, u95, u96, u97, u98, u99, u100], defers := [] } ∧ Hid (Below V15.heap.size V15 w') ∧ Hid (NV w' (.slice p1 p2 p3) ((atP 1 3 p j).l * M)) ∧ Hid (GD w' bC nz) ∧ Hid (V15.heap.size ≤ bC ∧ True) ∧ Hid (GD w' bE nz) ∧ Hid (V15.heap.size ≤ bE ∧ True) ∧ Hid (bC ≠ bE ∧ True)) #[true, true, true, true, true, true, true, true, false, false, false, true, true, true, false, false, false, false, true, true, false, false] 9 ?F ?main
    case F =>
      intro a' w' hI
      obtain ⟨q1, p1, p2, p3, bC, bE, rfl, FB, F2, GC, LC, GE', LE', NEb⟩ := hI
      refine wpAnyH_ready (rs := [8]) (by kernel_rfl) (by simp) ?_
      refine AllReadyH.cons (o := _) (at_of rfl) (fun K hK => ?_) ?_
      · go_simp
        refine (OM.out _).mono ?_
        rintro r wn ⟨q3, rfl, hq, hb⟩
        have F3n := Lib.hid hq
        have F2n := Lib.hid (F2.out.below hb)
        have FBn := Lib.hid (bl_thru FB.out (Nat.le_refl _) hb)
        have GCn := Lib.hid (GC.out.below hb)
        have LCn := LC
        have GE'n := Lib.hid (GE'.out.below hb)
        have LE'n := LE'
        have NEbn := NEb
        dsimp only
        refine hK.out _ _ (CT.out _ FBn.out) (fun _ => ?_)
        try simp only [Act.put, List.setIfInBounds_toArray, List.set_cons_zero, List.set_cons_succ]
        exact F311.out _ _ ⟨_, _, _, _, _, _, _, rfl, FBn, F2n, F3n, GCn, LCn, GE'n, LE'n, NEbn⟩
      exact AllReadyH.nil
    case main =>
    intro hF'
    have F211 := Lib.hid hF'
    clear hF'
    refine use_F (fun a' w' => ∃ (q1 : Value) (p1 : Option Addr) (p2 : Nat) (p3 : Nat) (bC : Nat), a' = { tmps := #[Value.agg #[Value.bool g, Value.slice a1 n1 c1, Value.int IntKind.i64 e], Value.int IntKind.i64 (p : Int), Value.pointer (some { block := w.heap.size, off := 0 }), undef, Value.pointer (some { block := w.heap.size + 1, off := 0 }), Value.pointer (some { block := w.heap.size + 1 + 1, off := 0 }), Value.int IntKind.i64 (L : Int), Value.slice y1 y2 y3, Value.int IntKind.i64 N, Value.slice z1 z2 z3, Value.bool G, Value.pointer (some { block := bA, off := 0 }), Value.pointer (some { block := bA + 1, off := 0 }), Value.pointer (some { block := bT, off := 0 }), Value.int IntKind.u64 (M : Int), Value.pointer (some { block := bC, off := 0 }), undef, u17, u18, u19, u20, u21, u22, u23, u24, u25, u26, u27, u28, u29, u30, u31, u32, u33, u34, u35, u36, u37, u38, u39, u40, u41, u42, u43, u44, u45, u46, u47, u48, u49, u50, u51, u52, u53, u54, Value.tuple #[Value.agg #[Value.bool A.neg, Value.slice e1 f1 g1, Value.int IntKind.i64 A.e], Value.agg #[Value.bool B.neg, Value.slice e2 f2 g2, Value.int IntKind.i64 B.e]], Value.slice z1 z2 z3, Value.pointer (some { block := w.heap.size, off := 1 }), Value.slice a1 n1 c1, Value.slice y1 y2 y3, v10, Value.int IntKind.i64 (p : Int), v11, Value.bool G, Value.int IntKind.i64 (p : Int), Value.tuple #[Value.agg #[Value.bool A.neg, Value.slice e1 f1 g1, Value.int IntKind.i64 A.e], Value.agg #[Value.bool B.neg, Value.slice e2 f2 g2, Value.int IntKind.i64 B.e]], Value.agg #[Value.bool A.neg, Value.slice e1 f1 g1, Value.int IntKind.i64 A.e], Value.agg #[Value.bool B.neg, Value.slice e2 f2 g2, Value.int IntKind.i64 B.e], v13, v14, Value.int IntKind.i64 (p : Int), Value.agg #[Value.slice t1 t2 t3, Value.slice t4 t5 t6], Value.int IntKind.i64 N, Value.int IntKind.i64 N, Value.int IntKind.i64 (-N), Value.int IntKind.i64 (M : Int), Value.int IntKind.u64 (M : Int), u77, Value.pointer (some { block := bT, off := 0 }), Value.slice t1 t2 t3, Value.int IntKind.u64 (M : Int), q1, Value.slice p1 p2 p3, Value.pointer (some { block := bT, off := 1 }), Value.slice t4 t5 t6, Value.int IntKind.u64 (M : Int), u86, u87, u88, Value.int IntKind.i64 N, Value.bool (decide (N < 0)), Value.int IntKind.i64 (p : Int), u92, u93, u94, u95, u96, u97, u98, u99, u100], defers := [] } ∧ Hid (Below V15.heap.size V15 w') ∧ Hid (NV w' (.slice p1 p2 p3) ((atP 1 3 p j).l * M)) ∧ Hid (GD w' bC nz) ∧ Hid (V15.heap.size ≤ bC ∧ True)) #[true, true, true, true, true, true, true, true, false, false, false, true, true, true, false, false, false, false, true, false, false, false] 10 ?F ?main
    case F =>
      intro a' w' hI
      obtain ⟨q1, p1, p2, p3, bC, rfl, FB, F2, GC, LC⟩ := hI
      refine wpAnyH_ready (rs := [8, 19]) (by kernel_rfl) (by simp) ?_
      refine AllReadyH.cons (o := _) (at_of rfl) (fun K hK => ?_) ?_
      · go_simp
        refine (OM.out _).mono ?_
        rintro r wn ⟨q3, rfl, hq, hb⟩
        have F3n := Lib.hid hq
        have F2n := Lib.hid (F2.out.below hb)
        have FBn := Lib.hid (bl_thru FB.out (Nat.le_refl _) hb)
        have GCn := Lib.hid (GC.out.below hb)
        have LCn := LC
        dsimp only
        refine hK.out _ _ (CT.out _ FBn.out) (fun _ => ?_)
        try simp only [Act.put, List.setIfInBounds_toArray, List.set_cons_zero, List.set_cons_succ]
        exact F310.out _ _ ⟨_, _, _, _, _, _, rfl, FBn, F2n, F3n, GCn, LCn⟩
      refine AllReadyH.cons (o := _) (at_of rfl) (fun K hK => ?_) ?_
      · have hlt := FB.out.size
        go_simp
        refine hK.out _ _ (CT.out _ (bl_a1 FB.out _)) (fun _ => ?_)
        try simp only [Act.put, List.setIfInBounds_toArray, List.set_cons_zero, List.set_cons_succ]
        have FBn := Lib.hid (bl_a1 FB.out (.cells #[.bool false, .slice none 0 0, .int .i64 0] 24))
        have F2n := Lib.hid (F2.out.alloc (.cells #[.bool false, .slice none 0 0, .int .i64 0] 24))
        have GCn := Lib.hid (GC.out.alloc (.cells #[.bool false, .slice none 0 0, .int .i64 0] 24))
        have LCn := LC
        have GE'n := Lib.hid (GD.nil w')
        have LE'n : Hid (V15.heap.size ≤ w'.heap.size ∧ True) := Lib.hid ⟨hlt, trivial⟩
        have NEbn := Lib.hid (show bC ≠ w'.heap.size ∧ True from ⟨by have := GC.out.lt; omega, trivial⟩)
        exact F211.out _ _ ⟨_, _, _, _, _, _, rfl, FBn, F2n, GCn, LCn, GE'n, LE'n, NEbn⟩
      exact AllReadyH.nil
    case main =>
    intro hF'
    have F210 := Lib.hid hF'
    clear hF'
    refine use_F (fun a' w' => ∃ (q1 : Value) (p1 : Option Addr) (p2 : Nat) (p3 : Nat) (bE : Nat), a' = { tmps := #[Value.agg #[Value.bool g, Value.slice a1 n1 c1, Value.int IntKind.i64 e], Value.int IntKind.i64 (p : Int), Value.pointer (some { block := w.heap.size, off := 0 }), undef, Value.pointer (some { block := w.heap.size + 1, off := 0 }), Value.pointer (some { block := w.heap.size + 1 + 1, off := 0 }), Value.int IntKind.i64 (L : Int), Value.slice y1 y2 y3, Value.int IntKind.i64 N, Value.slice z1 z2 z3, Value.bool G, Value.pointer (some { block := bA, off := 0 }), Value.pointer (some { block := bA + 1, off := 0 }), Value.pointer (some { block := bT, off := 0 }), Value.int IntKind.u64 (M : Int), undef, Value.pointer (some { block := bE, off := 0 }), u17, u18, u19, u20, u21, u22, u23, u24, u25, u26, u27, u28, u29, u30, u31, u32, u33, u34, u35, u36, u37, u38, u39, u40, u41, u42, u43, u44, u45, u46, u47, u48, u49, u50, u51, u52, u53, u54, Value.tuple #[Value.agg #[Value.bool A.neg, Value.slice e1 f1 g1, Value.int IntKind.i64 A.e], Value.agg #[Value.bool B.neg, Value.slice e2 f2 g2, Value.int IntKind.i64 B.e]], Value.slice z1 z2 z3, Value.pointer (some { block := w.heap.size, off := 1 }), Value.slice a1 n1 c1, Value.slice y1 y2 y3, v10, Value.int IntKind.i64 (p : Int), v11, Value.bool G, Value.int IntKind.i64 (p : Int), Value.tuple #[Value.agg #[Value.bool A.neg, Value.slice e1 f1 g1, Value.int IntKind.i64 A.e], Value.agg #[Value.bool B.neg, Value.slice e2 f2 g2, Value.int IntKind.i64 B.e]], Value.agg #[Value.bool A.neg, Value.slice e1 f1 g1, Value.int IntKind.i64 A.e], Value.agg #[Value.bool B.neg, Value.slice e2 f2 g2, Value.int IntKind.i64 B.e], v13, v14, Value.int IntKind.i64 (p : Int), Value.agg #[Value.slice t1 t2 t3, Value.slice t4 t5 t6], Value.int IntKind.i64 N, Value.int IntKind.i64 N, Value.int IntKind.i64 (-N), Value.int IntKind.i64 (M : Int), Value.int IntKind.u64 (M : Int), u77, Value.pointer (some { block := bT, off := 0 }), Value.slice t1 t2 t3, Value.int IntKind.u64 (M : Int), q1, Value.slice p1 p2 p3, Value.pointer (some { block := bT, off := 1 }), Value.slice t4 t5 t6, Value.int IntKind.u64 (M : Int), u86, u87, u88, Value.int IntKind.i64 N, Value.bool (decide (N < 0)), Value.int IntKind.i64 (p : Int), u92, u93, u94, u95, u96, u97, u98, u99, u100], defers := [] } ∧ Hid (Below V15.heap.size V15 w') ∧ Hid (NV w' (.slice p1 p2 p3) ((atP 1 3 p j).l * M)) ∧ Hid (GD w' bE nz) ∧ Hid (V15.heap.size ≤ bE ∧ True)) #[true, true, true, true, true, true, true, true, false, false, false, true, true, true, false, false, false, false, false, true, false, false] 10 ?F ?main
    case F =>
      intro a' w' hI
      obtain ⟨q1, p1, p2, p3, bE, rfl, FB, F2, GE', LE'⟩ := hI
      refine wpAnyH_ready (rs := [8, 18]) (by kernel_rfl) (by simp) ?_
      refine AllReadyH.cons (o := _) (at_of rfl) (fun K hK => ?_) ?_
      · go_simp
        refine (OM.out _).mono ?_
        rintro r wn ⟨q3, rfl, hq, hb⟩
        have F3n := Lib.hid hq
        have F2n := Lib.hid (F2.out.below hb)
        have FBn := Lib.hid (bl_thru FB.out (Nat.le_refl _) hb)
        have GE'n := Lib.hid (GE'.out.below hb)
        have LE'n := LE'
        dsimp only
        refine hK.out _ _ (CT.out _ FBn.out) (fun _ => ?_)
        try simp only [Act.put, List.setIfInBounds_toArray, List.set_cons_zero, List.set_cons_succ]
        exact F301.out _ _ ⟨_, _, _, _, _, _, rfl, FBn, F2n, F3n, GE'n, LE'n⟩
      refine AllReadyH.cons (o := _) (at_of rfl) (fun K hK => ?_) ?_
      · have hlt := FB.out.size
        go_simp
        refine hK.out _ _ (CT.out _ (bl_a1 FB.out _)) (fun _ => ?_)
        try simp only [Act.put, List.setIfInBounds_toArray, List.set_cons_zero, List.set_cons_succ]
        have FBn := Lib.hid (bl_a1 FB.out (.cells #[.bool false, .slice none 0 0, .int .i64 0] 24))
        have F2n := Lib.hid (F2.out.alloc (.cells #[.bool false, .slice none 0 0, .int .i64 0] 24))
        have GE'n := Lib.hid (GE'.out.alloc (.cells #[.bool false, .slice none 0 0, .int .i64 0] 24))
        have LE'n := LE'
        have GCn := Lib.hid (GD.nil w')
        have LCn : Hid (V15.heap.size ≤ w'.heap.size ∧ True) := Lib.hid ⟨hlt, trivial⟩
        have NEbn := Lib.hid (show w'.heap.size ≠ bE ∧ True from ⟨by have := GE'.out.lt; omega, trivial⟩)
        exact F211.out _ _ ⟨_, _, _, _, _, _, rfl, FBn, F2n, GCn, LCn, GE'n, LE'n, NEbn⟩
      exact AllReadyH.nil
    case main =>
    intro hF'
    have F201 := Lib.hid hF'
    clear hF'
    refine use_F (fun a' w' => ∃ (q1 : Value) (p1 : Option Addr) (p2 : Nat) (p3 : Nat), a' = { tmps := #[Value.agg #[Value.bool g, Value.slice a1 n1 c1, Value.int IntKind.i64 e], Value.int IntKind.i64 (p : Int), Value.pointer (some { block := w.heap.size, off := 0 }), undef, Value.pointer (some { block := w.heap.size + 1, off := 0 }), Value.pointer (some { block := w.heap.size + 1 + 1, off := 0 }), Value.int IntKind.i64 (L : Int), Value.slice y1 y2 y3, Value.int IntKind.i64 N, Value.slice z1 z2 z3, Value.bool G, Value.pointer (some { block := bA, off := 0 }), Value.pointer (some { block := bA + 1, off := 0 }), Value.pointer (some { block := bT, off := 0 }), Value.int IntKind.u64 (M : Int), undef, undef, u17, u18, u19, u20, u21, u22, u23, u24, u25, u26, u27, u28, u29, u30, u31, u32, u33, u34, u35, u36, u37, u38, u39, u40, u41, u42, u43, u44, u45, u46, u47, u48, u49, u50, u51, u52, u53, u54, Value.tuple #[Value.agg #[Value.bool A.neg, Value.slice e1 f1 g1, Value.int IntKind.i64 A.e], Value.agg #[Value.bool B.neg, Value.slice e2 f2 g2, Value.int IntKind.i64 B.e]], Value.slice z1 z2 z3, Value.pointer (some { block := w.heap.size, off := 1 }), Value.slice a1 n1 c1, Value.slice y1 y2 y3, v10, Value.int IntKind.i64 (p : Int), v11, Value.bool G, Value.int IntKind.i64 (p : Int), Value.tuple #[Value.agg #[Value.bool A.neg, Value.slice e1 f1 g1, Value.int IntKind.i64 A.e], Value.agg #[Value.bool B.neg, Value.slice e2 f2 g2, Value.int IntKind.i64 B.e]], Value.agg #[Value.bool A.neg, Value.slice e1 f1 g1, Value.int IntKind.i64 A.e], Value.agg #[Value.bool B.neg, Value.slice e2 f2 g2, Value.int IntKind.i64 B.e], v13, v14, Value.int IntKind.i64 (p : Int), Value.agg #[Value.slice t1 t2 t3, Value.slice t4 t5 t6], Value.int IntKind.i64 N, Value.int IntKind.i64 N, Value.int IntKind.i64 (-N), Value.int IntKind.i64 (M : Int), Value.int IntKind.u64 (M : Int), u77, Value.pointer (some { block := bT, off := 0 }), Value.slice t1 t2 t3, Value.int IntKind.u64 (M : Int), q1, Value.slice p1 p2 p3, Value.pointer (some { block := bT, off := 1 }), Value.slice t4 t5 t6, Value.int IntKind.u64 (M : Int), u86, u87, u88, Value.int IntKind.i64 N, Value.bool (decide (N < 0)), Value.int IntKind.i64 (p : Int), u92, u93, u94, u95, u96, u97, u98, u99, u100], defers := [] } ∧ Hid (Below V15.heap.size V15 w') ∧ Hid (NV w' (.slice p1 p2 p3) ((atP 1 3 p j).l * M))) #[true, true, true, true, true, true, true, true, false, false, false, true, true, true, false, false, false, false, false, false, false, false] 11 ?F ?main
    case F =>
      intro a' w' hI
      obtain ⟨q1, p1, p2, p3, rfl, FB, F2⟩ := hI
      refine wpAnyH_ready (rs := [8, 18, 19]) (by kernel_rfl) (by simp) ?_
      refine AllReadyH.cons (o := _) (at_of rfl) (fun K hK => ?_) ?_
      · go_simp
        refine (OM.out _).mono ?_
        rintro r wn ⟨q3, rfl, hq, hb⟩
        have F3n := Lib.hid hq
        have F2n := Lib.hid (F2.out.below hb)
        have FBn := Lib.hid (bl_thru FB.out (Nat.le_refl _) hb)
        dsimp only
        refine hK.out _ _ (CT.out _ FBn.out) (fun _ => ?_)
        try simp only [Act.put, List.setIfInBounds_toArray, List.set_cons_zero, List.set_cons_succ]
        exact F300.out _ _ ⟨_, _, _, _, _, rfl, FBn, F2n, F3n⟩
      refine AllReadyH.cons (o := _) (at_of rfl) (fun K hK => ?_) ?_
      · have hlt := FB.out.size
        go_simp
        refine hK.out _ _ (CT.out _ (bl_a1 FB.out _)) (fun _ => ?_)
        try simp only [Act.put, List.setIfInBounds_toArray, List.set_cons_zero, List.set_cons_succ]
        have FBn := Lib.hid (bl_a1 FB.out (.cells #[.bool false, .slice none 0 0, .int .i64 0] 24))
        have F2n := Lib.hid (F2.out.alloc (.cells #[.bool false, .slice none 0 0, .int .i64 0] 24))
        have GCn := Lib.hid (GD.nil w')
        have LCn : Hid (V15.heap.size ≤ w'.heap.size ∧ True) := Lib.hid ⟨hlt, trivial⟩
        exact F210.out _ _ ⟨_, _, _, _, _, rfl, FBn, F2n, GCn, LCn⟩
      refine AllReadyH.cons (o := _) (at_of rfl) (fun K hK => ?_) ?_
      · have hlt := FB.out.size
        go_simp
        refine hK.out _ _ (CT.out _ (bl_a1 FB.out _)) (fun _ => ?_)
        try simp only [Act.put, List.setIfInBounds_toArray, List.set_cons_zero, List.set_cons_succ]
        have FBn := Lib.hid (bl_a1 FB.out (.cells #[.bool false, .slice none 0 0, .int .i64 0] 24))
        have F2n := Lib.hid (F2.out.alloc (.cells #[.bool false, .slice none 0 0, .int .i64 0] 24))
        have GE'n := Lib.hid (GD.nil w')
        have LE'n : Hid (V15.heap.size ≤ w'.heap.size ∧ True) := Lib.hid ⟨hlt, trivial⟩
        exact F201.out _ _ ⟨_, _, _, _, _, rfl, FBn, F2n, GE'n, LE'n⟩
      exact AllReadyH.nil
    case main =>
    intro hF'
    have F200 := Lib.hid hF'
    clear hF'
    refine use_F (fun a' w' => ∃ (q1 : Value) (bC : Nat) (bE : Nat), a' = { tmps := #[Value.agg #[Value.bool g, Value.slice a1 n1 c1, Value.int IntKind.i64 e], Value.int IntKind.i64 (p : Int), Value.pointer (some { block := w.heap.size, off := 0 }), undef, Value.pointer (some { block := w.heap.size + 1, off := 0 }), Value.pointer (some { block := w.heap.size + 1 + 1, off := 0 }), Value.int IntKind.i64 (L : Int), Value.slice y1 y2 y3, Value.int IntKind.i64 N, Value.slice z1 z2 z3, Value.bool G, Value.pointer (some { block := bA, off := 0 }), Value.pointer (some { block := bA + 1, off := 0 }), Value.pointer (some { block := bT, off := 0 }), Value.int IntKind.u64 (M : Int), Value.pointer (some { block := bC, off := 0 }), Value.pointer (some { block := bE, off := 0 }), u17, u18, u19, u20, u21, u22, u23, u24, u25, u26, u27, u28, u29, u30, u31, u32, u33, u34, u35, u36, u37, u38, u39, u40, u41, u42, u43, u44, u45, u46, u47, u48, u49, u50, u51, u52, u53, u54, Value.tuple #[Value.agg #[Value.bool A.neg, Value.slice e1 f1 g1, Value.int IntKind.i64 A.e], Value.agg #[Value.bool B.neg, Value.slice e2 f2 g2, Value.int IntKind.i64 B.e]], Value.slice z1 z2 z3, Value.pointer (some { block := w.heap.size, off := 1 }), Value.slice a1 n1 c1, Value.slice y1 y2 y3, v10, Value.int IntKind.i64 (p : Int), v11, Value.bool G, Value.int IntKind.i64 (p : Int), Value.tuple #[Value.agg #[Value.bool A.neg, Value.slice e1 f1 g1, Value.int IntKind.i64 A.e], Value.agg #[Value.bool B.neg, Value.slice e2 f2 g2, Value.int IntKind.i64 B.e]], Value.agg #[Value.bool A.neg, Value.slice e1 f1 g1, Value.int IntKind.i64 A.e], Value.agg #[Value.bool B.neg, Value.slice e2 f2 g2, Value.int IntKind.i64 B.e], v13, v14, Value.int IntKind.i64 (p : Int), Value.agg #[Value.slice t1 t2 t3, Value.slice t4 t5 t6], Value.int IntKind.i64 N, Value.int IntKind.i64 N, Value.int IntKind.i64 (-N), Value.int IntKind.i64 (M : Int), Value.int IntKind.u64 (M : Int), u77, Value.pointer (some { block := bT, off := 0 }), Value.slice t1 t2 t3, Value.int IntKind.u64 (M : Int), q1, u82, Value.pointer (some { block := bT, off := 1 }), Value.slice t4 t5 t6, Value.int IntKind.u64 (M : Int), u86, u87, u88, Value.int IntKind.i64 N, Value.bool (decide (N < 0)), Value.int IntKind.i64 (p : Int), u92, u93, u94, u95, u96, u97, u98, u99, u100], defers := [] } ∧ Hid (Below V15.heap.size V15 w') ∧ Hid (NV w' q1 M) ∧ Hid (GD w' bC nz) ∧ Hid (V15.heap.size ≤ bC ∧ True) ∧ Hid (GD w' bE nz) ∧ Hid (V15.heap.size ≤ bE ∧ True) ∧ Hid (bC ≠ bE ∧ True)) #[true, true, true, true, false, true, true, true, false, false, false, true, true, true, false, false, false, false, true, true, false, false] 10 ?F ?main
    case F =>
      intro a' w' hI
      obtain ⟨q1, bC, bE, rfl, FB, F1, GC, LC, GE', LE', NEb⟩ := hI
      refine wpAnyH_ready (rs := [4]) (by kernel_rfl) (by simp) ?_
      refine AllReadyH.cons (o := _) (at_of rfl) (fun K hK => ?_) ?_
      · go_simp
        refine (TM1.out _ _ (NT1.out.below FB.out) F1.out).mono ?_
        rintro r wn ⟨q2, rfl, hq, hb⟩
        obtain ⟨p1, p2, p3, rfl⟩ := hq.shape
        have F2n := Lib.hid hq
        have FBn := Lib.hid (bl_thru FB.out (Nat.le_refl _) hb)
        have GCn := Lib.hid (GC.out.below hb)
        have LCn := LC
        have GE'n := Lib.hid (GE'.out.below hb)
        have LE'n := LE'
        have NEbn := NEb
        dsimp only
        refine hK.out _ _ (CT.out _ FBn.out) (fun _ => ?_)
        try simp only [Act.put, List.setIfInBounds_toArray, List.set_cons_zero, List.set_cons_succ]
        exact F211.out _ _ ⟨_, _, _, _, _, _, rfl, FBn, F2n, GCn, LCn, GE'n, LE'n, NEbn⟩
      exact AllReadyH.nil
    case main =>
    intro hF'
    have F111 := Lib.hid hF'
    clear hF'
    refine use_F (fun a' w' => ∃ (q1 : Value) (bC : Nat), a' = { tmps := #[Value.agg #[Value.bool g, Value.slice a1 n1 c1, Value.int IntKind.i64 e], Value.int IntKind.i64 (p : Int), Value.pointer (some { block := w.heap.size, off := 0 }), undef, Value.pointer (some { block := w.heap.size + 1, off := 0 }), Value.pointer (some { block := w.heap.size + 1 + 1, off := 0 }), Value.int IntKind.i64 (L : Int), Value.slice y1 y2 y3, Value.int IntKind.i64 N, Value.slice z1 z2 z3, Value.bool G, Value.pointer (some { block := bA, off := 0 }), Value.pointer (some { block := bA + 1, off := 0 }), Value.pointer (some { block := bT, off := 0 }), Value.int IntKind.u64 (M : Int), Value.pointer (some { block := bC, off := 0 }), undef, u17, u18, u19, u20, u21, u22, u23, u24, u25, u26, u27, u28, u29, u30, u31, u32, u33, u34, u35, u36, u37, u38, u39, u40, u41, u42, u43, u44, u45, u46, u47, u48, u49, u50, u51, u52, u53, u54, Value.tuple #[Value.agg #[Value.bool A.neg, Value.slice e1 f1 g1, Value.int IntKind.i64 A.e], Value.agg #[Value.bool B.neg, Value.slice e2 f2 g2, Value.int IntKind.i64 B.e]], Value.slice z1 z2 z3, Value.pointer (some { block := w.heap.size, off := 1 }), Value.slice a1 n1 c1, Value.slice y1 y2 y3, v10, Value.int IntKind.i64 (p : Int), v11, Value.bool G, Value.int IntKind.i64 (p : Int), Value.tuple #[Value.agg #[Value.bool A.neg, Value.slice e1 f1 g1, Value.int IntKind.i64 A.e], Value.agg #[Value.bool B.neg, Value.slice e2 f2 g2, Value.int IntKind.i64 B.e]], Value.agg #[Value.bool A.neg, Value.slice e1 f1 g1, Value.int IntKind.i64 A.e], Value.agg #[Value.bool B.neg, Value.slice e2 f2 g2, Value.int IntKind.i64 B.e], v13, v14, Value.int IntKind.i64 (p : Int), Value.agg #[Value.slice t1 t2 t3, Value.slice t4 t5 t6], Value.int IntKind.i64 N, Value.int IntKind.i64 N, Value.int IntKind.i64 (-N), Value.int IntKind.i64 (M : Int), Value.int IntKind.u64 (M : Int), u77, Value.pointer (some { block := bT, off := 0 }), Value.slice t1 t2 t3, Value.int IntKind.u64 (M : Int), q1, u82, Value.pointer (some { block := bT, off := 1 }), Value.slice t4 t5 t6, Value.int IntKind.u64 (M : Int), u86, u87, u88, Value.int IntKind.i64 N, Value.bool (decide (N < 0)), Value.int IntKind.i64 (p : Int), u92, u93, u94, u95, u96, u97, u98, u99, u100], defers := [] } ∧ Hid (Below V15.heap.size V15 w') ∧ Hid (NV w' q1 M) ∧ Hid (GD w' bC nz) ∧ Hid (V15.heap.size ≤ bC ∧ True)) #[true, true, true, true, false, true, true, true, false, false, false, true, true, true, false, false, false, false, true, false, false, false] 11 ?F ?main
    case F =>
      intro a' w' hI
      obtain ⟨q1, bC, rfl, FB, F1, GC, LC⟩ := hI
      refine wpAnyH_ready (rs := [4, 19]) (by kernel_rfl) (by simp) ?_
      refine AllReadyH.cons (o := _) (at_of rfl) (fun K hK => ?_) ?_
      · go_simp
        refine (TM1.out _ _ (NT1.out.below FB.out) F1.out).mono ?_
        rintro r wn ⟨q2, rfl, hq, hb⟩
        obtain ⟨p1, p2, p3, rfl⟩ := hq.shape
        have F2n := Lib.hid hq
        have FBn := Lib.hid (bl_thru FB.out (Nat.le_refl _) hb)
        have GCn := Lib.hid (GC.out.below hb)
        have LCn := LC
        dsimp only
        refine hK.out _ _ (CT.out _ FBn.out) (fun _ => ?_)
        try simp only [Act.put, List.setIfInBounds_toArray, List.set_cons_zero, List.set_cons_succ]
        exact F210.out _ _ ⟨_, _, _, _, _, rfl, FBn, F2n, GCn, LCn⟩
      refine AllReadyH.cons (o := _) (at_of rfl) (fun K hK => ?_) ?_
      · have hlt := FB.out.size
        go_simp
        refine hK.out _ _ (CT.out _ (bl_a1 FB.out _)) (fun _ => ?_)
        try simp only [Act.put, List.setIfInBounds_toArray, List.set_cons_zero, List.set_cons_succ]
        have FBn := Lib.hid (bl_a1 FB.out (.cells #[.bool false, .slice none 0 0, .int .i64 0] 24))
        have F1n := Lib.hid (F1.out.alloc (.cells #[.bool false, .slice none 0 0, .int .i64 0] 24))
        have GCn := Lib.hid (GC.out.alloc (.cells #[.bool false, .slice none 0 0, .int .i64 0] 24))
        have LCn := LC
        have GE'n := Lib.hid (GD.nil w')
        have LE'n : Hid (V15.heap.size ≤ w'.heap.size ∧ True) := Lib.hid ⟨hlt, trivial⟩
        have NEbn := Lib.hid (show bC ≠ w'.heap.size ∧ True from ⟨by have := GC.out.lt; omega, trivial⟩)
        exact F111.out _ _ ⟨_, _, _, rfl, FBn, F1n, GCn, LCn, GE'n, LE'n, NEbn⟩
      exact AllReadyH.nil
    case main =>
    intro hF'
    have F110 := Lib.hid hF'
    clear hF'
    refine use_F (fun a' w' => ∃ (q1 : Value) (bE : Nat), a' = { tmps := #[Value.agg #[Value.bool g, Value.slice a1 n1 c1, Value.int IntKind.i64 e], Value.int IntKind.i64 (p : Int), Value.pointer (some { block := w.heap.size, off := 0 }), undef, Value.pointer (some { block := w.heap.size + 1, off := 0 }), Value.pointer (some { block := w.heap.size + 1 + 1, off := 0 }), Value.int IntKind.i64 (L : Int), Value.slice y1 y2 y3, Value.int IntKind.i64 N, Value.slice z1 z2 z3, Value.bool G, Value.pointer (some { block := bA, off := 0 }), Value.pointer (some { block := bA + 1, off := 0 }), Value.pointer (some { block := bT, off := 0 }), Value.int IntKind.u64 (M : Int), undef, Value.pointer (some { block := bE, off := 0 }), u17, u18, u19, u20, u21, u22, u23, u24, u25, u26, u27, u28, u29, u30, u31, u32, u33, u34, u35, u36, u37, u38, u39, u40, u41, u42, u43, u44, u45, u46, u47, u48, u49, u50, u51, u52, u53, u54, Value.tuple #[Value.agg #[Value.bool A.neg, Value.slice e1 f1 g1, Value.int IntKind.i64 A.e], Value.agg #[Value.bool B.neg, Value.slice e2 f2 g2, Value.int IntKind.i64 B.e]], Value.slice z1 z2 z3, Value.pointer (some { block := w.heap.size, off := 1 }), Value.slice a1 n1 c1, Value.slice y1 y2 y3, v10, Value.int IntKind.i64 (p : Int), v11, Value.bool G, Value.int IntKind.i64 (p : Int), Value.tuple #[Value.agg #[Value.bool A.neg, Value.slice e1 f1 g1, Value.int IntKind.i64 A.e], Value.agg #[Value.bool B.neg, Value.slice e2 f2 g2, Value.int IntKind.i64 B.e]], Value.agg #[Value.bool A.neg, Value.slice e1 f1 g1, Value.int IntKind.i64 A.e], Value.agg #[Value.bool B.neg, Value.slice e2 f2 g2, Value.int IntKind.i64 B.e], v13, v14, Value.int IntKind.i64 (p : Int), Value.agg #[Value.slice t1 t2 t3, Value.slice t4 t5 t6], Value.int IntKind.i64 N, Value.int IntKind.i64 N, Value.int IntKind.i64 (-N), Value.int IntKind.i64 (M : Int), Value.int IntKind.u64 (M : Int), u77, Value.pointer (some { block := bT, off := 0 }), Value.slice t1 t2 t3, Value.int IntKind.u64 (M : Int), q1, u82, Value.pointer (some { block := bT, off := 1 }), Value.slice t4 t5 t6, Value.int IntKind.u64 (M : Int), u86, u87, u88, Value.int IntKind.i64 N, Value.bool (decide (N < 0)), Value.int IntKind.i64 (p : Int), u92, u93, u94, u95, u96, u97, u98, u99, u100], defers := [] } ∧ Hid (Below V15.heap.size V15 w') ∧ Hid (NV w' q1 M) ∧ Hid (GD w' bE nz) ∧ Hid (V15.heap.size ≤ bE ∧ True)) #[true, true, true, true, false, true, true, true, false, false, false, true, true, true, false, false, false, false, false, true, false, false] 11 ?F ?main
    case F =>
      intro a' w' hI
      obtain ⟨q1, bE, rfl, FB, F1, GE', LE'⟩ := hI
      refine wpAnyH_ready (rs := [4, 18]) (by kernel_rfl) (by simp) ?_
      refine AllReadyH.cons (o := _) (at_of rfl) (fun K hK => ?_) ?_
      · go_simp
        refine (TM1.out _ _ (NT1.out.below FB.out) F1.out).mono ?_
        rintro r wn ⟨q2, rfl, hq, hb⟩
        obtain ⟨p1, p2, p3, rfl⟩ := hq.shape
        have F2n := Lib.hid hq
        have FBn := Lib.hid (bl_thru FB.out (Nat.le_refl _) hb)
        have GE'n := Lib.hid (GE'.out.below hb)
        have LE'n := LE'
        dsimp only
        refine hK.out _ _ (CT.out _ FBn.out) (fun _ => ?_)
        try simp only [Act.put, List.setIfInBounds_toArray, List.set_cons_zero, List.set_cons_succ]
        exact F201.out _ _ ⟨_, _, _, _, _, rfl, FBn, F2n, GE'n, LE'n⟩
      refine AllReadyH.cons (o := _) (at_of rfl) (fun K hK => ?_) ?_
      · have hlt := FB.out.size
        go_simp
        refine hK.out _ _ (CT.out _ (bl_a1 FB.out _)) (fun _ => ?_)
        try simp only [Act.put, List.setIfInBounds_toArray, List.set_cons_zero, List.set_cons_succ]
        have FBn := Lib.hid (bl_a1 FB.out (.cells #[.bool false, .slice none 0 0, .int .i64 0] 24))
        have F1n := Lib.hid (F1.out.alloc (.cells #[.bool false, .slice none 0 0, .int .i64 0] 24))
        have GE'n := Lib.hid (GE'.out.alloc (.cells #[.bool false, .slice none 0 0, .int .i64 0] 24))
        have LE'n := LE'
        have GCn := Lib.hid (GD.nil w')
        have LCn : Hid (V15.heap.size ≤ w'.heap.size ∧ True) := Lib.hid ⟨hlt, trivial⟩
        have NEbn := Lib.hid (show w'.heap.size ≠ bE ∧ True from ⟨by have := GE'.out.lt; omega, trivial⟩)
        exact F111.out _ _ ⟨_, _, _, rfl, FBn, F1n, GCn, LCn, GE'n, LE'n, NEbn⟩
      exact AllReadyH.nil
    case main =>
    intro hF'
    have F101 := Lib.hid hF'
    clear hF'
    refine use_F (fun a' w' => ∃ (q1 : Value), a' = { tmps := #[Value.agg #[Value.bool g, Value.slice a1 n1 c1, Value.int IntKind.i64 e], Value.int IntKind.i64 (p : Int), Value.pointer (some { block := w.heap.size, off := 0 }), undef, Value.pointer (some { block := w.heap.size + 1, off := 0 }), Value.pointer (some { block := w.heap.size + 1 + 1, off := 0 }), Value.int IntKind.i64 (L : Int), Value.slice y1 y2 y3, Value.int IntKind.i64 N, Value.slice z1 z2 z3, Value.bool G, Value.pointer (some { block := bA, off := 0 }), Value.pointer (some { block := bA + 1, off := 0 }), Value.pointer (some { block := bT, off := 0 }), Value.int IntKind.u64 (M : Int), undef, undef, u17, u18, u19, u20, u21, u22, u23, u24, u25, u26, u27, u28, u29, u30, u31, u32, u33, u34, u35, u36, u37, u38, u39, u40, u41, u42, u43, u44, u45, u46, u47, u48, u49, u50, u51, u52, u53, u54, Value.tuple #[Value.agg #[Value.bool A.neg, Value.slice e1 f1 g1, Value.int IntKind.i64 A.e], Value.agg #[Value.bool B.neg, Value.slice e2 f2 g2, Value.int IntKind.i64 B.e]], Value.slice z1 z2 z3, Value.pointer (some { block := w.heap.size, off := 1 }), Value.slice a1 n1 c1, Value.slice y1 y2 y3, v10, Value.int IntKind.i64 (p : Int), v11, Value.bool G, Value.int IntKind.i64 (p : Int), Value.tuple #[Value.agg #[Value.bool A.neg, Value.slice e1 f1 g1, Value.int IntKind.i64 A.e], Value.agg #[Value.bool B.neg, Value.slice e2 f2 g2, Value.int IntKind.i64 B.e]], Value.agg #[Value.bool A.neg, Value.slice e1 f1 g1, Value.int IntKind.i64 A.e], Value.agg #[Value.bool B.neg, Value.slice e2 f2 g2, Value.int IntKind.i64 B.e], v13, v14, Value.int IntKind.i64 (p : Int), Value.agg #[Value.slice t1 t2 t3, Value.slice t4 t5 t6], Value.int IntKind.i64 N, Value.int IntKind.i64 N, Value.int IntKind.i64 (-N), Value.int IntKind.i64 (M : Int), Value.int IntKind.u64 (M : Int), u77, Value.pointer (some { block := bT, off := 0 }), Value.slice t1 t2 t3, Value.int IntKind.u64 (M : Int), q1, u82, Value.pointer (some { block := bT, off := 1 }), Value.slice t4 t5 t6, Value.int IntKind.u64 (M : Int), u86, u87, u88, Value.int IntKind.i64 N, Value.bool (decide (N < 0)), Value.int IntKind.i64 (p : Int), u92, u93, u94, u95, u96, u97, u98, u99, u100], defers := [] } ∧ Hid (Below V15.heap.size V15 w') ∧ Hid (NV w' q1 M)) #[true, true, true, true, false, true, true, true, false, false, false, true, true, true, false, false, false, false, false, false, false, false] 12 ?F ?main
    case F =>
      intro a' w' hI
      obtain ⟨q1, rfl, FB, F1⟩ := hI
      refine wpAnyH_ready (rs := [4, 18, 19]) (by kernel_rfl) (by simp) ?_
      refine AllReadyH.cons (o := _) (at_of rfl) (fun K hK => ?_) ?_
      · go_simp
        refine (TM1.out _ _ (NT1.out.below FB.out) F1.out).mono ?_
        rintro r wn ⟨q2, rfl, hq, hb⟩
        obtain ⟨p1, p2, p3, rfl⟩ := hq.shape
        have F2n := Lib.hid hq
        have FBn := Lib.hid (bl_thru FB.out (Nat.le_refl _) hb)
        dsimp only
        refine hK.out _ _ (CT.out _ FBn.out) (fun _ => ?_)
        try simp only [Act.put, List.setIfInBounds_toArray, List.set_cons_zero, List.set_cons_succ]
        exact F200.out _ _ ⟨_, _, _, _, rfl, FBn, F2n⟩
      refine AllReadyH.cons (o := _) (at_of rfl) (fun K hK => ?_) ?_
      · have hlt := FB.out.size
        go_simp
        refine hK.out _ _ (CT.out _ (bl_a1 FB.out _)) (fun _ => ?_)
        try simp only [Act.put, List.setIfInBounds_toArray, List.set_cons_zero, List.set_cons_succ]
        have FBn := Lib.hid (bl_a1 FB.out (.cells #[.bool false, .slice none 0 0, .int .i64 0] 24))
        have F1n := Lib.hid (F1.out.alloc (.cells #[.bool false, .slice none 0 0, .int .i64 0] 24))
        have GCn := Lib.hid (GD.nil w')
        have LCn : Hid (V15.heap.size ≤ w'.heap.size ∧ True) := Lib.hid ⟨hlt, trivial⟩
        exact F110.out _ _ ⟨_, _, rfl, FBn, F1n, GCn, LCn⟩
      refine AllReadyH.cons (o := _) (at_of rfl) (fun K hK => ?_) ?_
      · have hlt := FB.out.size
        go_simp
        refine hK.out _ _ (CT.out _ (bl_a1 FB.out _)) (fun _ => ?_)
        try simp only [Act.put, List.setIfInBounds_toArray, List.set_cons_zero, List.set_cons_succ]
        have FBn := Lib.hid (bl_a1 FB.out (.cells #[.bool false, .slice none 0 0, .int .i64 0] 24))
        have F1n := Lib.hid (F1.out.alloc (.cells #[.bool false, .slice none 0 0, .int .i64 0] 24))
        have GE'n := Lib.hid (GD.nil w')
        have LE'n : Hid (V15.heap.size ≤ w'.heap.size ∧ True) := Lib.hid ⟨hlt, trivial⟩
        exact F101.out _ _ ⟨_, _, rfl, FBn, F1n, GE'n, LE'n⟩
      exact AllReadyH.nil
    case main =>
    intro hF'
    have F100 := Lib.hid hF'
    clear hF'
    refine use_F (fun a' w' => ∃ (bC : Nat) (bE : Nat), a' = { tmps := #[Value.agg #[Value.bool g, Value.slice a1 n1 c1, Value.int IntKind.i64 e], Value.int IntKind.i64 (p : Int), Value.pointer (some { block := w.heap.size, off := 0 }), undef, Value.pointer (some { block := w.heap.size + 1, off := 0 }), Value.pointer (some { block := w.heap.size + 1 + 1, off := 0 }), Value.int IntKind.i64 (L : Int), Value.slice y1 y2 y3, Value.int IntKind.i64 N, Value.slice z1 z2 z3, Value.bool G, Value.pointer (some { block := bA, off := 0 }), Value.pointer (some { block := bA + 1, off := 0 }), Value.pointer (some { block := bT, off := 0 }), Value.int IntKind.u64 (M : Int), Value.pointer (some { block := bC, off := 0 }), Value.pointer (some { block := bE, off := 0 }), u17, u18, u19, u20, u21, u22, u23, u24, u25, u26, u27, u28, u29, u30, u31, u32, u33, u34, u35, u36, u37, u38, u39, u40, u41, u42, u43, u44, u45, u46, u47, u48, u49, u50, u51, u52, u53, u54, Value.tuple #[Value.agg #[Value.bool A.neg, Value.slice e1 f1 g1, Value.int IntKind.i64 A.e], Value.agg #[Value.bool B.neg, Value.slice e2 f2 g2, Value.int IntKind.i64 B.e]], Value.slice z1 z2 z3, Value.pointer (some { block := w.heap.size, off := 1 }), Value.slice a1 n1 c1, Value.slice y1 y2 y3, v10, Value.int IntKind.i64 (p : Int), v11, Value.bool G, Value.int IntKind.i64 (p : Int), Value.tuple #[Value.agg #[Value.bool A.neg, Value.slice e1 f1 g1, Value.int IntKind.i64 A.e], Value.agg #[Value.bool B.neg, Value.slice e2 f2 g2, Value.int IntKind.i64 B.e]], Value.agg #[Value.bool A.neg, Value.slice e1 f1 g1, Value.int IntKind.i64 A.e], Value.agg #[Value.bool B.neg, Value.slice e2 f2 g2, Value.int IntKind.i64 B.e], v13, v14, Value.int IntKind.i64 (p : Int), Value.agg #[Value.slice t1 t2 t3, Value.slice t4 t5 t6], Value.int IntKind.i64 N, Value.int IntKind.i64 N, Value.int IntKind.i64 (-N), Value.int IntKind.i64 (M : Int), Value.int IntKind.u64 (M : Int), u77, Value.pointer (some { block := bT, off := 0 }), Value.slice t1 t2 t3, Value.int IntKind.u64 (M : Int), u81, u82, Value.pointer (some { block := bT, off := 1 }), Value.slice t4 t5 t6, Value.int IntKind.u64 (M : Int), u86, u87, u88, Value.int IntKind.i64 N, Value.bool (decide (N < 0)), Value.int IntKind.i64 (p : Int), u92, u93, u94, u95, u96, u97, u98, u99, u100], defers := [] } ∧ Hid (Below V15.heap.size V15 w') ∧ Hid (GD w' bC nz) ∧ Hid (V15.heap.size ≤ bC ∧ True) ∧ Hid (GD w' bE nz) ∧ Hid (V15.heap.size ≤ bE ∧ True) ∧ Hid (bC ≠ bE ∧ True)) #[true, true, true, false, false, true, true, true, false, false, false, true, true, true, false, false, false, false, true, true, false, false] 11 ?F ?main
    case F =>
      intro a' w' hI
      obtain ⟨bC, bE, rfl, FB, GC, LC, GE', LE', NEb⟩ := hI
      refine wpAnyH_ready (rs := [3]) (by kernel_rfl) (by simp) ?_
      refine AllReadyH.cons (o := _) (at_of rfl) (fun K hK => ?_) ?_
      · go_simp
        refine (OM.out _).mono ?_
        rintro r wn ⟨q1, rfl, hq, hb⟩
        have F1n := Lib.hid hq
        have FBn := Lib.hid (bl_thru FB.out (Nat.le_refl _) hb)
        have GCn := Lib.hid (GC.out.below hb)
        have LCn := LC
        have GE'n := Lib.hid (GE'.out.below hb)
        have LE'n := LE'
        have NEbn := NEb
        dsimp only
        refine hK.out _ _ (CT.out _ FBn.out) (fun _ => ?_)
        try simp only [Act.put, List.setIfInBounds_toArray, List.set_cons_zero, List.set_cons_succ]
        exact F111.out _ _ ⟨_, _, _, rfl, FBn, F1n, GCn, LCn, GE'n, LE'n, NEbn⟩
      exact AllReadyH.nil
    case main =>
    intro hF'
    have F011 := Lib.hid hF'
    clear hF'
    refine use_F (fun a' w' => ∃ (bC : Nat), a' = { tmps := #[Value.agg #[Value.bool g, Value.slice a1 n1 c1, Value.int IntKind.i64 e], Value.int IntKind.i64 (p : Int), Value.pointer (some { block := w.heap.size, off := 0 }), undef, Value.pointer (some { block := w.heap.size + 1, off := 0 }), Value.pointer (some { block := w.heap.size + 1 + 1, off := 0 }), Value.int IntKind.i64 (L : Int), Value.slice y1 y2 y3, Value.int IntKind.i64 N, Value.slice z1 z2 z3, Value.bool G, Value.pointer (some { block := bA, off := 0 }), Value.pointer (some { block := bA + 1, off := 0 }), Value.pointer (some { block := bT, off := 0 }), Value.int IntKind.u64 (M : Int), Value.pointer (some { block := bC, off := 0 }), undef, u17, u18, u19, u20, u21, u22, u23, u24, u25, u26, u27, u28, u29, u30, u31, u32, u33, u34, u35, u36, u37, u38, u39, u40, u41, u42, u43, u44, u45, u46, u47, u48, u49, u50, u51, u52, u53, u54, Value.tuple #[Value.agg #[Value.bool A.neg, Value.slice e1 f1 g1, Value.int IntKind.i64 A.e], Value.agg #[Value.bool B.neg, Value.slice e2 f2 g2, Value.int IntKind.i64 B.e]], Value.slice z1 z2 z3, Value.pointer (some { block := w.heap.size, off := 1 }), Value.slice a1 n1 c1, Value.slice y1 y2 y3, v10, Value.int IntKind.i64 (p : Int), v11, Value.bool G, Value.int IntKind.i64 (p : Int), Value.tuple #[Value.agg #[Value.bool A.neg, Value.slice e1 f1 g1, Value.int IntKind.i64 A.e], Value.agg #[Value.bool B.neg, Value.slice e2 f2 g2, Value.int IntKind.i64 B.e]], Value.agg #[Value.bool A.neg, Value.slice e1 f1 g1, Value.int IntKind.i64 A.e], Value.agg #[Value.bool B.neg, Value.slice e2 f2 g2, Value.int IntKind.i64 B.e], v13, v14, Value.int IntKind.i64 (p : Int), Value.agg #[Value.slice t1 t2 t3, Value.slice t4 t5 t6], Value.int IntKind.i64 N, Value.int IntKind.i64 N, Value.int IntKind.i64 (-N), Value.int IntKind.i64 (M : Int), Value.int IntKind.u64 (M : Int), u77, Value.pointer (some { block := bT, off := 0 }), Value.slice t1 t2 t3, Value.int IntKind.u64 (M : Int), u81, u82, Value.pointer (some { block := bT, off := 1 }), Value.slice t4 t5 t6, Value.int IntKind.u64 (M : Int), u86, u87, u88, Value.int IntKind.i64 N, Value.bool (decide (N < 0)), Value.int IntKind.i64 (p : Int), u92, u93, u94, u95, u96, u97, u98, u99, u100], defers := [] } ∧ Hid (Below V15.heap.size V15 w') ∧ Hid (GD w' bC nz) ∧ Hid (V15.heap.size ≤ bC ∧ True)) #[true, true, true, false, false, true, true, true, false, false, false, true, true, true, false, false, false, false, true, false, false, false] 12 ?F ?main
    case F =>
      intro a' w' hI
      obtain ⟨bC, rfl, FB, GC, LC⟩ := hI
      refine wpAnyH_ready (rs := [3, 19]) (by kernel_rfl) (by simp) ?_
      refine AllReadyH.cons (o := _) (at_of rfl) (fun K hK => ?_) ?_
      · go_simp
        refine (OM.out _).mono ?_
        rintro r wn ⟨q1, rfl, hq, hb⟩
        have F1n := Lib.hid hq
        have FBn := Lib.hid (bl_thru FB.out (Nat.le_refl _) hb)
        have GCn := Lib.hid (GC.out.below hb)
        have LCn := LC
        dsimp only
        refine hK.out _ _ (CT.out _ FBn.out) (fun _ => ?_)
        try simp only [Act.put, List.setIfInBounds_toArray, List.set_cons_zero, List.set_cons_succ]
        exact F110.out _ _ ⟨_, _, rfl, FBn, F1n, GCn, LCn⟩
      refine AllReadyH.cons (o := _) (at_of rfl) (fun K hK => ?_) ?_
      · have hlt := FB.out.size
        go_simp
        refine hK.out _ _ (CT.out _ (bl_a1 FB.out _)) (fun _ => ?_)
        try simp only [Act.put, List.setIfInBounds_toArray, List.set_cons_zero, List.set_cons_succ]
        have FBn := Lib.hid (bl_a1 FB.out (.cells #[.bool false, .slice none 0 0, .int .i64 0] 24))
        have GCn := Lib.hid (GC.out.alloc (.cells #[.bool false, .slice none 0 0, .int .i64 0] 24))
        have LCn := LC
        have GE'n := Lib.hid (GD.nil w')
        have LE'n : Hid (V15.heap.size ≤ w'.heap.size ∧ True) := Lib.hid ⟨hlt, trivial⟩
        have NEbn := Lib.hid (show bC ≠ w'.heap.size ∧ True from ⟨by have := GC.out.lt; omega, trivial⟩)
        exact F011.out _ _ ⟨_, _, rfl, FBn, GCn, LCn, GE'n, LE'n, NEbn⟩
      exact AllReadyH.nil
    case main =>
    intro hF'
    have F010 := Lib.hid hF'
    clear hF'
    refine use_F (fun a' w' => ∃ (bE : Nat), a' = { tmps := #[Value.agg #[Value.bool g, Value.slice a1 n1 c1, Value.int IntKind.i64 e], Value.int IntKind.i64 (p : Int), Value.pointer (some { block := w.heap.size, off := 0 }), undef, Value.pointer (some { block := w.heap.size + 1, off := 0 }), Value.pointer (some { block := w.heap.size + 1 + 1, off := 0 }), Value.int IntKind.i64 (L : Int), Value.slice y1 y2 y3, Value.int IntKind.i64 N, Value.slice z1 z2 z3, Value.bool G, Value.pointer (some { block := bA, off := 0 }), Value.pointer (some { block := bA + 1, off := 0 }), Value.pointer (some { block := bT, off := 0 }), Value.int IntKind.u64 (M : Int), undef, Value.pointer (some { block := bE, off := 0 }), u17, u18, u19, u20, u21, u22, u23, u24, u25, u26, u27, u28, u29, u30, u31, u32, u33, u34, u35, u36, u37, u38, u39, u40, u41, u42, u43, u44, u45, u46, u47, u48, u49, u50, u51, u52, u53, u54, Value.tuple #[Value.agg #[Value.bool A.neg, Value.slice e1 f1 g1, Value.int IntKind.i64 A.e], Value.agg #[Value.bool B.neg, Value.slice e2 f2 g2, Value.int IntKind.i64 B.e]], Value.slice z1 z2 z3, Value.pointer (some { block := w.heap.size, off := 1 }), Value.slice a1 n1 c1, Value.slice y1 y2 y3, v10, Value.int IntKind.i64 (p : Int), v11, Value.bool G, Value.int IntKind.i64 (p : Int), Value.tuple #[Value.agg #[Value.bool A.neg, Value.slice e1 f1 g1, Value.int IntKind.i64 A.e], Value.agg #[Value.bool B.neg, Value.slice e2 f2 g2, Value.int IntKind.i64 B.e]], Value.agg #[Value.bool A.neg, Value.slice e1 f1 g1, Value.int IntKind.i64 A.e], Value.agg #[Value.bool B.neg, Value.slice e2 f2 g2, Value.int IntKind.i64 B.e], v13, v14, Value.int IntKind.i64 (p : Int), Value.agg #[Value.slice t1 t2 t3, Value.slice t4 t5 t6], Value.int IntKind.i64 N, Value.int IntKind.i64 N, Value.int IntKind.i64 (-N), Value.int IntKind.i64 (M : Int), Value.int IntKind.u64 (M : Int), u77, Value.pointer (some { block := bT, off := 0 }), Value.slice t1 t2 t3, Value.int IntKind.u64 (M : Int), u81, u82, Value.pointer (some { block := bT, off := 1 }), Value.slice t4 t5 t6, Value.int IntKind.u64 (M : Int), u86, u87, u88, Value.int IntKind.i64 N, Value.bool (decide (N < 0)), Value.int IntKind.i64 (p : Int), u92, u93, u94, u95, u96, u97, u98, u99, u100], defers := [] } ∧ Hid (Below V15.heap.size V15 w') ∧ Hid (GD w' bE nz) ∧ Hid (V15.heap.size ≤ bE ∧ True)) #[true, true, true, false, false, true, true, true, false, false, false, true, true, true, false, false, false, false, false, true, false, false] 12 ?F ?main
    case F =>
      intro a' w' hI
      obtain ⟨bE, rfl, FB, GE', LE'⟩ := hI
      refine wpAnyH_ready (rs := [3, 18]) (by kernel_rfl) (by simp) ?_
      refine AllReadyH.cons (o := _) (at_of rfl) (fun K hK => ?_) ?_
      · go_simp
        refine (OM.out _).mono ?_
        rintro r wn ⟨q1, rfl, hq, hb⟩
        have F1n := Lib.hid hq
        have FBn := Lib.hid (bl_thru FB.out (Nat.le_refl _) hb)
        have GE'n := Lib.hid (GE'.out.below hb)
        have LE'n := LE'
        dsimp only
        refine hK.out _ _ (CT.out _ FBn.out) (fun _ => ?_)
        try simp only [Act.put, List.setIfInBounds_toArray, List.set_cons_zero, List.set_cons_succ]
        exact F101.out _ _ ⟨_, _, rfl, FBn, F1n, GE'n, LE'n⟩
      refine AllReadyH.cons (o := _) (at_of rfl) (fun K hK => ?_) ?_
      · have hlt := FB.out.size
        go_simp
        refine hK.out _ _ (CT.out _ (bl_a1 FB.out _)) (fun _ => ?_)
        try simp only [Act.put, List.setIfInBounds_toArray, List.set_cons_zero, List.set_cons_succ]
        have FBn := Lib.hid (bl_a1 FB.out (.cells #[.bool false, .slice none 0 0, .int .i64 0] 24))
        have GE'n := Lib.hid (GE'.out.alloc (.cells #[.bool false, .slice none 0 0, .int .i64 0] 24))
        have LE'n := LE'
        have GCn := Lib.hid (GD.nil w')
        have LCn : Hid (V15.heap.size ≤ w'.heap.size ∧ True) := Lib.hid ⟨hlt, trivial⟩
        have NEbn := Lib.hid (show w'.heap.size ≠ bE ∧ True from ⟨by have := GE'.out.lt; omega, trivial⟩)
        exact F011.out _ _ ⟨_, _, rfl, FBn, GCn, LCn, GE'n, LE'n, NEbn⟩
      exact AllReadyH.nil
    case main =>
    intro hF'
    have F001 := Lib.hid hF'
    clear hF'
    refine use_F (fun a' w' => a' = { tmps := #[Value.agg #[Value.bool g, Value.slice a1 n1 c1, Value.int IntKind.i64 e], Value.int IntKind.i64 (p : Int), Value.pointer (some { block := w.heap.size, off := 0 }), undef, Value.pointer (some { block := w.heap.size + 1, off := 0 }), Value.pointer (some { block := w.heap.size + 1 + 1, off := 0 }), Value.int IntKind.i64 (L : Int), Value.slice y1 y2 y3, Value.int IntKind.i64 N, Value.slice z1 z2 z3, Value.bool G, Value.pointer (some { block := bA, off := 0 }), Value.pointer (some { block := bA + 1, off := 0 }), Value.pointer (some { block := bT, off := 0 }), Value.int IntKind.u64 (M : Int), undef, undef, u17, u18, u19, u20, u21, u22, u23, u24, u25, u26, u27, u28, u29, u30, u31, u32, u33, u34, u35, u36, u37, u38, u39, u40, u41, u42, u43, u44, u45, u46, u47, u48, u49, u50, u51, u52, u53, u54, Value.tuple #[Value.agg #[Value.bool A.neg, Value.slice e1 f1 g1, Value.int IntKind.i64 A.e], Value.agg #[Value.bool B.neg, Value.slice e2 f2 g2, Value.int IntKind.i64 B.e]], Value.slice z1 z2 z3, Value.pointer (some { block := w.heap.size, off := 1 }), Value.slice a1 n1 c1, Value.slice y1 y2 y3, v10, Value.int IntKind.i64 (p : Int), v11, Value.bool G, Value.int IntKind.i64 (p : Int), Value.tuple #[Value.agg #[Value.bool A.neg, Value.slice e1 f1 g1, Value.int IntKind.i64 A.e], Value.agg #[Value.bool B.neg, Value.slice e2 f2 g2, Value.int IntKind.i64 B.e]], Value.agg #[Value.bool A.neg, Value.slice e1 f1 g1, Value.int IntKind.i64 A.e], Value.agg #[Value.bool B.neg, Value.slice e2 f2 g2, Value.int IntKind.i64 B.e], v13, v14, Value.int IntKind.i64 (p : Int), Value.agg #[Value.slice t1 t2 t3, Value.slice t4 t5 t6], Value.int IntKind.i64 N, Value.int IntKind.i64 N, Value.int IntKind.i64 (-N), Value.int IntKind.i64 (M : Int), Value.int IntKind.u64 (M : Int), u77, Value.pointer (some { block := bT, off := 0 }), Value.slice t1 t2 t3, Value.int IntKind.u64 (M : Int), u81, u82, Value.pointer (some { block := bT, off := 1 }), Value.slice t4 t5 t6, Value.int IntKind.u64 (M : Int), u86, u87, u88, Value.int IntKind.i64 N, Value.bool (decide (N < 0)), Value.int IntKind.i64 (p : Int), u92, u93, u94, u95, u96, u97, u98, u99, u100], defers := [] } ∧ Hid (Below V15.heap.size V15 w')) #[true, true, true, false, false, true, true, true, false, false, false, true, true, true, false, false, false, false, false, false, false, false] 13 ?F ?main
    case F =>
      intro a' w' hI
      obtain ⟨rfl, FB⟩ := hI
      refine wpAnyH_ready (rs := [3, 18, 19]) (by kernel_rfl) (by simp) ?_
      refine AllReadyH.cons (o := _) (at_of rfl) (fun K hK => ?_) ?_
      · go_simp
        refine (OM.out _).mono ?_
        rintro r wn ⟨q1, rfl, hq, hb⟩
        have F1n := Lib.hid hq
        have FBn := Lib.hid (bl_thru FB.out (Nat.le_refl _) hb)
        dsimp only
        refine hK.out _ _ (CT.out _ FBn.out) (fun _ => ?_)
        try simp only [Act.put, List.setIfInBounds_toArray, List.set_cons_zero, List.set_cons_succ]
        exact F100.out _ _ ⟨_, rfl, FBn, F1n⟩
      refine AllReadyH.cons (o := _) (at_of rfl) (fun K hK => ?_) ?_
      · have hlt := FB.out.size
        go_simp
        refine hK.out _ _ (CT.out _ (bl_a1 FB.out _)) (fun _ => ?_)
        try simp only [Act.put, List.setIfInBounds_toArray, List.set_cons_zero, List.set_cons_succ]
        have FBn := Lib.hid (bl_a1 FB.out (.cells #[.bool false, .slice none 0 0, .int .i64 0] 24))
        have GCn := Lib.hid (GD.nil w')
        have LCn : Hid (V15.heap.size ≤ w'.heap.size ∧ True) := Lib.hid ⟨hlt, trivial⟩
        exact F010.out _ _ ⟨_, rfl, FBn, GCn, LCn⟩
      refine AllReadyH.cons (o := _) (at_of rfl) (fun K hK => ?_) ?_
      · have hlt := FB.out.size
        go_simp
        refine hK.out _ _ (CT.out _ (bl_a1 FB.out _)) (fun _ => ?_)
        try simp only [Act.put, List.setIfInBounds_toArray, List.set_cons_zero, List.set_cons_succ]
        have FBn := Lib.hid (bl_a1 FB.out (.cells #[.bool false, .slice none 0 0, .int .i64 0] 24))
        have GE'n := Lib.hid (GD.nil w')
        have LE'n : Hid (V15.heap.size ≤ w'.heap.size ∧ True) := Lib.hid ⟨hlt, trivial⟩
        exact F001.out _ _ ⟨_, rfl, FBn, GE'n, LE'n⟩
      exact AllReadyH.nil
    case main =>
    intro hF'
    have F000 := Lib.hid hF'
    clear hF'
    refine wpAnyH_take (i := 0) (oi := _) (v := ?_) (at_of rfl) (by kernel_rfl) (by kernel_rfl) (by kernel_rfl) (fun _ _ _ h => h) (Or.inl ⟨by rfl, ?_⟩) (CT.out _ (bl_r0 V15).drew) ?_
    rotate_left
    · (intro w hSw; (try dsimp only at hSw); first | (go_simp; done) | (go_simp; with_reducible rfl))
    try simp only [Act.put, List.setIfInBounds_toArray, List.set_cons_zero, List.set_cons_succ]
    refine wpAnyH_take (i := 1) (oi := _) (v := ?_) (at_of rfl) (by kernel_rfl) (by kernel_rfl) (by kernel_rfl) (fun _ _ _ h => h) (Or.inl ⟨by rfl, ?_⟩) (CT.out _ (bl_r0 V15).drew) ?_
    rotate_left
    · (intro w hSw; (try dsimp only at hSw); first | (go_simp; done) | (go_simp; with_reducible rfl))
    try simp only [Act.put, List.setIfInBounds_toArray, List.set_cons_zero, List.set_cons_succ]
    refine wpAnyH_take (i := 2) (oi := _) (v := ?_) (at_of rfl) (by kernel_rfl) (by kernel_rfl) (by kernel_rfl) (fun _ _ _ h => h) (Or.inl ⟨by rfl, ?_⟩) (CT.out _ (bl_r0 V15).drew) ?_
    rotate_left
    · (intro w hSw; (try dsimp only at hSw); first | (go_simp; done) | (go_simp; with_reducible rfl))
    try simp only [Act.put, List.setIfInBounds_toArray, List.set_cons_zero, List.set_cons_succ]
    refine wpAnyH_take (i := 5) (oi := _) (v := ?_) (at_of rfl) (by kernel_rfl) (by kernel_rfl) (by kernel_rfl) (fun _ _ _ h => h) (Or.inl ⟨by rfl, ?_⟩) (CT.out _ (bl_r0 V15).drew) ?_
    rotate_left
    · (intro w hSw; (try dsimp only at hSw); first | (go_simp; done) | (go_simp; with_reducible rfl))
    try simp only [Act.put, List.setIfInBounds_toArray, List.set_cons_zero, List.set_cons_succ]
    refine wpAnyH_take (i := 6) (oi := _) (v := ?_) (at_of rfl) (by kernel_rfl) (by kernel_rfl) (by kernel_rfl) (fun _ _ _ h => h) (Or.inl ⟨by rfl, ?_⟩) (CT.out _ (bl_r0 V15).drew) ?_
    rotate_left
    · (intro w hSw; (try dsimp only at hSw); first | (go_simp; done) | (go_simp; with_reducible rfl))
    try simp only [Act.put, List.setIfInBounds_toArray, List.set_cons_zero, List.set_cons_succ]
    refine wpAnyH_take (i := 7) (oi := _) (v := ?_) (at_of rfl) (by kernel_rfl) (by kernel_rfl) (by kernel_rfl) (fun _ _ _ h => h) (Or.inl ⟨by rfl, ?_⟩) (CT.out _ (bl_r0 V15).drew) ?_
    rotate_left
    · (intro w hSw; (try dsimp only at hSw); first | (go_simp; done) | (go_simp; with_reducible rfl))
    try simp only [Act.put, List.setIfInBounds_toArray, List.set_cons_zero, List.set_cons_succ]
    refine wpAnyH_take (i := 11) (oi := _) (v := ?_) (at_of rfl) (by kernel_rfl) (by kernel_rfl) (by kernel_rfl) (fun _ _ _ h => h) (Or.inl ⟨by rfl, ?_⟩) (CT.out _ (bl_r0 V15).drew) ?_
    rotate_left
    · (intro w hSw; (try dsimp only at hSw); first | (go_simp; done) | (go_simp; with_reducible rfl))
    try simp only [Act.put, List.setIfInBounds_toArray, List.set_cons_zero, List.set_cons_succ]
    refine wpAnyH_take (i := 12) (oi := _) (v := ?_) (at_of rfl) (by kernel_rfl) (by kernel_rfl) (by kernel_rfl) (fun _ _ _ h => h) (Or.inl ⟨by rfl, ?_⟩) (CT.out _ (bl_r0 V15).drew) ?_
    rotate_left
    · (intro w hSw; (try dsimp only at hSw); first | (go_simp; done) | (go_simp; with_reducible rfl))
    try simp only [Act.put, List.setIfInBounds_toArray, List.set_cons_zero, List.set_cons_succ]
    refine wpAnyH_take (i := 13) (oi := _) (v := ?_) (at_of rfl) (by kernel_rfl) (by kernel_rfl) (by kernel_rfl) (fun _ _ _ h => h) (Or.inl ⟨by rfl, ?_⟩) (CT.out _ (bl_r0 V15).drew) ?_
    rotate_left
    · (intro w hSw; (try dsimp only at hSw); first | (go_simp; done) | (go_simp; with_reducible rfl))
    try simp only [Act.put, List.setIfInBounds_toArray, List.set_cons_zero, List.set_cons_succ]
    exact F000.out _ _ ⟨rfl, Lib.hid (bl_r0 V15).drew⟩
  case rest =>
  obtain ⟨bC, bE, rfl, rfl, hfin⟩ := hcut
  obtain ⟨hne, hC1, hE1, hbl, gC, gE⟩ := hfin.out
  obtain ⟨xc1, xc2, xc3, hXC, hNC⟩ := gC
  obtain ⟨xe1, xe2, xe3, hXE, hNE⟩ := gE
  have P1 := Lib.hid (fun vc vd w' ht hc hd => dplus_any vc vd A C (p + 26) w' ht hc hd BD1.out.1.1 BD3.out.1.1 (by omega) (by have := BD1.out.1.2.1; omega) (by have := BD1.out.1.2.2; omega) (by have := BD3.out.1.2.1; omega) (by have := BD3.out.1.2.2; omega))
  have P2 := Lib.hid (fun vc vd w' ht hc hd => dplus_any vc vd B E (p + 26) w' ht hc hd BD2.out.1.1 BD4.out.1.1 (by omega) (by have := BD2.out.1.2.1; omega) (by have := BD2.out.1.2.2; omega) (by have := BD4.out.1.2.1; omega) (by have := BD4.out.1.2.2; omega))
  obtain ⟨S1, hS1⟩ : ∃ S1, S1 = plus A C := ⟨_, rfl⟩
  obtain ⟨S2, hS2⟩ : ∃ S2, S2 = plus B E := ⟨_, rfl⟩
  rw [← hS1] at P1
  rw [← hS2] at P2
  have HSS := Lib.hid (show (S1 = plus A C ∧ S2 = plus B E) ∧ True from ⟨⟨hS1, hS2⟩, trivial⟩)
  have YA := Lib.hid (XA15.out.below hbl)
  have YB := Lib.hid (XB15.out.below hbl)
  have YC := Lib.hid hXC
  have YE := Lib.hid hXE
  have MA := Lib.hid (NA15.out.below hbl)
  have MB := Lib.hid (NB15.out.below hbl)
  have MC := Lib.hid hNC
  have ME := Lib.hid hNE
  have RR := Lib.hid (R15.out.below hbl)
  have SS := Lib.hid (S15.out.below hbl)
  have BB := Lib.hid (B15.out.trans (hbl.mono B15.out.size))
  have HTc0 := HT15.out.below hbl
  have HTc := Lib.hid (HTc0.below ((Below.refl wc.heap.size wc).drew))
  clear HTc0
  have n1 : Hid ((w.heap.size + 1 ≠ bA ∧ w.heap.size + 1 ≠ bA + 1 ∧ w.heap.size + 1 ≠ bC ∧ w.heap.size + 1 ≠ bE ∧ w.heap.size + 1 + 1 ≠ bA ∧ w.heap.size + 1 + 1 ≠ bA + 1 ∧ w.heap.size + 1 + 1 ≠ bC ∧ w.heap.size + 1 + 1 ≠ bE) ∧ True) := Lib.hid ⟨by
    have h1 := S15.out.lt
    have h2 := hz12'.out.1
    omega, trivial⟩
  clear hS1 hS2 hXC hXE hNC hNE hne hC1 hE1 hbl hfin XA15 XB15 NA15 NB15 R15 S15 B15 NT1 NT2 XT15 TM1 TM2 SGT OM CT HT15 TB BD1 BD2 BD3 BD4
  go_wp2_with fail
  obtain ⟨a0, a1', a2', -, -, -⟩ := YA.out.drew.cells
  obtain ⟨b0, b1, b2, -, -, -⟩ := YB.out.drew.cells
  obtain ⟨c0, c1', c2', -, -, -⟩ := YC.out.drew.cells
  obtain ⟨d0, d1, d2, -, -, -⟩ := YE.out.drew.cells
  go_region_held3 (fun w' => (w'.cell? ⟨bA, 0, none⟩ = some (.bool A.neg) ∧ w'.cell? ⟨bA, 1, none⟩ = some (.slice e1 f1 g1) ∧ w'.cell? ⟨bA, 2, none⟩ = some (.int .i64 A.e)) ∧ (w'.cell? ⟨bA + 1, 0, none⟩ = some (.bool B.neg) ∧ w'.cell? ⟨bA + 1, 1, none⟩ = some (.slice e2 f2 g2) ∧ w'.cell? ⟨bA + 1, 2, none⟩ = some (.int .i64 B.e)) ∧ (w'.cell? ⟨bC, 0, none⟩ = some (.bool C.neg) ∧ w'.cell? ⟨bC, 1, none⟩ = some (.slice xc1 xc2 xc3) ∧ w'.cell? ⟨bC, 2, none⟩ = some (.int .i64 C.e)) ∧ (w'.cell? ⟨bE, 0, none⟩ = some (.bool E.neg) ∧ w'.cell? ⟨bE, 1, none⟩ = some (.slice xe1 xe2 xe3) ∧ w'.cell? ⟨bE, 2, none⟩ = some (.int .i64 E.e)))
    (first
      | with_reducible exact ⟨⟨a0, a1', a2'⟩, ⟨b0, b1, b2⟩, ⟨c0, c1', c2'⟩, ⟨d0, d1, d2⟩⟩
      | (obtain ⟨a0, a1', a2', -, -, -⟩ := (YA.out.drew.below hb1).cells
         obtain ⟨b0, b1, b2, -, -, -⟩ := (YB.out.drew.below hb1).cells
         obtain ⟨c0, c1', c2', -, -, -⟩ := (YC.out.drew.below hb1).cells
         obtain ⟨d0, d1, d2, -, -, -⟩ := (YE.out.drew.below hb1).cells
         with_reducible exact ⟨⟨a0, a1', a2'⟩, ⟨b0, b1, b2⟩, ⟨c0, c1', c2'⟩, ⟨d0, d1, d2⟩⟩)
      | (obtain ⟨a0, a1', a2', -, -, -⟩ := ((YA.out.drew.below HB1.out).below hb2).cells
         obtain ⟨b0, b1, b2, -, -, -⟩ := ((YB.out.drew.below HB1.out).below hb2).cells
         obtain ⟨c0, c1', c2', -, -, -⟩ := ((YC.out.drew.below HB1.out).below hb2).cells
         obtain ⟨d0, d1, d2, -, -, -⟩ := ((YE.out.drew.below HB1.out).below hb2).cells
         with_reducible exact ⟨⟨a0, a1', a2'⟩, ⟨b0, b1, b2⟩, ⟨c0, c1', c2'⟩, ⟨d0, d1, d2⟩⟩)
      | (obtain ⟨a0, a1', a2', -, -, -⟩ := (ZA.out.st (b' := w.heap.size + 1) (Ne.symm n1.out.1.1) (.bool S1.neg) (.slice k1 k2 k3) (.int .i64 S1.e)).cells
         obtain ⟨b0, b1, b2, -, -, -⟩ := (ZB.out.st (b' := w.heap.size + 1) (Ne.symm n1.out.1.2.1) (.bool S1.neg) (.slice k1 k2 k3) (.int .i64 S1.e)).cells
         obtain ⟨c0, c1', c2', -, -, -⟩ := (ZC.out.st (b' := w.heap.size + 1) (Ne.symm n1.out.1.2.2.1) (.bool S1.neg) (.slice k1 k2 k3) (.int .i64 S1.e)).cells
         obtain ⟨d0, d1, d2, -, -, -⟩ := (ZE.out.st (b' := w.heap.size + 1) (Ne.symm n1.out.1.2.2.2.1) (.bool S1.neg) (.slice k1 k2 k3) (.int .i64 S1.e)).cells
         with_reducible exact ⟨⟨a0, a1', a2'⟩, ⟨b0, b1, b2⟩, ⟨c0, c1', c2'⟩, ⟨d0, d1, d2⟩⟩)
      | (obtain ⟨a0, a1', a2', -, -, -⟩ := ((ZA.out.st (b' := w.heap.size + 1) (Ne.symm n1.out.1.1) (.bool S1.neg) (.slice k1 k2 k3) (.int .i64 S1.e)).st (b' := w.heap.size + 1 + 1) (Ne.symm n1.out.1.2.2.2.2.1) (.bool S2.neg) (.slice k4 k5 k6) (.int .i64 S2.e)).cells
         obtain ⟨b0, b1, b2, -, -, -⟩ := ((ZB.out.st (b' := w.heap.size + 1) (Ne.symm n1.out.1.2.1) (.bool S1.neg) (.slice k1 k2 k3) (.int .i64 S1.e)).st (b' := w.heap.size + 1 + 1) (Ne.symm n1.out.1.2.2.2.2.2.1) (.bool S2.neg) (.slice k4 k5 k6) (.int .i64 S2.e)).cells
         obtain ⟨c0, c1', c2', -, -, -⟩ := ((ZC.out.st (b' := w.heap.size + 1) (Ne.symm n1.out.1.2.2.1) (.bool S1.neg) (.slice k1 k2 k3) (.int .i64 S1.e)).st (b' := w.heap.size + 1 + 1) (Ne.symm n1.out.1.2.2.2.2.2.2.1) (.bool S2.neg) (.slice k4 k5 k6) (.int .i64 S2.e)).cells
         obtain ⟨d0, d1, d2, -, -, -⟩ := ((ZE.out.st (b' := w.heap.size + 1) (Ne.symm n1.out.1.2.2.2.1) (.bool S1.neg) (.slice k1 k2 k3) (.int .i64 S1.e)).st (b' := w.heap.size + 1 + 1) (Ne.symm n1.out.1.2.2.2.2.2.2.2) (.bool S2.neg) (.slice k4 k5 k6) (.int .i64 S2.e)).cells
         with_reducible exact ⟨⟨a0, a1', a2'⟩, ⟨b0, b1, b2⟩, ⟨c0, c1', c2'⟩, ⟨d0, d1, d2⟩⟩))
    (first
      | (go_at_call_of 61 (Value.slice e1 f1 g1)
         refine (P1.out _ _ _ HTc.out ⟨_, rfl, MA.out.dr⟩ ⟨_, rfl, MC.out.dr⟩).mono ?_
         rintro r u1 ⟨v1, rfl, hu1, hb1⟩
         obtain ⟨k1, k2, k3, rfl, hv1⟩ := hu1.parts
         have HB1 := Lib.hid hb1
         have Q1 := Lib.hid hv1
         have C1 := Lib.hid (bl_thru BB.out.drew (Nat.le_refl _) hb1))
      | (go_at_call_of 61 (Value.slice e2 f2 g2)
         refine (P2.out _ _ _ (HTc.out.below HB1.out) ⟨_, rfl, MB.out.dr.below HB1.out⟩ ⟨_, rfl, ME.out.dr.below HB1.out⟩).mono ?_
         rintro r u2 ⟨v2, rfl, hu2, hb2⟩
         obtain ⟨k4, k5, k6, rfl, hv2⟩ := hu2.parts
         have Q2 := Lib.hid hv2
         have Q12 := Lib.hid (Q1.out.below hb2)
         have C2 := Lib.hid (bl_thru C1.out (Nat.le_refl _) hb2)
         have ZA := Lib.hid ((YA.out.drew.below HB1.out).below hb2)
         have ZB := Lib.hid ((YB.out.drew.below HB1.out).below hb2)
         have ZC := Lib.hid ((YC.out.drew.below HB1.out).below hb2)
         have ZE := Lib.hid ((YE.out.drew.below HB1.out).below hb2)
         have RR2 := Lib.hid ((RR.out.drew.below HB1.out).below hb2)
         have SS2 := Lib.hid ((SS.out.drew.below HB1.out).below hb2)
         obtain ⟨_, _, _, i0, i1, i2, i3, i4, i5⟩ := RR2.out.cells
         obtain ⟨_, _, _, j0, j1, j2, j3, j4, j5⟩ := RR2.out.two SS2.out (by omega) (.bool S1.neg) (.slice k1 k2 k3) (.int .i64 S1.e)))
  clear a0 a1' a2' b0 b1 b2 c0 c1' c2' d0 d1 d2 i0 i1 i2 i3 i4 i5 j0 j1 j2 j3 j4 j5 hb1 hb2 hu1 hu2 hv1 hv2
  rename_i hHeld1
  clear hHeld1
  obtain ⟨h1, h2, h3, h4, h5, h6⟩ := fin_cc (V := w) C2.out RR2.out SS2.out (by omega) (by omega) (by omega) Q12.out Q2.out
  obtain ⟨W, hW⟩ : ∃ W, W = ((((((u2.setCell ⟨w.heap.size + 1, 0, none⟩ (.bool S1.neg)).setCell ⟨w.heap.size + 1, 1, none⟩ (.slice k1 k2 k3)).setCell ⟨w.heap.size + 1, 2, none⟩ (.int .i64 S1.e)).setCell ⟨w.heap.size + 1 + 1, 0, none⟩ (.bool S2.neg)).setCell ⟨w.heap.size + 1 + 1, 1, none⟩ (.slice k4 k5 k6)).setCell ⟨w.heap.size + 1 + 1, 2, none⟩ (.int .i64 S2.e)) := ⟨_, rfl⟩
  rw [← hW] at h4 h5 h6 ⊢
  clear hW
  simp only [Exit.then]
  clear Q1 Q2 Q12 P1 P2 HTc YA YB YC YE MA MB MC ME RR SS BB C1 C2 ZA ZB ZC ZE RR2 SS2
  go_step
  go_step
  obtain ⟨l1, l2, l3, hl, hln⟩ := h5
  obtain ⟨o1, o2, o3, ho, hon⟩ := h6
  have HLN := Lib.hid hln
  have HON := Lib.hid hon
  have BW := Lib.hid h4
  obtain ⟨s0, s1, s2, -, -, -⟩ := hl.cells
  obtain ⟨r0, r1, r2, -, -, -⟩ := ho.cells
  clear hl ho hln hon h4
  refine bodyPost_ret (v := .tuple #[.agg #[.bool S1.neg, .slice l1 l2 l3, .int .i64 S1.e], .agg #[.bool S2.neg, .slice o1 o2 o3, .int .i64 S2.e]]) (by simp [results, Tryd.results93, go_sem, s0, s1, s2, r0, r1, r2]) rfl ?_
  refine ⟨k, j, HK.out.1.1, HJ.out.1.1, HK.out.1.2, HJ.out.1.2, _, _, rfl, ?_, ?_, BW.out⟩
  · rw [← HAB.out.1.1, ← HCE.out.1.1, ← HSS.out.1.1]; exact ⟨_, rfl, HLN.out⟩
  · rw [← HAB.out.1.2, ← HCE.out.1.2, ← HSS.out.1.2]; exact ⟨_, rfl, HON.out⟩
end Go.Proofs.YtmpdbmaokbhcjaaDoor
