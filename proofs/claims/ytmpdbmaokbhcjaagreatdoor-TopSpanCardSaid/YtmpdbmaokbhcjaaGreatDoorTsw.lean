/-
  SOME OF MY TEXTS in one: Tl Sgm Ts Ti2 TopSpanW. Each says what it proves.
-/
import Derived.Test.YtmpdbmaokbhcjaaGreatDoorZu
import Derived.Test.YtmpdbmaokbhcjaaGreatDoorYfg
import Derived.Test.YtmpdbmaokbhcjaaGreatDoorYjk
import Derived.Test.YtmpdbmaokbhcjaaGreatDoorHg
import Derived.Test.YtmpdbmaokbhcjaaGreatDoorBa
import Derived.Test.YtmpdbmaokbhcjaaGreatDoorBp
import Derived.Test.YtmpdbmaokbhcjaaGreatDoorCn
import Derived.Test.YtmpdbmaokbhcjaaGreatDoorBe
import Derived.Test.YtmpdbmaokbhcjaaGreatDoorBw
set_option linter.unusedVariables false
set_option linter.unusedSimpArgs false
/-
  THE WALK of ulptop's lives.
-/
namespace Go.Proofs.YtmpdbmaokbhcjaaGreatDoor
open Go.RowKit Nt Fm Fl

def tlx : Int := 4599075939470750516
theorem tl_lg : lgD (shD 4599075939470750516) = -1 := lgD_eq (by unfold IsLg; decide +kernel)
theorem tl_k (n : Nat) : shK 4599075939470750516 n = -(n : Int) := by unfold shK; rw [tl_lg]; omega
def tlQ (n : Nat) : Nat := dN (shD 4599075939470750516) (n : Int) / dD (shD 4599075939470750516) (n : Int)
theorem tl_q (n : Nat) : shQ 4599075939470750516 n = tlQ n := by unfold shQ tlQ; rw [tl_k, Int.neg_neg]
theorem tl_st (n : Nat) : shSt 4599075939470750516 n = (ftB (tlQ n) (lmL 4599075939470750516) (4 * lmM 4599075939470750516 + 2) (-(n : Int)) (lmE 4599075939470750516) (shEv 4599075939470750516) || ftB (tlQ n + 1) (lmL 4599075939470750516) (4 * lmM 4599075939470750516 + 2) (-(n : Int)) (lmE 4599075939470750516) (shEv 4599075939470750516)) := by
  unfold shSt shFa shFc
  rw [tl_q, tl_k]
theorem tl_no : ∀ i, 1 ≤ i → i < 17 → shSt 4599075939470750516 i = false := by
  have key : ∀ i : Fin 17, 1 ≤ i.val → (ftB (tlQ i.val) (lmL 4599075939470750516) (4 * lmM 4599075939470750516 + 2) (-((i.val : Nat) : Int)) (lmE 4599075939470750516) (shEv 4599075939470750516) || ftB (tlQ i.val + 1) (lmL 4599075939470750516) (4 * lmM 4599075939470750516 + 2) (-((i.val : Nat) : Int)) (lmE 4599075939470750516) (shEv 4599075939470750516)) = false := by decide +kernel
  intro i h1 h2
  rw [tl_st]
  exact key ⟨i, h2⟩ h1
theorem tl_c : shC 4599075939470750516 17 = false := by
  unfold shC shFa shFc shHf
  rw [tl_q, tl_k]
  decide +kernel
theorem tl_digits : shT 4599075939470750516 = [51, 48, 48, 48, 48, 48, 48, 48, 48, 48, 48, 48, 48, 48, 48, 48, 52] ∧ shX 4599075939470750516 = -17 := by
  obtain ⟨e1, e2⟩ := sh_end (x := 4599075939470750516) (by omega) (by omega) (by decide) (n := 17) (by omega) (by rw [tl_st]; decide +kernel) tl_no tl_c
  rw [tl_q] at e1 e2
  have e3 : shT 4599075939470750516 = [51, 48, 48, 48, 48, 48, 48, 48, 48, 48, 48, 48, 48, 48, 48, 48, 52] := e1.trans (by decide +kernel)
  refine ⟨e3, ?_⟩
  rw [e2, e3, tl_k]
  decide +kernel
theorem tl_text : stT 4599075939470750516 = [48, 46, 51, 48, 48, 48, 48, 48, 48, 48, 48, 48, 48, 48, 48, 48, 48, 48, 52] := by
  unfold stT
  rw [if_neg (by decide), if_neg (by decide), if_neg (by decide), tl_digits.1, tl_digits.2]
  decide +kernel
theorem tl_hex : hxT 4599075939470750516 = [48, 120, 49, 46, 51, 51, 51, 51, 51, 51, 51, 51, 51, 51, 51, 51, 52, 112, 45, 50] := by
  have hc : fcls 4599075939470750516 = 3 := by kernel_rfl
  have hd : valD 4599075939470750516 = ⟨false, 1351079888211149, -52⟩ := by kernel_rfl
  have hq : hxq ⟨false, 1351079888211149, -52⟩ = 13 := by kernel_rfl
  unfold hxT
  rw [hc, if_neg (by decide), if_neg (by decide), hd, hq]
  unfold hxW hxE
  have hp : hxp ⟨false, 1351079888211149, -52⟩ = -2 := by kernel_rfl
  rw [hp, show Lib.itoa (-2) = [45, 50] by unfold Lib.itoa; rw [if_pos (by omega), show Int.natAbs (-2) = 2 from rfl, dec_small (r := 2) (by omega)]; rfl]
  first | rfl | decide | decide +kernel
theorem tl_two : readE [48, 46, 50] 0 = 0 ∧ readV [48, 46, 50] 0 = 4596373779694328218 ∧ readC [48, 46, 50] 0 = true := by
  refine ⟨?_, ?_, ?_⟩ <;> kernel_rfl
theorem tl_sum : adV 4591870180066957722 4596373779694328218 0 = 4599075939470750516 ∧ adC 4591870180066957722 4596373779694328218 0 = true ∧ adE 0 = 0 := by
  refine ⟨?_, ?_, ?_⟩ <;> kernel_rfl
set_option maxRecDepth 100000 in
set_option maxHeartbeats 8000000 in
theorem topLives_any (w : World) (hT : Tab w) (hT10 : Tab10 w) :
    Calls Tryz.prog 13 #[] w fun e w' => e = .returned (.bool true) ∧ Below w.heap.size w w' := by
  have N1 := Lib.hid (fun w' h => rnumber_any [48, 46, 49] ⟨#[48, 46, 49]⟩ rfl 0 w' h)
  rw [rl_one.1, rl_one.2.1, rl_one.2.2] at N1
  have N2 := Lib.hid (fun w' h => rnumber_any [48, 46, 50] ⟨#[48, 46, 50]⟩ rfl 0 w' h)
  rw [tl_two.1, tl_two.2.1, tl_two.2.2] at N2
  unfold RetUBE at N1 N2
  have AD := Lib.hid (fun w' h => sadd_any 4591870180066957722 4596373779694328218 0 (by omega) (by omega) (by omega) (by omega) w' h)
  rw [tl_sum.1, tl_sum.2.1, tl_sum.2.2] at AD
  have TX := Lib.hid (fun w' h1 h2 => stext_any 4599075939470750516 (by omega) (by omega) w' h1 h2)
  rw [tl_text] at TX
  have HX := Lib.hid (fun w' h1 h2 => htext_any 4599075939470750516 (by omega) (by omega) w' h1 h2)
  rw [tl_hex] at HX
  unfold RetT at HX
  have HT := Lib.hid hT
  have H10 := Lib.hid hT10
  have B : Hid (Below w.heap.size w w) := Lib.hid (Below.refl w.heap.size w)
  clear hT hT10
  go_enter Tryz.func13, Tryz.ntmps13
  go_wp2_with (first
    | (go_at_call 19; first
        | ((with_reducible refine (N1.out _ HT.out).mono ?_); rintro r w1 ⟨rfl, hb⟩; replace HT := Lib.hid (HT.out.below hb); replace H10 := Lib.hid (H10.out.below hb); replace B := Lib.hid (bl_thru B.out (Nat.le_refl _) hb); clear hb)
        | ((with_reducible refine (N2.out _ HT.out).mono ?_); rintro r w1 ⟨rfl, hb⟩; replace HT := Lib.hid (HT.out.below hb); replace H10 := Lib.hid (H10.out.below hb); replace B := Lib.hid (bl_thru B.out (Nat.le_refl _) hb); clear hb))
    | (go_at_call 40; refine (AD.out _ HT.out).mono ?_; rintro r w1 ⟨rfl, hb⟩; replace HT := Lib.hid (HT.out.below hb); replace H10 := Lib.hid (H10.out.below hb); replace B := Lib.hid (bl_thru B.out (Nat.le_refl _) hb); clear hb)
    | (go_at_call 14; ((with_reducible refine (okT3_bl _ _ _ _ _ (by simp)).mono ?_); rintro r w1 ⟨rfl, hb⟩; replace HT := Lib.hid (HT.out.below hb); replace H10 := Lib.hid (H10.out.below hb); replace B := Lib.hid (bl_thru B.out (Nat.le_refl _) hb); clear hb))
    | (go_at_call 25; refine (TX.out _ HT.out H10.out).mono ?_; rintro r w1 ⟨rfl, hb⟩; replace HT := Lib.hid (HT.out.below hb); replace H10 := Lib.hid (H10.out.below hb); replace B := Lib.hid (bl_thru B.out (Nat.le_refl _) hb); clear hb)
    | (go_at_call 45; refine (HX.out _ HT.out H10.out).mono ?_; rintro r w1 ⟨rfl, hb⟩; replace HT := Lib.hid (HT.out.below hb); replace H10 := Lib.hid (H10.out.below hb); replace B := Lib.hid (bl_thru B.out (Nat.le_refl _) hb); clear hb))
  all_goals first
    | (go_ret; exact ⟨rfl, B.out⟩; done)
    | (go_ret; refine ⟨?_, B.out⟩; simp_all [ok3]; done)
    | (exfalso; simp_all [ok3]; done)
    | trace_state
end Go.Proofs.YtmpdbmaokbhcjaaGreatDoor

/-
  PLAIN: sums and products of spans: what is told is a span; by ranks.
-/
namespace Go.Proofs.YtmpdbmaokbhcjaaGreatDoor
open Go.RowKit Nt Fm Fl

theorem allV_u {x y mode : Int} (ux : U64 x) (uy : U64 y) : U64 (allV [x, y] mode) := allV_bd _ (by simp; exact ⟨ux, uy⟩) _
theorem adV_u {x y mode : Int} (ux : U64 x) (uy : U64 y) : U64 (adV x y mode) := by
  have := allV_u (mode := mode) ux uy
  unfold adV; split
  · exact this
  · unfold U64; omega
theorem cnS_bd {ok : Int → Int → Bool} {v : Int → Int → Int → Int} (hv : ∀ x y m, U64 (v x y m)) {s : Cn} (x y : Int) (h : U64 s.lo ∧ U64 s.hi) : U64 (cnS ok v s x y).lo ∧ U64 (cnS ok v s x y).hi := by
  unfold cnS; split
  · refine ⟨?_, ?_⟩
    · show U64 (if _ then _ else _); split
      · exact hv _ _ _
      · exact h.1
    · show U64 (if _ then _ else _); split
      · exact hv _ _ _
      · exact h.2
  · exact h
theorem cn_u {ok : Int → Int → Bool} {v : Int → Int → Int → Int} (hv : ∀ x y m, U64 (v x y m)) (a b c d : Int) : U64 (cnLo ok v a b c d) ∧ U64 (cnHi ok v a b c d) := by
  have h := cnS_bd hv (ok := ok) b d (cnS_bd hv (ok := ok) b c (cnS_bd hv (ok := ok) a d (cnS_bd hv (ok := ok) (s := ⟨true, 0, 0⟩) a c ⟨by unfold U64; decide, by unfold U64; decide⟩)))
  exact ⟨plV_u h.1, plV_u h.2⟩
theorem u_ite {p : Prop} [Decidable p] {x : Int} (h : U64 x) : U64 (if p then x else 0) := by
  split
  · exact h
  · exact ⟨by decide, by decide⟩
theorem sa_u {a b c d : Int} (ua : U64 a) (ub : U64 b) (uc : U64 c) (ud : U64 d) : U64 (saLo a b c d) ∧ U64 (saHi a b c d) :=
  ⟨u_ite (plV_u (adV_u ua uc)), u_ite (plV_u (adV_u ub ud))⟩
theorem ng_u {x : Int} (h : U64 x) : U64 (plV (fneg x)) := plV_u (fneg_in h.1 h.2)
theorem adV_12 (x y : Int) : adV x y 1 = allV [x, y] 1 ∧ adV x y 2 = allV [x, y] 2 := ⟨rfl, rfl⟩
theorem adV_k {mode : Int} (h : knownB mode = true) (x y : Int) : adV x y mode = allV [x, y] mode := by unfold adV; rw [h]; rfl
/-- sums -/
theorem add_ok {a b c d : Int} (ua : U64 a) (ub : U64 b) (uc : U64 c) (ud : U64 d) (h : SpOK a b) (k : SpOK c d) : SpOK (saLo a b c d) (saHi a b c d) ∧ spE2 a b c d = 0 ∧ frank (saLo a b c d) = frank (allV [a, c] 2) ∧ frank (saHi a b c d) = frank (allV [b, d] 1) := by
  have e : spE2 a b c d = 0 := spE2_zero.2 ⟨(spE_ok ua.1 ua.2 ub.1 ub.2).2 h, (spE_ok uc.1 uc.2 ud.1 ud.2).2 k⟩
  unfold saLo saHi
  rw [if_pos e, if_pos e, (adV_12 a c).2, (adV_12 b d).1]
  exact ⟨SpOK.sum ua.1 ua.2 ub.1 ub.2 uc.1 uc.2 ud.1 ud.2 h k, e, (plV_facts _).1, (plV_facts _).1⟩
theorem add_in {a b c d x y : Int} (mode : Int) (ua : U64 a) (ub : U64 b) (uc : U64 c) (ud : U64 d) (h : SpOK a b) (k : SpOK c d) (ex : En x) (fx : fabs x < 9218868437227405312) (ey : En y) (fy : fabs y < 9218868437227405312)
    (ax : frank a ≤ frank x) (xb : frank x ≤ frank b) (cy : frank c ≤ frank y) (yd : frank y ≤ frank d) : frerr (allV [x, y] mode) = 0 ∧ frank (saLo a b c d) ≤ frank (allV [x, y] mode) ∧ frank (allV [x, y] mode) ≤ frank (saHi a b c d) := by
  obtain ⟨-, -, e1, e2⟩ := add_ok ua ub uc ud h k
  rw [e1, e2]
  have rx : -9218868437227405312 < frank x ∧ frank x < 9218868437227405312 := by rcases fin_rank ex.2.2 with ⟨_, q⟩ | ⟨q, _⟩ <;> omega
  have ry : -9218868437227405312 < frank y ∧ frank y < 9218868437227405312 := by rcases fin_rank ey.2.2 with ⟨_, q⟩ | ⟨q, _⟩ <;> omega
  have S := sum_sides mode fx fy
  have l := sum_le 2 ua.1 ua.2 ex.1 ex.2.1 uc.1 uc.2 ey.1 ey.2.1 h.na ex.2.2 k.na ey.2.2 (Or.inl ⟨rx.2, ry.2⟩) ax cy
  have u := sum_le 1 ex.1 ex.2.1 ub.1 ub.2 ey.1 ey.2.1 ud.1 ud.2 ex.2.2 h.nb ey.2.2 k.nb (Or.inr ⟨rx.1, ry.1⟩) xb yd
  exact ⟨(sum_end mode ex.1 ex.2.1 ey.1 ey.2.1 ex.2.2 ey.2.2 (Or.inl ⟨rx.2, ry.2⟩)).1, by omega, by omega⟩
/-- turned -/
theorem SpOK.neg {a b : Int} (ua : U64 a) (ub : U64 b) (h : SpOK a b) : SpOK (plV (fneg b)) (plV (fneg a)) ∧ frank (plV (fneg a)) = -frank a ∧ frank (plV (fneg b)) = -frank b := by
  have fa := frank_fneg ua.1 ua.2
  have fb := frank_fneg ub.1 ub.2
  have a1 := h.na
  have b1 := h.nb
  have l := h.lo
  have u := h.hi
  have le := h.le
  refine ⟨sp_pl (by omega) (by omega) (by omega) (by omega) (by omega), ?_, ?_⟩
  · rw [(plV_facts _).1, fa.1]
  · rw [(plV_facts _).1, fb.1]
theorem mul_e {a b c d : Int} (ua : U64 a) (ub : U64 b) (uc : U64 c) (ud : U64 d) (h : SpOK a b) (k : SpOK c d) : mlLo a b c d = cnLo clOk clV a b c d ∧ mlHi a b c d = cnHi clOk clV a b c d := by
  have e := (add_ok ua ub uc ud h k).2.1
  unfold mlLo mlHi
  rw [if_pos e, if_pos e]; exact ⟨rfl, rfl⟩
end Go.Proofs.YtmpdbmaokbhcjaaGreatDoor

/-
  PLAIN: the law TopSpan: of exact numbers that lie in two spans the sum and the product lie in what is told.
-/
namespace Go.Proofs.YtmpdbmaokbhcjaaGreatDoor
open Go.RowKit Nt Fm Fl

theorem ts_smag_fneg {x : Int} (x0 : 0 ≤ x) (x1 : x ≤ 18446744073709551615) : smag (fneg x) = -smag x := by
  unfold smag
  rw [fabs_fneg, fng_fneg x0 x1]
  cases fng x <;> simp
theorem ts_valD_vlt {x : Int} (x0 : 0 ≤ x) (x1 : x ≤ 18446744073709551615) (hx : fabs x < 9218868437227405312) (t : Nat) : (valD x).vl (1074 + t) = smag x * ((2 ^ t : Nat) : Int) := by
  rw [valD_vl x x0 x1 hx t]
  unfold smag
  cases fng x <;> simp [Int.neg_mul]
theorem ts_frank_of_smag {a b : Int} (ha : fabs a < 9218868437227405312) (hb : fabs b < 9218868437227405312) (h : smag a ≤ smag b) : frank a ≤ frank b := by
  have ba := fabs_bd a
  have bb := fabs_bd b
  rw [frank_fng (by omega), frank_fng (by omega)]
  unfold smag at h
  cases hga : fng a <;> cases hgb : fng b <;> rw [hga, hgb] at h <;> simp only [Bool.false_eq_true, if_false, if_true] at h ⊢
  · have := mag_le_iff.1 (show mag (fabs a).toNat ≤ mag (fabs b).toNat by omega); omega
  · have h1 := mag_inj (show mag (fabs a).toNat = mag 0 by rw [mag_zero]; omega)
    have h2 := mag_inj (show mag (fabs b).toNat = mag 0 by rw [mag_zero]; omega)
    omega
  · omega
  · have := mag_le_iff.1 (show mag (fabs b).toNat ≤ mag (fabs a).toNat by omega); omega
theorem rg_opp (neg : Bool) (m : Nat) (e : Int) : rg (!neg) 2 m e = -rg neg 1 m e ∧ rg (!neg) 1 m e = -rg neg 2 m e := by
  unfold rg kd
  cases neg <;> simp
theorem rg_Opp (d : D) : rg (opp d).neg 2 (opp d).m (opp d).e = -rg d.neg 1 d.m d.e ∧ rg (opp d).neg 1 (opp d).m (opp d).e = -rg d.neg 2 d.m d.e := by
  by_cases h : d.m = 0
  · have z : ∀ n k, rg n k d.m d.e = 0 := fun n k => by unfold rg; rw [h]; unfold numk; simp
    have e1 : (opp d).m = d.m ∧ (opp d).e = d.e := ⟨rfl, rfl⟩
    rw [e1.1, e1.2, z, z, z, z]; decide
  · have e1 : (opp d).m = d.m ∧ (opp d).e = d.e ∧ (opp d).neg = !d.neg := ⟨rfl, rfl, by unfold opp; simp [h]⟩
    rw [e1.1, e1.2.1, e1.2.2]
    exact rg_opp d.neg d.m d.e
/-- a number that is no more than what is rounded down is no more than it was -/
theorem low_fin {a : Int} {C : D} (ua : U64 a) (fa : fabs a < 9218868437227405312) (h : frank a ≤ rg C.neg 2 C.m C.e) (t : Nat) (ht : 0 ≤ C.e + 1074 + t) : (valD a).vl (1074 + t) ≤ C.vl (1074 + t) := by
  have hMR : MR = 9218868437227405312 := rfl
  have hv := ts_valD_vlt ua.1 ua.2 fa t
  have hC := tt_vl C t
  have hs := sg_vl C t
  have hr := frank_fng (x := a) (by omega)
  have hb := fabs_bd a
  have hw : 0 < 2 ^ t := Nat.two_pow_pos t
  rw [hv]
  unfold smag
  unfold rg at h
  unfold sg at hs
  cases hn : C.neg
  · rw [hn] at h hs
    simp only [Bool.false_eq_true, if_false] at h hs
    rw [show kd false 2 = 0 from rfl] at h
    cases hg : fng a
    · rw [hg] at hr
      simp only [Bool.false_eq_true, if_false] at hr ⊢
      have h2 := (numk_iff (m := C.m) (e := C.e) ht 0 (fabs a).toNat).1 (by omega)
      have h3 : mag (fabs a).toNat * 2 ^ t ≤ tt t C.m C.e := h2.2
      rw [← hs]
      exact_mod_cast h3
    · rw [← hs]
      simp only [if_true]
      have h3 : 0 ≤ ((mag (fabs a).toNat : Nat) : Int) * ((2 ^ t : Nat) : Int) := by exact_mod_cast Nat.zero_le (mag (fabs a).toNat * 2 ^ t)
      rw [Int.neg_mul]
      omega
  · rw [hn] at h hs
    simp only [if_true] at h hs
    rw [show kd true 2 = 1 from rfl] at h
    have key : ∀ r : Nat, r < MR → numk 1 C.m C.e ≤ r → tt t C.m C.e ≤ mag r * 2 ^ t := by
      intro r h1 h2
      refine Nat.not_lt.1 fun h3 => ?_
      have h4 := (numk_iff ht 1 (r + 1)).2 (show _ ≤ MR ∧ (_ ∨ _) from ⟨by omega, Or.inr (by rw [Nat.add_sub_cancel]; exact h3)⟩)
      omega
    cases hg : fng a
    · rw [hg] at hr
      simp only [Bool.false_eq_true, if_false] at hr ⊢
      have h0 : fabs a = 0 := by omega
      have h5 := key 0 (by omega) (by omega)
      rw [h0, ← hs]
      rw [show Int.toNat 0 = 0 from rfl, mag_zero] at *
      simp at h5 ⊢
      omega
    · rw [hg] at hr
      simp only [if_true] at hr ⊢
      have h5 := key (fabs a).toNat (by omega) (by omega)
      rw [← hs, Int.neg_mul]
      have : (tt t C.m C.e : Int) ≤ ((mag (fabs a).toNat : Nat) : Int) * ((2 ^ t : Nat) : Int) := by exact_mod_cast h5
      omega
theorem high_fin {b : Int} {C : D} (ub : U64 b) (fb : fabs b < 9218868437227405312) (h : rg C.neg 1 C.m C.e ≤ frank b) (t : Nat) (ht : 0 ≤ C.e + 1074 + t) : C.vl (1074 + t) ≤ (valD b).vl (1074 + t) := by
  have nb : frerr b = 0 := by unfold frerr; rw [if_neg (by omega)]
  have n := fneg_bd ub.1 ub.2
  have f := frank_fneg ub.1 ub.2
  have fa := fabs_fneg b
  have k := low_fin (a := fneg b) (C := opp C) ⟨n.1, n.2⟩ (by omega) (by rw [(rg_Opp C).1]; omega) t ht
  rw [opp_vl, ts_valD_vlt n.1 n.2 (by omega) t, ts_smag_fneg ub.1 ub.2, Int.neg_mul] at k
  rw [ts_valD_vlt ub.1 ub.2 fb t]
  omega
/-- an end of a span: an end of all, or a number -/
theorem end_ways {a : Int} (ua : U64 a) (na : frerr a = 0) : frank a = -9218868437227405312 ∨ frank a = 9218868437227405312 ∨ fabs a < 9218868437227405312 := by
  rcases fin_rank na with ⟨h, -⟩ | ⟨-, h | h⟩
  · exact Or.inr (Or.inr h)
  · exact Or.inr (Or.inl h)
  · exact Or.inl h
theorem mu_ninfR {x z : Int} (mode : Int) (nx : frerr x = 0) (z0 : 0 ≤ z) (z1 : z ≤ 18446744073709551615) (nz : frerr z = 0) (h : frank z = -9218868437227405312) : frank (muV0 x z mode) = if frank x = 0 then 0 else if 0 < frank x then -9218868437227405312 else 9218868437227405312 := by
  obtain ⟨f1, f2⟩ := frank_fneg z0 z1
  have h2 := mu_infR (z := fneg z) (swapM mode) nx (by omega) (by omega)
  rw [mu_neg mode z0 z1] at h2
  split at h2
  · rename_i g; rw [if_pos g]; omega
  · rename_i g
    rw [if_neg g]
    split at h2
    · rename_i g2; rw [if_pos g2]; omega
    · rename_i g2; rw [if_neg g2]; omega
theorem smag_sign {x : Int} (ux : U64 x) (fx : fabs x < 9218868437227405312) : (0 ≤ frank x ↔ 0 ≤ smag x) ∧ (frank x ≤ 0 ↔ smag x ≤ 0) := by
  have z : smag 0 = 0 := by decide
  have r : frank 0 = 0 := by decide
  have u0 : U64 0 := ⟨by decide, by decide⟩
  have f0 : fabs 0 < 9218868437227405312 := by decide
  have a : frank 0 ≤ frank x ↔ smag 0 ≤ smag x := Iff.intro (smag_mono f0 fx) (ts_frank_of_smag f0 fx)
  have b : frank x ≤ frank 0 ↔ smag x ≤ smag 0 := Iff.intro (smag_mono fx f0) (ts_frank_of_smag fx f0)
  rw [z, r] at a b
  exact ⟨a, b⟩
theorem rg_low (C : D) (mode : Int) : -9218868437227405312 ≤ rg C.neg mode C.m C.e := by
  have hMR : MR = 9218868437227405312 := rfl
  have := numk_le_MR (kd C.neg mode) C.m C.e
  unfold rg
  split <;> omega
/-- sums -/
theorem top_sum {a b c d : Int} {C E : D} (ua : U64 a) (ub : U64 b) (uc : U64 c) (ud : U64 d) (h : SpOK a b) (k : SpOK c d)
    (c1 : frank a ≤ rg C.neg 2 C.m C.e) (e1 : frank c ≤ rg E.neg 2 E.m E.e) : frank (allV [a, c] 2) ≤ rg (plus C E).neg 2 (plus C E).m (plus C E).e := by
  have hMR : MR = 9218868437227405312 := rfl
  have l := rg_low (plus C E) 2
  have s := sum_end (x := a) (z := c) 2 ua.1 ua.2 uc.1 uc.2 h.na k.na (Or.inl ⟨h.lo, k.lo⟩)
  have hlo := h.lo
  have klo := k.lo
  rcases end_ways ua h.na with g | g | g
  · rw [s.2.2.1 (Or.inl g)]; exact l
  · omega
  rcases end_ways uc k.na with g' | g' | g'
  · rw [s.2.2.1 (Or.inr g')]; exact l
  · omega
  obtain ⟨f, -⟩ := allV_fin [a, c] (by simp [g, g']) 2
  rw [f]
  obtain ⟨t, t1, t2⟩ : ∃ t : Nat, 0 ≤ C.e + 1074 + t ∧ 0 ≤ E.e + 1074 + t := ⟨(-C.e).toNat + (-E.e).toNat, by omega, by omega⟩
  have va := valD_e ua.1 ua.2
  have vc := valD_e uc.1 uc.2
  have p1 := low_fin ua g c1 t t1
  have p2 := low_fin uc g' e1 t t2
  have hz : sumD [a, c] = plus (plus nz (valD a)) (valD c) := rfl
  have q1 : (plus nz (valD a)).vl (1074 + t) = (valD a).vl (1074 + t) := by
    rw [plus_nz_left (valD_nf a)]
  have hnz : plus nz (valD a) = valD a := plus_nz_left (valD_nf a)
  rw [hz, hnz]
  refine rg_vl2 2 (1074 + t) (by omega) (plus_eT (by omega) (by omega)) (plus_eT (by omega) (by omega)) ?_
  rw [plus_vl _ _ _ (by omega) (by omega), plus_vl _ _ _ (by omega) (by omega)]
  omega
/-- a product: below it a corner -/
theorem fin_corner {x y : Int} {C E : D} (ux : U64 x) (uy : U64 y) (fx : fabs x < 9218868437227405312) (fy : fabs y < 9218868437227405312) (t : Nat) (t1 : 0 ≤ C.e + 1074 + t) (t2 : 0 ≤ E.e + 1074 + t)
    (h : (valD x).vl (1074 + t) * (valD y).vl (1074 + t) ≤ C.vl (1074 + t) * E.vl (1074 + t)) : frank (muV0 x y 2) ≤ rg (times C E).neg 2 (times C E).m (times C E).e := by
  obtain ⟨f, -⟩ := mu_fin fx fy 2
  rw [f]
  have vx := valD_e ux.1 ux.2
  have vy := valD_e uy.1 uy.2
  refine rg_vl2 2 ((1074 + t) + (1074 + t)) (by omega) (times_eT (by omega) (by omega)) (times_eT (by omega) (by omega)) ?_
  unfold prD
  rw [times_vl _ _ _ _ (by omega) (by omega), times_vl _ _ _ _ (by omega) (by omega)]
  exact h
theorem rg_nonneg {C : D} (mode : Int) {T : Nat} (h : 0 ≤ C.vl T) : 0 ≤ rg C.neg mode C.m C.e := by
  unfold rg
  split
  · rename_i g
    have : C.m = 0 := by
      unfold D.vl D.sm at h
      rw [g, if_pos rfl] at h
      have hp : (0 : Int) < 2 ^ (C.e + T).toNat := Int.pow_pos (by decide)
      rcases Nat.eq_zero_or_pos C.m with h1 | h1
      · exact h1
      · exfalso
        have : (0 : Int) < (C.m : Int) * 2 ^ (C.e + T).toNat := Int.mul_pos (by omega) hp
        rw [Int.neg_mul] at h
        omega
    rw [this]; unfold numk; simp
  · omega
theorem top_prod {a b c d : Int} {C E : D} (ua : U64 a) (ub : U64 b) (uc : U64 c) (ud : U64 d) (h : SpOK a b) (k : SpOK c d)
    (c1 : frank a ≤ rg C.neg 2 C.m C.e) (c2 : rg C.neg 1 C.m C.e ≤ frank b) (e1 : frank c ≤ rg E.neg 2 E.m E.e) (e2 : rg E.neg 1 E.m E.e ≤ frank d) :
    ∃ x y, (x = a ∨ x = b) ∧ (y = c ∨ y = d) ∧ frank (muV0 x y 2) ≤ rg (times C E).neg 2 (times C E).m (times C E).e := by
  have l := rg_low (times C E) 2
  have hlo := h.lo
  have klo := k.lo
  have hhi := h.hi
  have khi := k.hi
  have hle := h.le
  have kle := k.le
  obtain ⟨t, t1, t2⟩ : ∃ t : Nat, 0 ≤ C.e + 1074 + t ∧ 0 ≤ E.e + 1074 + t := ⟨(-C.e).toNat + (-E.e).toNat, by omega, by omega⟩
  have low := fun x (ux : U64 x) fx hx => low_fin (a := x) (C := C) ux fx hx t t1
  have high := fun x (ux : U64 x) fx hx => high_fin (b := x) (C := C) ux fx hx t t1
  have low' := fun x (ux : U64 x) fx hx => low_fin (a := x) (C := E) ux fx hx t t2
  have high' := fun x (ux : U64 x) fx hx => high_fin (b := x) (C := E) ux fx hx t t2
  have wa := end_ways ua h.na
  have wb := end_ways ub h.nb
  have wc := end_ways uc k.na
  have wd := end_ways ud k.nb
  have P0 : 0 ≤ C.vl (1074 + t) * E.vl (1074 + t) → 0 ≤ rg (times C E).neg 2 (times C E).m (times C E).e := fun hp => by
    refine rg_nonneg (T := (1074 + t) + (1074 + t)) 2 ?_
    rw [times_vl _ _ _ _ (by omega) (by omega)]
    exact hp
  have sgn := fun x (ux : U64 x) (fx : fabs x < 9218868437227405312) => smag_sign ux fx
  have vls := fun x (ux : U64 x) (fx : fabs x < 9218868437227405312) => ts_valD_vlt ux.1 ux.2 fx t
  have hp2 : (0 : Int) < ((2 ^ t : Nat) : Int) := by exact_mod_cast Nat.two_pow_pos t
  -- the sign of a number's value
  have sv : ∀ x, U64 x → fabs x < 9218868437227405312 → (0 ≤ frank x → 0 ≤ (valD x).vl (1074 + t)) ∧ (frank x ≤ 0 → (valD x).vl (1074 + t) ≤ 0) := by
    intro x ux fx
    rw [vls x ux fx]
    refine ⟨fun g => Int.mul_nonneg ((sgn x ux fx).1.1 g) (Int.le_of_lt hp2), fun g => ?_⟩
    have := Int.mul_le_mul_of_nonneg_right ((sgn x ux fx).2.1 g) (Int.le_of_lt hp2)
    rw [Int.zero_mul] at this
    exact this
  have svx : ∀ x, U64 x → fabs x < 9218868437227405312 → (0 < (valD x).vl (1074 + t) → 0 < frank x) ∧ ((valD x).vl (1074 + t) < 0 → frank x < 0) := by
    intro x ux fx
    obtain ⟨s1, s2⟩ := sv x ux fx
    exact ⟨fun g => by rcases Int.lt_or_le 0 (frank x) with q | q; exact q; have := s2 q; omega, fun g => by rcases Int.lt_or_le (frank x) 0 with q | q; exact q; have := s1 q; omega⟩
  generalize hCv : C.vl (1074 + t) = Cv at *
  generalize hEv : E.vl (1074 + t) = Ev at *
  have inf_l : ∀ x y, frank (muV0 x y 2) = -9218868437227405312 → frank (muV0 x y 2) ≤ rg (times C E).neg 2 (times C E).m (times C E).e := fun x y g => by omega
  have fin := fun x y (ux : U64 x) (uy : U64 y) fx fy (g : (valD x).vl (1074 + t) * (valD y).vl (1074 + t) ≤ Cv * Ev) => fin_corner (C := C) (E := E) ux uy fx fy t t1 t2 (by rw [hCv, hEv]; exact g)
  -- behind the first choice: the number v of an end x, v * E no more than C * E
  have second : ∀ x, (x = a ∨ x = b) → U64 x → frerr x = 0 → fabs x < 9218868437227405312 → (valD x).vl (1074 + t) * Ev ≤ Cv * Ev → ∃ x y, (x = a ∨ x = b) ∧ (y = c ∨ y = d) ∧ frank (muV0 x y 2) ≤ rg (times C E).neg 2 (times C E).m (times C E).e := by
    intro x hx ux nx fx hv
    by_cases s : 0 ≤ frank x
    · refine ⟨x, c, hx, Or.inl rfl, ?_⟩
      rcases wc with g | g | g
      · have m := mu_ninfR (x := x) (z := c) 2 nx uc.1 uc.2 k.na g
        by_cases z : frank x = 0
        · rw [if_pos z] at m
          have z1 := (sv x ux fx).1 s
          have z2 := (sv x ux fx).2 (by omega)
          have z3 : (valD x).vl (1074 + t) = 0 := by omega
          rw [z3, Int.zero_mul] at hv
          have := P0 hv
          omega
        · rw [if_neg z, if_pos (by omega)] at m
          exact inf_l _ _ m
      · omega
      · refine fin x c ux uc fx g (Int.le_trans ?_ hv)
        exact Int.mul_le_mul_of_nonneg_left (low' c uc g e1) ((sv x ux fx).1 s)
    · refine ⟨x, d, hx, Or.inr rfl, ?_⟩
      rcases wd with g | g | g
      · omega
      · have m := mu_infR (x := x) (z := d) 2 nx k.nb g
        rw [if_neg (by omega), if_neg (by omega)] at m
        exact inf_l _ _ m
      · refine fin x d ux ud fx g (Int.le_trans ?_ hv)
        have h1 := high' d ud g e2
        have h2 := (sv x ux fx).2 (by omega)
        exact Int.mul_le_mul_of_nonpos_left h2 h1
  by_cases hE : 0 ≤ Ev
  · rcases wa with g | g | g
    · -- a has no end
      refine ⟨a, d, Or.inl rfl, Or.inr rfl, ?_⟩
      rw [mu_swap]
      have m := mu_ninfR (x := d) (z := a) 2 k.nb ua.1 ua.2 h.na g
      by_cases z : frank d = 0
      · rw [if_pos z] at m
        rcases wd with q | q | q
        · omega
        · omega
        · have h1 := high' d ud q e2
          have h2 := (sv d ud q).2 (by omega)
          have z3 : Ev = 0 := by omega
          have := P0 (by rw [z3, Int.mul_zero]; exact Int.le_refl _)
          omega
      · have hd : 0 < frank d := by
          rcases wd with q | q | q
          · omega
          · omega
          · have h1 := high' d ud q e2
            rcases Int.lt_or_le 0 (frank d) with r | r
            · exact r
            · exfalso
              have h3 := (svx d ud q).2
              have h4 := (sv d ud q).2 r
              have h5 : (valD d).vl (1074 + t) = 0 := by omega
              rw [vls d ud q] at h5
              rcases Int.mul_eq_zero.1 h5 with h6 | h6
              · have := (sgn d ud q).1.2 (by omega)
                omega
              · omega
        rw [if_neg z, if_pos hd] at m
        exact (inf_l d a m)
    · omega
    · exact second a (Or.inl rfl) ua h.na g (Int.mul_le_mul_of_nonneg_right (low a ua g c1) hE)
  · rcases wb with g | g | g
    · omega
    · refine ⟨b, c, Or.inr rfl, Or.inl rfl, ?_⟩
      rw [mu_swap]
      have m := mu_infR (x := c) (z := b) 2 k.na h.nb g
      have hc : frank c < 0 := by
        rcases wc with q | q | q
        · omega
        · omega
        · exact (svx c uc q).2 (by have := low' c uc q e1; omega)
      rw [if_neg (by omega), if_neg (by omega)] at m
      exact inf_l c b m
    · exact second b (Or.inr rfl) ub h.nb g (Int.mul_le_mul_of_nonpos_right (high b ub g c2) (by omega))
/-- the upper sides, by turning all -/
theorem SpOK_neg {a b : Int} (ua : U64 a) (ub : U64 b) (h : SpOK a b) : frerr (fneg b) = 0 ∧ frerr (fneg a) = 0 ∧ U64 (fneg b) ∧ U64 (fneg a) ∧ frank (fneg b) = -frank b ∧ frank (fneg a) = -frank a := by
  have n1 := fneg_bd ua.1 ua.2
  have n2 := fneg_bd ub.1 ub.2
  have f1 := frank_fneg ua.1 ua.2
  have f2 := frank_fneg ub.1 ub.2
  have := h.na
  have := h.nb
  exact ⟨by omega, by omega, ⟨n2.1, n2.2⟩, ⟨n1.1, n1.2⟩, f2.1, f1.1⟩
theorem top_sum_hi {a b c d : Int} {C E : D} (ua : U64 a) (ub : U64 b) (uc : U64 c) (ud : U64 d) (h : SpOK a b) (k : SpOK c d)
    (c1 : rg C.neg 1 C.m C.e ≤ frank b) (e1 : rg E.neg 1 E.m E.e ≤ frank d) : rg (plus C E).neg 1 (plus C E).m (plus C E).e ≤ frank (allV [b, d] 1) := by
  have hMR : MR = 9218868437227405312 := rfl
  have l : rg (plus C E).neg 1 (plus C E).m (plus C E).e ≤ 9218868437227405312 := by
    have := numk_le_MR (kd (plus C E).neg 1) (plus C E).m (plus C E).e
    unfold rg
    split <;> omega
  have s := sum_end (x := b) (z := d) 1 ub.1 ub.2 ud.1 ud.2 h.nb k.nb (Or.inr ⟨h.hi, k.hi⟩)
  have hhi := h.hi
  have khi := k.hi
  rcases end_ways ub h.nb with g | g | g
  · omega
  · rw [s.2.1 (Or.inl g)]; exact l
  rcases end_ways ud k.nb with g' | g' | g'
  · omega
  · rw [s.2.1 (Or.inr g')]; exact l
  obtain ⟨f, -⟩ := allV_fin [b, d] (by simp [g, g']) 1
  rw [f, sumD_two]
  obtain ⟨t, t1, t2⟩ : ∃ t : Nat, 0 ≤ C.e + 1074 + t ∧ 0 ≤ E.e + 1074 + t := ⟨(-C.e).toNat + (-E.e).toNat, by omega, by omega⟩
  have vb := valD_e ub.1 ub.2
  have vd := valD_e ud.1 ud.2
  have p1 := high_fin ub g c1 t t1
  have p2 := high_fin ud g' e1 t t2
  refine rg_vl2 1 (1074 + t) (by omega) (plus_eT (by omega) (by omega)) (plus_eT (by omega) (by omega)) ?_
  rw [plus_vl _ _ _ (by omega) (by omega), plus_vl _ _ _ (by omega) (by omega)]
  omega
theorem oppT_e (d : D) : (opp d).e = d.e := rfl
theorem times_opp_rg (C E : D) : rg (times (opp C) E).neg 2 (times (opp C) E).m (times (opp C) E).e = -rg (times C E).neg 1 (times C E).m (times C E).e := by
  rw [times_opp]
  exact (rg_Opp (times C E)).1
theorem top_prod_hi {a b c d : Int} {C E : D} (ua : U64 a) (ub : U64 b) (uc : U64 c) (ud : U64 d) (h : SpOK a b) (k : SpOK c d)
    (c1 : frank a ≤ rg C.neg 2 C.m C.e) (c2 : rg C.neg 1 C.m C.e ≤ frank b) (e1 : frank c ≤ rg E.neg 2 E.m E.e) (e2 : rg E.neg 1 E.m E.e ≤ frank d) :
    ∃ x y, (x = a ∨ x = b) ∧ (y = c ∨ y = d) ∧ rg (times C E).neg 1 (times C E).m (times C E).e ≤ frank (muV0 x y 1) := by
  obtain ⟨n1, n2, n3, n4, n5, n6⟩ := SpOK_neg ua ub h
  have hp : SpOK (plV (fneg b)) (plV (fneg a)) := (h.neg ua ub).1
  obtain ⟨-, q1, q2⟩ := h.neg ua ub
  have up1 : U64 (plV (fneg b)) := plV_bd n3.1 n3.2
  have up2 : U64 (plV (fneg a)) := plV_bd n4.1 n4.2
  obtain ⟨x, y, hx, hy, hq⟩ := top_prod (C := opp C) (E := E) up1 up2 uc ud hp k (by rw [(rg_Opp C).1]; omega) (by rw [(rg_Opp C).2]; omega) e1 e2
  rw [times_opp_rg] at hq
  have ey : U64 y := by rcases hy with rfl | rfl <;> assumption
  -- the corner turned back
  have back : ∀ z, U64 z → frerr z = 0 → frank (muV0 (plV (fneg z)) y 2) = -frank (muV0 z y 1) := by
    intro z uz nz
    have m := mu_neg (x := y) (z := z) 1 uz.1 uz.2
    rw [show swapM 1 = 2 by decide, mu_swap y (fneg z), mu_swap y z] at m
    rw [← m]
    unfold plV
    split
    · rename_i g
      have hz : z = 0 := by
        have := uz.1
        have := uz.2
        unfold fneg at g
        split at g <;> omega
      have ny : frerr y = 0 := by rcases hy with rfl | rfl; exact k.na; exact k.nb
      rw [g, mu_zero (x := 0) (z := y) 2 (by decide) ny (by decide), mu_zero (x := 9223372036854775808) (z := y) 2 (by decide) ny (by decide)]
    · rfl
  rcases hx with rfl | rfl
  · exact ⟨b, y, Or.inr rfl, hy, by rw [back b ub h.nb] at hq; omega⟩
  · exact ⟨a, y, Or.inl rfl, hy, by rw [back a ua h.na] at hq; omega⟩
end Go.Proofs.YtmpdbmaokbhcjaaGreatDoor

/-
  THE WALK of ulptop.inside; the law TopSpan by what it tells.
-/
namespace Go.Proofs.YtmpdbmaokbhcjaaGreatDoor
open Go.RowKit Nt Fm Fl

/-- is an exact number between both ends? -/
def insB (lo hi c : Int) (d : D) : Bool := decide (c = 0) && (amB lo (roV c 2 d) && amB (roV c 1 d) hi)
theorem insB_iff {lo hi c : Int} {d : D} : insB lo hi c d = true ↔ c = 0 ∧ frerr lo = 0 ∧ frerr hi = 0 ∧ frank lo ≤ rg d.neg 2 d.m d.e ∧ rg d.neg 1 d.m d.e ≤ frank hi := by
  unfold insB
  rw [Bool.and_eq_true, Bool.and_eq_true, decide_eq_true_eq, amB_iff, amB_iff]
  have e : c = 0 → roV c 2 d = numR d 2 ∧ roV c 1 d = numR d 1 := by
    intro h; subst h
    exact ⟨(roV_zero d (mode := 2) (by decide)).1, (roV_zero d (mode := 1) (by decide)).1⟩
  obtain ⟨r1, r2⟩ := rank_numR d 2
  obtain ⟨r3, r4⟩ := rank_numR d 1
  constructor
  · rintro ⟨h, ⟨h1, h2, h3⟩, h4, h5, h6⟩
    obtain ⟨e1, e2⟩ := e h
    rw [e1] at h2 h3
    rw [e2] at h4 h6
    exact ⟨h, h1, h5, by omega, by omega⟩
  · rintro ⟨h, h1, h2, h3, h4⟩
    obtain ⟨e1, e2⟩ := e h
    rw [e1, e2]
    exact ⟨h, ⟨h1, r2, by omega⟩, r4, h2, by omega⟩
theorem ins_ret {a b : Bool} (h : a = b) : Ending.returned (.bool a) = Ending.returned (.bool b) := by rw [h]
set_option maxRecDepth 100000 in
set_option maxHeartbeats 4000000 in
theorem inside_any (lo hi : Int) (l0 : 0 ≤ lo) (l1 : lo ≤ 18446744073709551615) (h0 : 0 ≤ hi) (h1 : hi ≤ 18446744073709551615) (v : Value) (c : Int) (d : D) (w : World) (r : RD w v c d) :
    Calls Tryz.prog 15 #[.agg #[.int .u64 lo, .int .u64 hi], v] w fun e w' => e = .returned (.bool (insB lo hi c d)) ∧ Below w.heap.size w w' := by
  have R := Lib.hid r
  have T2 := Lib.hid (fun v' w' h => to_rd v' c d 2 w' h (by omega) (by omega))
  have T1 := Lib.hid (fun v' w' h => to_rd v' c d 1 w' h (by omega) (by omega))
  have b2 := roV_bd c 2 d
  have b1 := roV_bd c 1 d
  have O1 := Lib.hid (fun w' => ocmp_any lo (roV c 2 d) l0 l1 b2.1 b2.2 w')
  have O2 := Lib.hid (fun w' => ocmp_any (roV c 1 d) hi b1.1 b1.2 h0 h1 w')
  have e2 : roE c 2 = c := by unfold roE; split <;> simp_all
  have e1 : roE c 1 = c := by unfold roE; split <;> simp_all
  rw [e2] at T2
  rw [e1] at T1
  have hcase : ((c == 0) = false ∧ insB lo hi c d = false) ∨ ((c == 0) = true ∧ insB lo hi c d = ((ois lo (roV c 2 d) && decide (ocmp lo (roV c 2 d) ≤ 0)) && (ois (roV c 1 d) hi && decide (ocmp (roV c 1 d) hi ≤ 0)))) := by
    unfold insB amB
    by_cases h : c = 0
    · right; simp [h]
    · left; simp [h]
  generalize insB lo hi c d = I at *
  generalize roV c 2 d = L at *
  generalize roV c 1 d = H at *
  generalize roC c 2 d = C2 at *
  generalize roC c 1 d = C1 at *
  obtain ⟨g, ao, n, cp, x, rfl, -⟩ := r
  go_enter Tryz.func15, Tryz.ntmps15
  go_wp2_with fail
  refine (T2.out _ _ (R.out.below (by go_grown))).mono ?_
  rintro r w1 ⟨rfl, hb⟩
  have X := Lib.hid (((Bx2.new w (.int .u64 lo) (.int .u64 hi) 24).alloc (.cells #[.bool g, .slice ao n cp, .int .i64 x] 27)).below hb)
  have Y := Lib.hid ((Box.new2 w (.cells #[.int .u64 lo, .int .u64 hi] 24) (.bool g) (.slice ao n cp) (.int .i64 x) 27).below hb)
  have S : Below w.heap.size w w1 := bl_thru (by go_grown) (Nat.le_refl _) hb
  have B := Lib.hid S
  replace R := Lib.hid (R.out.below S)
  clear hb S
  obtain ⟨y0, y1, y2, -, -, -⟩ := Y.out.cells
  go_wp2_with fail
  refine (T1.out _ _ R.out).mono ?_
  rintro r w2 ⟨rfl, hb⟩
  replace X := Lib.hid (X.out.below hb)
  replace B := Lib.hid (bl_thru B.out (Nat.le_refl _) hb)
  clear hb y0 y1 y2 Y R
  obtain ⟨x0, x1, -, -⟩ := X.out.cells
  go_wp2_with (first
    | (go_at_call 47; (with_reducible refine (O1.out _).mono ?_); rintro r w' ⟨rfl, rfl⟩)
    | (go_at_call 47; (with_reducible refine (O2.out _).mono ?_); rintro r w' ⟨rfl, rfl⟩)
    | (go_at_call 14; ((with_reducible refine (okT2_bl _ _ _ _ (by simp)).mono ?_); rintro r w3 ⟨rfl, hb⟩; replace B := Lib.hid (bl_thru B.out (Nat.le_refl _) hb); clear hb)))
  all_goals (go_ret; refine ⟨?_, B.out⟩)
  all_goals (clear B X x0 x1 O1 O2 T1 T2)
  all_goals (rcases hcase with ⟨k1, rfl⟩ | ⟨k1, rfl⟩)
  all_goals (unfold ok2 at *)
  all_goals first
    | rfl
    | (refine ins_ret ?_; grind)
    | (exfalso; simp_all; done)
    | trace_state
theorem top_bd {a b c d : Int} (ua : U64 a) (ub : U64 b) (uc : U64 c) (ud : U64 d) : (U64 (saLo a b c d) ∧ U64 (saHi a b c d)) ∧ True ∧ (U64 (mlLo a b c d) ∧ U64 (mlHi a b c d)) :=
  ⟨sa_u ua ub uc ud, trivial, u_ite (cn_u (ok := clOk) clV_bd a b c d).1, u_ite (cn_u (ok := clOk) clV_bd a b c d).2⟩
/-- both: in what is told -/
theorem topSpan_a {a a' b b' cc cd : Int} {C E : D} (ua : U64 a) (ua' : U64 a') (ub : U64 b) (ub' : U64 b') (he : spE2 a a' b b' = 0) (i1 : insB a a' cc C = true) (i2 : insB b b' cd E = true) :
    (opE cc cd (plus C E) = 0 → insB (saLo a a' b b') (saHi a a' b b') 0 (opR cc cd (plus C E)) = true) ∧
    (opE cc cd (times C E) = 0 → insB (mlLo a a' b b') (mlHi a a' b b') 0 (opR cc cd (times C E)) = true) := by
  obtain ⟨rfl, na, na', ca, ca'⟩ := insB_iff.1 i1
  obtain ⟨rfl, nb, nb', eb, eb'⟩ := insB_iff.1 i2
  obtain ⟨h1, h2⟩ := spE2_zero.1 he
  have h := (spE_ok ua.1 ua.2 ua'.1 ua'.2).1 h1
  have k := (spE_ok ub.1 ub.2 ub'.1 ub'.2).1 h2
  -- all turned, for the upper side
  have n1 := fneg_bd ua.1 ua.2
  have n2 := fneg_bd ua'.1 ua'.2
  have n3 := fneg_bd ub.1 ub.2
  have n4 := fneg_bd ub'.1 ub'.2
  have f1 := frank_fneg ua.1 ua.2
  have f2 := frank_fneg ua'.1 ua'.2
  have f3 := frank_fneg ub.1 ub.2
  have f4 := frank_fneg ub'.1 ub'.2
  obtain ⟨s1, s2, s3, s4⟩ := add_ok ua ua' ub ub' h k
  constructor
  · intro hE
    have hR : opR 0 0 (plus C E) = plus C E := by unfold opR; rw [if_pos hE]
    rw [hR]
    refine insB_iff.2 ⟨rfl, s1.na, s1.nb, ?_, ?_⟩
    · rw [s3]; exact top_sum ua ua' ub ub' h k ca eb
    · rw [s4]
      exact top_sum_hi ua ua' ub ub' h k ca' eb'
  · intro hE
    have hR : opR 0 0 (times C E) = times C E := by unfold opR; rw [if_pos hE]
    rw [hR]
    have M := mul_spr ua ua' ub ub' h k
    obtain ⟨m1, m2⟩ := mul_e ua ua' ub ub' h k
    rw [m1, m2]
    have ea : En a := ⟨ua.1, ua.2, h.na⟩
    have ea' : En a' := ⟨ua'.1, ua'.2, h.nb⟩
    have eb0 : En b := ⟨ub.1, ub.2, k.na⟩
    have eb0' : En b' := ⟨ub'.1, ub'.2, k.nb⟩
    have hle := h.le
    have kle := k.le
    refine insB_iff.2 ⟨rfl, M.ok.na, M.ok.nb, ?_, ?_⟩
    · obtain ⟨x, y, hx, hy, hq⟩ := top_prod ua ua' ub ub' h k ca ca' eb eb'
      refine Int.le_trans (M.L x y ?_ ?_ ?_ ?_ ?_ ?_) hq
      all_goals first
        | (rcases hx with rfl | rfl <;> assumption)
        | (rcases hy with rfl | rfl <;> assumption)
        | (rcases hx with rfl | rfl <;> omega)
        | (rcases hy with rfl | rfl <;> omega)
    · obtain ⟨x, y, hx, hy, hq⟩ := top_prod_hi ua ua' ub ub' h k ca ca' eb eb'
      refine Int.le_trans hq (M.H x y ?_ ?_ ?_ ?_ ?_ ?_)
      all_goals first
        | (rcases hx with rfl | rfl <;> assumption)
        | (rcases hy with rfl | rfl <;> assumption)
        | (rcases hx with rfl | rfl <;> omega)
        | (rcases hy with rfl | rfl <;> omega)
end Go.Proofs.YtmpdbmaokbhcjaaGreatDoor

/-
  THE WALK of the law TopSpan.
-/
namespace Go.Proofs.YtmpdbmaokbhcjaaGreatDoor
open Go.RowKit Nt Fm Fl

theorem Box.new4t (w : World) (o p q : Obj) (x y z : Value) (T : TypeId) : Box ((((w.alloc o).alloc p).alloc q).alloc (.cells #[x, y, z] T)) (w.heap.size + 1 + 1 + 1) T x y z := by
  have := Box.new3 (w.alloc o) p q x y z T
  rwa [size_alloc] at this
theorem okT2_new (x0 x1 : Int) (w : World) (b : Nat) (hb : b = w.heap.size) :
    Calls Tryz.prog 14 #[.slice (some ⟨b, 0, none⟩) 2 2] (w.alloc (.cells #[.int .i64 x0, .int .i64 x1] 28)) fun e w' => e = .returned (.bool (ok2 x0 x1)) ∧ w.alloc (.cells #[.int .i64 x0, .int .i64 x1] 28) = w' := by
  subst hb
  have := okT_any [x0, x1] w.heap.size 0 2 (w.alloc (.cells #[.int .i64 x0, .int .i64 x1] 28)) (by simp) (by intro i hi; match i, hi with | 0, _ => simp [go_sem] | 1, _ => simp [go_sem])
  refine this.mono ?_
  rintro e w' ⟨rfl, rfl⟩
  exact ⟨by simp [ok2], rfl⟩
set_option maxRecDepth 100000 in
set_option maxHeartbeats 16000000 in
theorem walkTopSpan (a a' : Int) (a0 : 0 ≤ a) (a1 : a ≤ 18446744073709551615) (a0' : 0 ≤ a') (a1' : a' ≤ 18446744073709551615) (b b' : Int) (b0 : 0 ≤ b) (b1 : b ≤ 18446744073709551615) (b0' : 0 ≤ b') (b1' : b' ≤ 18446744073709551615) (vc : Value) (cc : Int) (c : D) (vd : Value) (cd : Int) (d : D) (w : World) (hT : Tab w) (hT10 : Tab10 w) (rc : RD w vc cc c) (rd : RD w vd cd d) :
    Calls Tryz.prog 3 #[.agg #[.int .u64 a, .int .u64 a'], .agg #[.int .u64 b, .int .u64 b'], vc, vd] w fun e w' => e = .returned (.bool true) ∧ Below w.heap.size w w' := by
  have L := Lib.hid (fun he i1 i2 => topSpan_a (cc := cc) (cd := cd) (C := c) (E := d) ⟨a0, a1⟩ ⟨a0', a1'⟩ ⟨b0, b1⟩ ⟨b0', b1'⟩ he i1 i2)
  have F1 := Lib.hid (fun w' h => spAdd_any a a' b b' a0 a1 a0' a1' b0 b1 b0' b1' w' h)
  have F2 := Lib.hid (fun w' h => spMul_any a a' b b' a0 a1 a0' a1' b0 b1 b0' b1' w' h)
  have I1 := Lib.hid (fun v w' h => inside_any a a' a0 a1 a0' a1' v cc c w' h)
  have I2 := Lib.hid (fun v w' h => inside_any b b' b0 b1 b0' b1' v cd d w' h)
  obtain ⟨⟨⟨p0, p1⟩, ⟨p2, p3⟩⟩, -, ⟨⟨q0, q1⟩, ⟨q2, q3⟩⟩⟩ := top_bd ⟨a0, a1⟩ ⟨a0', a1'⟩ ⟨b0, b1⟩ ⟨b0', b1'⟩
  obtain ⟨E_x, D_x, hE_x, hD_x⟩ : ∃ E D, E = opE cc cd (plus c d) ∧ D = opR cc cd (plus c d) := ⟨_, _, rfl, rfl⟩
  have HC_x := Lib.hid (fun v1 v2 w' h0 h1 h2 => by
    have := add_any v1 v2 cc cd c d w' h0 h1 h2
    rw [← hE_x, ← hD_x] at this; exact this)
  have F_x : Hid (Fit D_x) := Lib.hid (by rw [hD_x]; exact opR_fit (plus_Nf _ _))
  obtain ⟨E_y, D_y, hE_y, hD_y⟩ : ∃ E D, E = opE cc cd (times c d) ∧ D = opR cc cd (times c d) := ⟨_, _, rfl, rfl⟩
  have HC_y := Lib.hid (fun v1 v2 w' h0 h1 h2 => by
    have := mul_any v1 v2 cc cd c d w' h0 h1 h2
    rw [← hE_y, ← hD_y] at this; exact this)
  have F_y : Hid (Fit D_y) := Lib.hid (by rw [hD_y]; exact opR_fit (times_Nf _ _))
  rw [← hE_x, ← hD_x, ← hE_y, ← hD_y] at L
  have I3 := Lib.hid (fun v w' h => inside_any (saLo a a' b b') (saHi a a' b b') p0 p1 p2 p3 v 0 D_x w' h)
  have I4 := Lib.hid (fun v w' h => inside_any (mlLo a a' b b') (mlHi a a' b b') q0 q1 q2 q3 v 0 D_y w' h)
  have R_c := Lib.hid rc
  have R_d := Lib.hid rd
  have HT := Lib.hid hT
  have H10 := Lib.hid hT10
  clear hT hT10 p0 p1 p2 p3 q0 q1 q2 q3 hE_x hD_x hE_y hD_y
  obtain ⟨gc, ac, nc, pc, xc, rfl, -⟩ := rc
  obtain ⟨gd, ad, nd, pd, xd, rfl, -⟩ := rd
  generalize insB a a' cc c = i1 at *
  generalize insB b b' cd d = i2 at *
  generalize insB (saLo a a' b b') (saHi a a' b b') 0 D_x = i3 at *
  generalize insB (mlLo a a' b b') (mlHi a a' b b') 0 D_y = i4 at *
  generalize saLo a a' b b' = sl at *
  generalize saHi a a' b b' = sh at *
  generalize mlLo a a' b b' = ml at *
  generalize mlHi a a' b b' = mh at *
  generalize spE2 a a' b b' = E at *
  have hcase : (E != 0) = true ∨ (E = 0 ∧ (i1 = false ∨ (i1 = true ∧ (i2 = false ∨ (i2 = true ∧ ((E_x != 0) = true ∨ (E_x = 0 ∧ i3 = true)) ∧ ((E_y != 0) = true ∨ (E_y = 0 ∧ i4 = true))))))) := by
    by_cases h : E = 0
    · right; refine ⟨h, ?_⟩
      cases h1 : i1
      · exact Or.inl rfl
      · right; refine ⟨rfl, ?_⟩
        cases h2 : i2
        · exact Or.inl rfl
        · right
          obtain ⟨l1, l2⟩ := L.out h h1 h2
          refine ⟨rfl, ?_, ?_⟩
          · by_cases k : E_x = 0
            · exact Or.inr ⟨k, l1 k⟩
            · left; rw [bne_iff_ne]; exact k
          · by_cases k : E_y = 0
            · exact Or.inr ⟨k, l2 k⟩
            · left; rw [bne_iff_ne]; exact k
    · left; rw [bne_iff_ne]; exact h
  clear L
  rcases hcase with kE | ⟨rfl, rfl | ⟨rfl, rfl | ⟨rfl, hx, hy⟩⟩⟩
  · have kO : ok2 E E = false := by
      rw [bne_iff_ne] at kE
      unfold ok2; simp [kE]
    go_enter Tryz.func3, Tryz.ntmps3
    go_wp2_with fail
    refine (F1.out _ (HT.out.below (by go_grown))).mono ?_
    rintro r w1 ⟨rfl, hb⟩
    have S : Below w.heap.size w w1 := bl_thru (by go_grown) (Nat.le_refl _) hb
    have B := Lib.hid S
    have X_a := Lib.hid (((((Bx2.new w _ _ _).alloc _).alloc _).alloc _).below hb)
    have X_b := Lib.hid ((((Bx2.new2 w _ _ _ _).alloc _).alloc _).below hb)
    have X_c := Lib.hid (((Box.new3 w _ _ _ _ _ _).alloc _).below hb)
    have X_d := Lib.hid ((Box.new4t w _ _ _ _ _ _ _).below hb)
    replace R_c := Lib.hid (R_c.out.below S)
    replace R_d := Lib.hid (R_d.out.below S)
    clear hb S
    obtain ⟨c0_a, c1_a, -, -⟩ := X_a.out.cells
    have l_a := X_a.out.lt
    obtain ⟨c0_b, c1_b, -, -⟩ := X_b.out.cells
    have l_b := X_b.out.lt
    go_wp2_with fail
    refine (F2.out _ (HT.out.below (by have := B.out; have := B.out.size; go_grown))).mono ?_
    rintro r w2 ⟨rfl, hb⟩
    have S : Below w1.heap.size w1 w2 := bl_thru (by go_grown) (Nat.le_refl _) hb
    replace B := Lib.hid (bl_thru B.out (Nat.le_refl _) S)
    replace X_a := Lib.hid (X_a.out.below S)
    replace X_b := Lib.hid (X_b.out.below S)
    replace X_c := Lib.hid (X_c.out.below S)
    replace X_d := Lib.hid (X_d.out.below S)
    have X_s := Lib.hid ((Bx2.new w1 _ _ _).below hb)
    replace R_c := Lib.hid (R_c.out.below S)
    replace R_d := Lib.hid (R_d.out.below S)
    clear hb S c0_a c1_a l_a c0_b c1_b l_b
    go_wp2_with fail
    refine (topLives_any _ (HT.out.below (by have := B.out; have := B.out.size; go_grown)) (H10.out.below (by have := B.out; have := B.out.size; go_grown))).mono ?_
    rintro r w3 ⟨rfl, hb⟩
    have S : Below w2.heap.size w2 w3 := bl_thru (by go_grown) (Nat.le_refl _) hb
    replace B := Lib.hid (bl_thru B.out (Nat.le_refl _) S)
    replace X_a := Lib.hid (X_a.out.below S)
    replace X_b := Lib.hid (X_b.out.below S)
    replace X_c := Lib.hid (X_c.out.below S)
    replace X_d := Lib.hid (X_d.out.below S)
    replace X_s := Lib.hid (X_s.out.below S)
    have X_p := Lib.hid ((Bx2.new w2 _ _ _).below hb)
    replace R_c := Lib.hid (R_c.out.below S)
    replace R_d := Lib.hid (R_d.out.below S)
    clear hb S
    go_wp2_with (go_at_call 14; refine (okT2_new _ _ _ _ (by simp)).mono ?_; rintro e w' ⟨rfl, rfl⟩)
    refine (topLives_any _ (HT.out.below (by have := B.out; have := B.out.size; go_grown)) (H10.out.below (by have := B.out; have := B.out.size; go_grown))).mono ?_
    rintro r w9 ⟨rfl, hb⟩
    have S : Below w.heap.size w w9 := bl_thru (by have := B.out; have := B.out.size; go_grown) (Nat.le_refl _) hb
    go_wp2
    go_ret
    exact ⟨rfl, S⟩
  · go_enter Tryz.func3, Tryz.ntmps3
    go_wp2_with fail
    refine (F1.out _ (HT.out.below (by go_grown))).mono ?_
    rintro r w1 ⟨rfl, hb⟩
    have S : Below w.heap.size w w1 := bl_thru (by go_grown) (Nat.le_refl _) hb
    have B := Lib.hid S
    have X_a := Lib.hid (((((Bx2.new w _ _ _).alloc _).alloc _).alloc _).below hb)
    have X_b := Lib.hid ((((Bx2.new2 w _ _ _ _).alloc _).alloc _).below hb)
    have X_c := Lib.hid (((Box.new3 w _ _ _ _ _ _).alloc _).below hb)
    have X_d := Lib.hid ((Box.new4t w _ _ _ _ _ _ _).below hb)
    replace R_c := Lib.hid (R_c.out.below S)
    replace R_d := Lib.hid (R_d.out.below S)
    clear hb S
    obtain ⟨c0_a, c1_a, -, -⟩ := X_a.out.cells
    have l_a := X_a.out.lt
    obtain ⟨c0_b, c1_b, -, -⟩ := X_b.out.cells
    have l_b := X_b.out.lt
    go_wp2_with fail
    refine (F2.out _ (HT.out.below (by have := B.out; have := B.out.size; go_grown))).mono ?_
    rintro r w2 ⟨rfl, hb⟩
    have S : Below w1.heap.size w1 w2 := bl_thru (by go_grown) (Nat.le_refl _) hb
    replace B := Lib.hid (bl_thru B.out (Nat.le_refl _) S)
    replace X_a := Lib.hid (X_a.out.below S)
    replace X_b := Lib.hid (X_b.out.below S)
    replace X_c := Lib.hid (X_c.out.below S)
    replace X_d := Lib.hid (X_d.out.below S)
    have X_s := Lib.hid ((Bx2.new w1 _ _ _).below hb)
    replace R_c := Lib.hid (R_c.out.below S)
    replace R_d := Lib.hid (R_d.out.below S)
    clear hb S c0_a c1_a l_a c0_b c1_b l_b
    go_wp2_with fail
    refine (topLives_any _ (HT.out.below (by have := B.out; have := B.out.size; go_grown)) (H10.out.below (by have := B.out; have := B.out.size; go_grown))).mono ?_
    rintro r w3 ⟨rfl, hb⟩
    have S : Below w2.heap.size w2 w3 := bl_thru (by go_grown) (Nat.le_refl _) hb
    replace B := Lib.hid (bl_thru B.out (Nat.le_refl _) S)
    replace X_a := Lib.hid (X_a.out.below S)
    replace X_b := Lib.hid (X_b.out.below S)
    replace X_c := Lib.hid (X_c.out.below S)
    replace X_d := Lib.hid (X_d.out.below S)
    replace X_s := Lib.hid (X_s.out.below S)
    have X_p := Lib.hid ((Bx2.new w2 _ _ _).below hb)
    replace R_c := Lib.hid (R_c.out.below S)
    replace R_d := Lib.hid (R_d.out.below S)
    clear hb S
    obtain ⟨c0_a, c1_a, -, -⟩ := X_a.out.cells
    have l_a := X_a.out.lt
    obtain ⟨c0_c, c1_c, c2_c, -, -, -⟩ := X_c.out.cells
    have l_c := X_c.out.lt
    go_wp2_with (go_at_call 14; refine (okT2_new _ _ _ _ (by simp)).mono ?_; rintro e w' ⟨rfl, rfl⟩)
    refine (I1.out _ _ (R_c.out.below (by go_grown))).mono ?_
    rintro r w4 ⟨rfl, hb⟩
    have S : Below w3.heap.size w3 w4 := bl_thru (by go_grown) (Nat.le_refl _) hb
    replace B := Lib.hid (bl_thru B.out (Nat.le_refl _) S)
    replace X_a := Lib.hid (X_a.out.below S)
    replace X_b := Lib.hid (X_b.out.below S)
    replace X_c := Lib.hid (X_c.out.below S)
    replace X_d := Lib.hid (X_d.out.below S)
    replace X_s := Lib.hid (X_s.out.below S)
    replace X_p := Lib.hid (X_p.out.below S)
    replace R_c := Lib.hid (R_c.out.below S)
    replace R_d := Lib.hid (R_d.out.below S)
    clear hb S c0_a c1_a l_a c0_c c1_c c2_c l_c
    go_wp2_with fail
    refine (topLives_any _ (HT.out.below B.out) (H10.out.below B.out)).mono ?_
    rintro r w5 ⟨rfl, hb⟩
    have S : Below w4.heap.size w4 w5 := hb
    replace B := Lib.hid (bl_thru B.out (Nat.le_refl _) S)
    clear X_a
    clear X_b
    clear X_c
    clear X_d
    clear X_s
    clear X_p
    clear R_c
    clear R_d
    clear hb S
    go_wp2
    go_ret
    exact ⟨rfl, B.out⟩
  · go_enter Tryz.func3, Tryz.ntmps3
    go_wp2_with fail
    refine (F1.out _ (HT.out.below (by go_grown))).mono ?_
    rintro r w1 ⟨rfl, hb⟩
    have S : Below w.heap.size w w1 := bl_thru (by go_grown) (Nat.le_refl _) hb
    have B := Lib.hid S
    have X_a := Lib.hid (((((Bx2.new w _ _ _).alloc _).alloc _).alloc _).below hb)
    have X_b := Lib.hid ((((Bx2.new2 w _ _ _ _).alloc _).alloc _).below hb)
    have X_c := Lib.hid (((Box.new3 w _ _ _ _ _ _).alloc _).below hb)
    have X_d := Lib.hid ((Box.new4t w _ _ _ _ _ _ _).below hb)
    replace R_c := Lib.hid (R_c.out.below S)
    replace R_d := Lib.hid (R_d.out.below S)
    clear hb S
    obtain ⟨c0_a, c1_a, -, -⟩ := X_a.out.cells
    have l_a := X_a.out.lt
    obtain ⟨c0_b, c1_b, -, -⟩ := X_b.out.cells
    have l_b := X_b.out.lt
    go_wp2_with fail
    refine (F2.out _ (HT.out.below (by have := B.out; have := B.out.size; go_grown))).mono ?_
    rintro r w2 ⟨rfl, hb⟩
    have S : Below w1.heap.size w1 w2 := bl_thru (by go_grown) (Nat.le_refl _) hb
    replace B := Lib.hid (bl_thru B.out (Nat.le_refl _) S)
    replace X_a := Lib.hid (X_a.out.below S)
    replace X_b := Lib.hid (X_b.out.below S)
    replace X_c := Lib.hid (X_c.out.below S)
    replace X_d := Lib.hid (X_d.out.below S)
    have X_s := Lib.hid ((Bx2.new w1 _ _ _).below hb)
    replace R_c := Lib.hid (R_c.out.below S)
    replace R_d := Lib.hid (R_d.out.below S)
    clear hb S c0_a c1_a l_a c0_b c1_b l_b
    go_wp2_with fail
    refine (topLives_any _ (HT.out.below (by have := B.out; have := B.out.size; go_grown)) (H10.out.below (by have := B.out; have := B.out.size; go_grown))).mono ?_
    rintro r w3 ⟨rfl, hb⟩
    have S : Below w2.heap.size w2 w3 := bl_thru (by go_grown) (Nat.le_refl _) hb
    replace B := Lib.hid (bl_thru B.out (Nat.le_refl _) S)
    replace X_a := Lib.hid (X_a.out.below S)
    replace X_b := Lib.hid (X_b.out.below S)
    replace X_c := Lib.hid (X_c.out.below S)
    replace X_d := Lib.hid (X_d.out.below S)
    replace X_s := Lib.hid (X_s.out.below S)
    have X_p := Lib.hid ((Bx2.new w2 _ _ _).below hb)
    replace R_c := Lib.hid (R_c.out.below S)
    replace R_d := Lib.hid (R_d.out.below S)
    clear hb S
    obtain ⟨c0_a, c1_a, -, -⟩ := X_a.out.cells
    have l_a := X_a.out.lt
    obtain ⟨c0_c, c1_c, c2_c, -, -, -⟩ := X_c.out.cells
    have l_c := X_c.out.lt
    go_wp2_with (go_at_call 14; refine (okT2_new _ _ _ _ (by simp)).mono ?_; rintro e w' ⟨rfl, rfl⟩)
    refine (I1.out _ _ (R_c.out.below (by go_grown))).mono ?_
    rintro r w4 ⟨rfl, hb⟩
    have S : Below w3.heap.size w3 w4 := bl_thru (by go_grown) (Nat.le_refl _) hb
    replace B := Lib.hid (bl_thru B.out (Nat.le_refl _) S)
    replace X_a := Lib.hid (X_a.out.below S)
    replace X_b := Lib.hid (X_b.out.below S)
    replace X_c := Lib.hid (X_c.out.below S)
    replace X_d := Lib.hid (X_d.out.below S)
    replace X_s := Lib.hid (X_s.out.below S)
    replace X_p := Lib.hid (X_p.out.below S)
    replace R_c := Lib.hid (R_c.out.below S)
    replace R_d := Lib.hid (R_d.out.below S)
    clear hb S c0_a c1_a l_a c0_c c1_c c2_c l_c
    obtain ⟨c0_b, c1_b, -, -⟩ := X_b.out.cells
    have l_b := X_b.out.lt
    obtain ⟨c0_d, c1_d, c2_d, -, -, -⟩ := X_d.out.cells
    have l_d := X_d.out.lt
    go_wp2_with fail
    refine (I2.out _ _ R_d.out).mono ?_
    rintro r w5 ⟨rfl, hb⟩
    have S : Below w4.heap.size w4 w5 := hb
    replace B := Lib.hid (bl_thru B.out (Nat.le_refl _) S)
    replace X_a := Lib.hid (X_a.out.below S)
    replace X_b := Lib.hid (X_b.out.below S)
    replace X_c := Lib.hid (X_c.out.below S)
    replace X_d := Lib.hid (X_d.out.below S)
    replace X_s := Lib.hid (X_s.out.below S)
    replace X_p := Lib.hid (X_p.out.below S)
    replace R_c := Lib.hid (R_c.out.below S)
    replace R_d := Lib.hid (R_d.out.below S)
    clear hb S c0_b c1_b l_b c0_d c1_d c2_d l_d
    go_wp2_with fail
    refine (topLives_any _ (HT.out.below B.out) (H10.out.below B.out)).mono ?_
    rintro r w6 ⟨rfl, hb⟩
    have S : Below w5.heap.size w5 w6 := hb
    replace B := Lib.hid (bl_thru B.out (Nat.le_refl _) S)
    clear X_a
    clear X_b
    clear X_c
    clear X_d
    clear X_s
    clear X_p
    clear R_c
    clear R_d
    clear hb S
    go_wp2
    go_ret
    exact ⟨rfl, B.out⟩
  · go_enter Tryz.func3, Tryz.ntmps3
    go_wp2_with fail
    refine (F1.out _ (HT.out.below (by go_grown))).mono ?_
    rintro r w1 ⟨rfl, hb⟩
    have S : Below w.heap.size w w1 := bl_thru (by go_grown) (Nat.le_refl _) hb
    have B := Lib.hid S
    have X_a := Lib.hid (((((Bx2.new w _ _ _).alloc _).alloc _).alloc _).below hb)
    have X_b := Lib.hid ((((Bx2.new2 w _ _ _ _).alloc _).alloc _).below hb)
    have X_c := Lib.hid (((Box.new3 w _ _ _ _ _ _).alloc _).below hb)
    have X_d := Lib.hid ((Box.new4t w _ _ _ _ _ _ _).below hb)
    replace R_c := Lib.hid (R_c.out.below S)
    replace R_d := Lib.hid (R_d.out.below S)
    clear hb S
    obtain ⟨c0_a, c1_a, -, -⟩ := X_a.out.cells
    have l_a := X_a.out.lt
    obtain ⟨c0_b, c1_b, -, -⟩ := X_b.out.cells
    have l_b := X_b.out.lt
    go_wp2_with fail
    refine (F2.out _ (HT.out.below (by have := B.out; have := B.out.size; go_grown))).mono ?_
    rintro r w2 ⟨rfl, hb⟩
    have S : Below w1.heap.size w1 w2 := bl_thru (by go_grown) (Nat.le_refl _) hb
    replace B := Lib.hid (bl_thru B.out (Nat.le_refl _) S)
    replace X_a := Lib.hid (X_a.out.below S)
    replace X_b := Lib.hid (X_b.out.below S)
    replace X_c := Lib.hid (X_c.out.below S)
    replace X_d := Lib.hid (X_d.out.below S)
    have X_s := Lib.hid ((Bx2.new w1 _ _ _).below hb)
    replace R_c := Lib.hid (R_c.out.below S)
    replace R_d := Lib.hid (R_d.out.below S)
    clear hb S c0_a c1_a l_a c0_b c1_b l_b
    go_wp2_with fail
    refine (topLives_any _ (HT.out.below (by have := B.out; have := B.out.size; go_grown)) (H10.out.below (by have := B.out; have := B.out.size; go_grown))).mono ?_
    rintro r w3 ⟨rfl, hb⟩
    have S : Below w2.heap.size w2 w3 := bl_thru (by go_grown) (Nat.le_refl _) hb
    replace B := Lib.hid (bl_thru B.out (Nat.le_refl _) S)
    replace X_a := Lib.hid (X_a.out.below S)
    replace X_b := Lib.hid (X_b.out.below S)
    replace X_c := Lib.hid (X_c.out.below S)
    replace X_d := Lib.hid (X_d.out.below S)
    replace X_s := Lib.hid (X_s.out.below S)
    have X_p := Lib.hid ((Bx2.new w2 _ _ _).below hb)
    replace R_c := Lib.hid (R_c.out.below S)
    replace R_d := Lib.hid (R_d.out.below S)
    clear hb S
    obtain ⟨c0_a, c1_a, -, -⟩ := X_a.out.cells
    have l_a := X_a.out.lt
    obtain ⟨c0_c, c1_c, c2_c, -, -, -⟩ := X_c.out.cells
    have l_c := X_c.out.lt
    go_wp2_with (go_at_call 14; refine (okT2_new _ _ _ _ (by simp)).mono ?_; rintro e w' ⟨rfl, rfl⟩)
    refine (I1.out _ _ (R_c.out.below (by go_grown))).mono ?_
    rintro r w4 ⟨rfl, hb⟩
    have S : Below w3.heap.size w3 w4 := bl_thru (by go_grown) (Nat.le_refl _) hb
    replace B := Lib.hid (bl_thru B.out (Nat.le_refl _) S)
    replace X_a := Lib.hid (X_a.out.below S)
    replace X_b := Lib.hid (X_b.out.below S)
    replace X_c := Lib.hid (X_c.out.below S)
    replace X_d := Lib.hid (X_d.out.below S)
    replace X_s := Lib.hid (X_s.out.below S)
    replace X_p := Lib.hid (X_p.out.below S)
    replace R_c := Lib.hid (R_c.out.below S)
    replace R_d := Lib.hid (R_d.out.below S)
    clear hb S c0_a c1_a l_a c0_c c1_c c2_c l_c
    obtain ⟨c0_b, c1_b, -, -⟩ := X_b.out.cells
    have l_b := X_b.out.lt
    obtain ⟨c0_d, c1_d, c2_d, -, -, -⟩ := X_d.out.cells
    have l_d := X_d.out.lt
    go_wp2_with fail
    refine (I2.out _ _ R_d.out).mono ?_
    rintro r w5 ⟨rfl, hb⟩
    have S : Below w4.heap.size w4 w5 := hb
    replace B := Lib.hid (bl_thru B.out (Nat.le_refl _) S)
    replace X_a := Lib.hid (X_a.out.below S)
    replace X_b := Lib.hid (X_b.out.below S)
    replace X_c := Lib.hid (X_c.out.below S)
    replace X_d := Lib.hid (X_d.out.below S)
    replace X_s := Lib.hid (X_s.out.below S)
    replace X_p := Lib.hid (X_p.out.below S)
    replace R_c := Lib.hid (R_c.out.below S)
    replace R_d := Lib.hid (R_d.out.below S)
    clear hb S c0_b c1_b l_b c0_d c1_d c2_d l_d
    obtain ⟨c0_c, c1_c, c2_c, -, -, -⟩ := X_c.out.cells
    have l_c := X_c.out.lt
    obtain ⟨c0_d, c1_d, c2_d, -, -, -⟩ := X_d.out.cells
    have l_d := X_d.out.lt
    go_wp2_with fail
    refine (HC_x.out _ _ _ (HT.out.below B.out) R_c.out R_d.out).mono ?_
    rintro r w6 ⟨a_x, n_x, k_x, rfl, hv, hb⟩
    have S : Below w5.heap.size w5 w6 := hb
    replace B := Lib.hid (bl_thru B.out (Nat.le_refl _) S)
    replace X_a := Lib.hid (X_a.out.below S)
    replace X_b := Lib.hid (X_b.out.below S)
    replace X_c := Lib.hid (X_c.out.below S)
    replace X_d := Lib.hid (X_d.out.below S)
    replace X_s := Lib.hid (X_s.out.below S)
    replace X_p := Lib.hid (X_p.out.below S)
    replace R_c := Lib.hid (R_c.out.below S)
    replace R_d := Lib.hid (R_d.out.below S)
    have R_x := Lib.hid (rd_of (d := D_x) hv F_x.out)
    clear hb S hv c0_c c1_c c2_c l_c c0_d c1_d c2_d l_d
    obtain ⟨c0_c, c1_c, c2_c, -, -, -⟩ := X_c.out.cells
    have l_c := X_c.out.lt
    obtain ⟨c0_d, c1_d, c2_d, -, -, -⟩ := X_d.out.cells
    have l_d := X_d.out.lt
    go_wp2_with fail
    refine (HC_y.out _ _ _ (HT.out.below (by have := B.out; have := B.out.size; go_grown)) (R_c.out.below (by go_grown)) (R_d.out.below (by go_grown))).mono ?_
    rintro r w7 ⟨a_y, n_y, k_y, rfl, hv, hb⟩
    have S : Below w6.heap.size w6 w7 := bl_thru (by go_grown) (Nat.le_refl _) hb
    replace B := Lib.hid (bl_thru B.out (Nat.le_refl _) S)
    replace X_a := Lib.hid (X_a.out.below S)
    replace X_b := Lib.hid (X_b.out.below S)
    replace X_c := Lib.hid (X_c.out.below S)
    replace X_d := Lib.hid (X_d.out.below S)
    replace X_s := Lib.hid (X_s.out.below S)
    replace X_p := Lib.hid (X_p.out.below S)
    have X_x := Lib.hid ((Box.new w6 _ _ _ _).below hb)
    replace R_c := Lib.hid (R_c.out.below S)
    replace R_d := Lib.hid (R_d.out.below S)
    replace R_x := Lib.hid (R_x.out.below S)
    have R_y := Lib.hid (rd_of (d := D_y) hv F_y.out)
    clear hb S hv c0_c c1_c c2_c l_c c0_d c1_d c2_d l_d
    rcases hx with kx | ⟨rfl, rfl⟩ <;> rcases hy with ky | ⟨rfl, rfl⟩
    · go_wp2
      go_ret
      exact ⟨rfl, (by have := B.out; have := B.out.size; go_grown)⟩
    · obtain ⟨c0_p, c1_p, -, -⟩ := X_p.out.cells
      have l_p := X_p.out.lt
      go_wp2_with fail
      refine (I4.out _ _ (R_y.out.below (by go_grown))).mono ?_
      rintro r w8 ⟨rfl, hb⟩
      have S : Below w7.heap.size w7 w8 := bl_thru (by go_grown) (Nat.le_refl _) hb
      replace B := Lib.hid (bl_thru B.out (Nat.le_refl _) S)
      clear X_a
      clear X_b
      clear X_c
      clear X_d
      clear X_s
      clear X_p
      clear X_x
      clear R_c
      clear R_d
      clear R_x
      clear R_y
      clear hb S c0_p c1_p l_p
      go_wp2
      go_ret
      exact ⟨rfl, B.out⟩
    · obtain ⟨c0_s, c1_s, -, -⟩ := X_s.out.cells
      have l_s := X_s.out.lt
      obtain ⟨c0_x, c1_x, c2_x, -, -, -⟩ := X_x.out.cells
      have l_x := X_x.out.lt
      go_wp2_with fail
      refine (I3.out _ _ (R_x.out.below (by go_grown))).mono ?_
      rintro r w8 ⟨rfl, hb⟩
      have S : Below w7.heap.size w7 w8 := bl_thru (by go_grown) (Nat.le_refl _) hb
      replace B := Lib.hid (bl_thru B.out (Nat.le_refl _) S)
      replace X_a := Lib.hid (X_a.out.below S)
      replace X_b := Lib.hid (X_b.out.below S)
      replace X_c := Lib.hid (X_c.out.below S)
      replace X_d := Lib.hid (X_d.out.below S)
      replace X_s := Lib.hid (X_s.out.below S)
      replace X_p := Lib.hid (X_p.out.below S)
      replace X_x := Lib.hid (X_x.out.below S)
      have X_y := Lib.hid ((Box.new w7 _ _ _ _).below hb)
      replace R_c := Lib.hid (R_c.out.below S)
      replace R_d := Lib.hid (R_d.out.below S)
      replace R_x := Lib.hid (R_x.out.below S)
      replace R_y := Lib.hid (R_y.out.below S)
      clear hb S c0_s c1_s l_s c0_x c1_x c2_x l_x
      go_wp2
      go_ret
      exact ⟨rfl, B.out⟩
    · obtain ⟨c0_s, c1_s, -, -⟩ := X_s.out.cells
      have l_s := X_s.out.lt
      obtain ⟨c0_x, c1_x, c2_x, -, -, -⟩ := X_x.out.cells
      have l_x := X_x.out.lt
      go_wp2_with fail
      refine (I3.out _ _ (R_x.out.below (by go_grown))).mono ?_
      rintro r w8 ⟨rfl, hb⟩
      have S : Below w7.heap.size w7 w8 := bl_thru (by go_grown) (Nat.le_refl _) hb
      replace B := Lib.hid (bl_thru B.out (Nat.le_refl _) S)
      replace X_a := Lib.hid (X_a.out.below S)
      replace X_b := Lib.hid (X_b.out.below S)
      replace X_c := Lib.hid (X_c.out.below S)
      replace X_d := Lib.hid (X_d.out.below S)
      replace X_s := Lib.hid (X_s.out.below S)
      replace X_p := Lib.hid (X_p.out.below S)
      replace X_x := Lib.hid (X_x.out.below S)
      have X_y := Lib.hid ((Box.new w7 _ _ _ _).below hb)
      replace R_c := Lib.hid (R_c.out.below S)
      replace R_d := Lib.hid (R_d.out.below S)
      replace R_x := Lib.hid (R_x.out.below S)
      replace R_y := Lib.hid (R_y.out.below S)
      clear hb S c0_s c1_s l_s c0_x c1_x c2_x l_x
      obtain ⟨c0_p, c1_p, -, -⟩ := X_p.out.cells
      have l_p := X_p.out.lt
      obtain ⟨c0_y, c1_y, c2_y, -, -, -⟩ := X_y.out.cells
      have l_y := X_y.out.lt
      go_wp2_with fail
      refine (I4.out _ _ R_y.out).mono ?_
      rintro r w9 ⟨rfl, hb⟩
      have S : Below w8.heap.size w8 w9 := hb
      replace B := Lib.hid (bl_thru B.out (Nat.le_refl _) S)
      clear X_a
      clear X_b
      clear X_c
      clear X_d
      clear X_s
      clear X_p
      clear X_x
      clear X_y
      clear R_c
      clear R_d
      clear R_x
      clear R_y
      clear hb S c0_p c1_p l_p c0_y c1_y c2_y l_y
      go_wp2
      go_ret
      exact ⟨rfl, B.out⟩
end Go.Proofs.YtmpdbmaokbhcjaaGreatDoor
