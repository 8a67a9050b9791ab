/-
  SOME OF MY TEXTS in one: Prj Prk Prl Prm Prn Rvp Srp Srn. Each says what it proves.
-/
import Derived.Test.YtmpdbmaokbhcjaaDoorWi
import Derived.Test.YtmpdbmaokbhcjaaDoorPrf
import Derived.Test.YtmpdbmaokbhcjaaDoorPrh
import Derived.Test.YtmpdbmaokbhcjaaDoorBw
import Derived.Test.YtmpdbmaokbhcjaaDoorEkm
import Derived.Test.YtmpdbmaokbhcjaaDoorBh
import Derived.Test.YtmpdbmaokbhcjaaDoorBa
set_option linter.unusedVariables false
set_option linter.unusedSimpArgs false
/-
  PLAIN: an exact number rounded down to so many places; THE WALK of series.Exp's closure.
-/
namespace Go.Proofs.YtmpdbmaokbhcjaaDoor
open Go.RowKit Nt Fm
open Ea (Pr growP negP IsFl)

theorem mul_floor (d : D) (pl : Int) {T : Nat} (hn : d.Nf) (h1 : 0 ≤ d.e + T) (h2 : 0 ≤ pl + T) : (mulD d pl 2).vl T = d.vl T / ((2 ^ (pl + T).toNat : Nat) : Int) * ((2 ^ (pl + T).toNat : Nat) : Int) := by
  obtain ⟨I, hI, hv, -⟩ := mul_spec d pl 2 (T := T) hn h1 h2 (by decide) (by decide)
  have hU := Nat.two_pow_pos (pl + T).toNat
  rw [hv, vl_abs d T]
  generalize d.m * 2 ^ (d.e + T).toNat = V at *
  generalize 2 ^ (pl + T).toNat = U at *
  have hUi : (0 : Int) < (U : Int) := by omega
  cases hg : d.neg
  · rw [hg] at hI
    have hk : kd false 2 = 0 := by decide
    rw [hk] at hI
    have a := I_down hI
    have b : ¬ (I + 1) * U ≤ V := fun h => by have := (hI (I + 1)).2 h; omega
    simp only [Bool.false_eq_true, if_false]
    have e : (V : Int) / (U : Int) = (I : Int) := by
      rw [← Int.natCast_ediv]
      congr 1
      exact (Nat.div_eq_of_lt_le (by omega) (by omega))
    rw [e, Int.natCast_mul]
  · rw [hg] at hI
    have hk : kd true 2 = 1 := by decide
    rw [hk] at hI
    have a := I_up hI
    simp only [if_true]
    have e : (-(V : Int)) / (U : Int) = -(I : Int) := by
      have b : I = 0 ∨ (I - 1) * U < V := (hI I).1 (Nat.le_refl _)
      have l1 : -(I : Int) ≤ (-(V : Int)) / (U : Int) := by
        rw [Int.le_ediv_iff_mul_le hUi, Int.neg_mul, ← Int.natCast_mul]; omega
      have l2 : (-(V : Int)) / (U : Int) < -(I : Int) + 1 := by
        rw [Int.ediv_lt_iff_lt_mul hUi]
        rcases b with b | b
        · subst b
          have : V = 0 := by omega
          subst this
          simp; omega
        · rcases Nat.eq_zero_or_pos I with h0 | h0
          · subst h0
            have : V = 0 := by omega
            subst this
            simp; omega
          · obtain ⟨J, rfl⟩ : ∃ J, I = J + 1 := ⟨I - 1, by omega⟩
            have e2 : -((J + 1 : Nat) : Int) + 1 = -(J : Int) := by omega
            rw [e2, Int.neg_mul, ← Int.natCast_mul]
            rw [show J + 1 - 1 = J by omega] at b
            omega
      omega
    rw [e, Int.natCast_mul, Int.neg_mul]
theorem mulD_nf {d : D} (h : d.Nf) (pl : Int) : (mulD d pl 2).Nf := by
  obtain ⟨T, h1, h2⟩ := exT d.e pl
  exact (mul_spec d pl 2 (T := T) h h1 h2 (by decide) (by decide)).choose_spec.2.2.2.1
theorem mulD_e {d : D} (h : d.Nf) (pl : Int) : mulD d pl 2 = nz ∨ pl ≤ (mulD d pl 2).e := by
  obtain ⟨T, h1, h2⟩ := exT d.e pl
  exact (mul_spec d pl 2 (T := T) h h1 h2 (by decide) (by decide)).choose_spec.2.2.2.2
/-- .. as a whole number of places -/
theorem mul_places {d : D} {p pl : Nat} (hn : d.Nf) (he : -(p : Int) ≤ d.e) (h : pl ≤ p) : mulD d (-(pl : Int)) 2 = ofInt (d.vl p / ((2 ^ (p - pl) : Nat) : Int)) (-(pl : Int)) := by
  have h1 : 0 ≤ d.e + (p : Int) := by omega
  have h2 : 0 ≤ -(pl : Int) + (p : Int) := by omega
  have e : (-(pl : Int) + (p : Int)).toNat = p - pl := by omega
  refine nf_inj (T := p) (mulD_nf hn _) (ofInt_nf _ _) ?_ (ofInt_eT h2) ?_
  · rcases mulD_e hn (-(pl : Int)) with h3 | h3
    · rw [h3]; unfold nz; simp only; omega
    · omega
  · rw [mul_floor d _ hn h1 h2, ofInt_vl _ _ _ h2, e]
    rfl
theorem norm_eP (n p : Nat) : -(p : Int) ≤ (norm false n (-(p : Int))).e := by
  rcases @norm_e false n (-(p : Int)) with h | h
  · rw [h]; unfold nz; simp only; omega
  · exact h
theorem norm_vlP (n p : Nat) : (norm false n (-(p : Int))).vl p = (n : Int) := by
  rw [norm_vl _ _ _ _ (by omega)]
  unfold D.vl D.sm
  simp only [Bool.false_eq_true, if_false]
  rw [show (-(p : Int) + (p : Int)).toNat = 0 by omega]
  simp
theorem fl_norm {n p pl : Nat} (h : pl ≤ p) : mulD (norm false n (-(p : Int))) (-(pl : Int)) 2 = ofInt ((n / 2 ^ (p - pl) : Nat) : Int) (-(pl : Int)) := by
  rw [mul_places (norm_nf _ _ _) (norm_eP _ _) h, norm_vlP, ← Int.natCast_ediv]
theorem ofInt_inj {a b e : Int} (h : ofInt a e = ofInt b e) : a = b := by
  obtain ⟨T, h1, -⟩ := exT e e
  have := congrArg (D.vl T) h
  rw [ofInt_vl _ _ _ h1, ofInt_vl _ _ _ h1] at this
  exact Int.eq_of_mul_eq_mul_right (by have : (0 : Int) < 2 ^ (e + T).toNat := Int.pow_pos (by decide); omega) this
end Go.Proofs.YtmpdbmaokbhcjaaDoor

/-
  THE WALKS of series.Exp's closure, and of series.floor at it.
-/
namespace Go.Proofs.YtmpdbmaokbhcjaaDoor
open Go.RowKit Nt Fm
open Ea (Pr growP negP IsFl)

set_option maxRecDepth 100000 in
set_option maxHeartbeats 8000000 in
theorem expC_any (c0 : Nat) (d : D) (b p s : Nat) (P : Int) (w : World) (hT : Tab w) (hd : GD w c0 d) (hP : P = (p : Int)) (hm : d.m < 2 ^ b) (hb : b ≤ 20000000) (e0 : -20000000 ≤ d.e) (e1 : d.e ≤ 20000000) (hp : p ≤ 19000000000000) (hp0 : 16 ≤ p)
    (hs : (s : Int) = max 0 (blen d.m + d.e + 16)) (hs1 : s ≤ 27) :
    Calls Tryd.prog 73 #[.int .i64 P, .pointer (some ⟨c0, 0, none⟩)] w (RetEB w d p s) := by
  subst hP
  obtain ⟨a1, n1, c1, hBx, hNv⟩ := hd
  have EB := Lib.hid (fun w' ht hv => expBounds_any (.agg #[.bool d.neg, .slice a1 n1 c1, .int .i64 d.e]) d b p s p w' ht ⟨_, rfl, hv⟩ rfl hm hb e0 e1 hp hp0 hs hs1)
  have HB := Lib.hid hBx
  have HN := Lib.hid hNv
  have HT := Lib.hid hT
  have hlt : c0 < w.heap.size := hBx.lt
  have L1 := Lib.hid ((GD.nil w).alloc (.cells #[.bool false, .slice none 0 0, .int .i64 0] 24))
  have M1 := Lib.hid (GD.nil2 w (.cells #[.bool false, .slice none 0 0, .int .i64 0] 24))
  have X1 := Lib.hid ((HB.out.alloc (.cells #[.bool false, .slice none 0 0, .int .i64 0] 24)).alloc (.cells #[.bool false, .slice none 0 0, .int .i64 0] 24))
  obtain ⟨q0, q1, q2, -, -, -⟩ := X1.out.cells
  unfold RetEB
  clear hBx hNv hT hm hs
  go_enter Tryd.func73, Tryd.ntmps73
  go_wp2_with fail
  refine (EB.out _ (HT.out.below (bl_alloc2 _ _ _)) (HN.out.below (bl_alloc2 _ _ _))).mono ?_
  rintro r w1 ⟨k, hk, hend, u1, u2, rfl, hu1, hu2, hb1⟩
  obtain ⟨C, hC⟩ : ∃ C, C = norm false (ebP d.neg d.m d.e p k s).l (-(p : Int)) := ⟨_, rfl⟩
  obtain ⟨E, hE⟩ : ∃ E, E = norm false (ebP d.neg d.m d.e p k s).h (-(p : Int)) := ⟨_, rfl⟩
  rw [← hC] at hu1
  rw [← hE] at hu2
  obtain ⟨e1, f1, g1, rfl, hv1⟩ := hu1.parts
  obtain ⟨e2, f2, g2, rfl, hv2⟩ := hu2.parts
  have HK := Lib.hid (show ((k ≤ p ∧ (Ea.tmP (Ea.fixedP d.m (d.e - s) p) p k).h ≤ 1) ∧ C = norm false (ebP d.neg d.m d.e p k s).l (-(p : Int)) ∧ E = norm false (ebP d.neg d.m d.e p k s).h (-(p : Int))) ∧ True from ⟨⟨⟨hk, hend⟩, hC, hE⟩, trivial⟩)
  have B1 := Lib.hid (bl_thru (bl_alloc2 w _ _) (Nat.le_refl _) hb1)
  have L2 := Lib.hid (L1.out.below hb1)
  have M2 := Lib.hid (M1.out.below hb1)
  have N1 := Lib.hid hv1
  have N2 := Lib.hid hv2
  clear hu1 hu2 hv1 hv2 hb1 hk hend hC hE q0 q1 q2 L1 M1 X1 HB HN
  obtain ⟨_, _, _, z0, z1, z2, z3, z4, z5⟩ := L2.out.cells
  obtain ⟨_, _, _, y0, y1, y2, y3, y4, y5⟩ := L2.out.two M2.out (by omega) (.bool C.neg) (.slice e1 f1 g1) (.int .i64 C.e)
  go_wp2_with fail
  clear z0 z1 z2 z3 z4 z5 y0 y1 y2 y3 y4 y5
  obtain ⟨h1, h2, h3, h4, h5, h6⟩ := fin_cc (V := w) B1.out L2.out M2.out (by omega) (Nat.le_refl _) (by omega) N1.out N2.out
  obtain ⟨W, hW⟩ : ∃ W, W = ((((((w1.setCell ⟨w.heap.size, 0, none⟩ (.bool C.neg)).setCell ⟨w.heap.size, 1, none⟩ (.slice e1 f1 g1)).setCell ⟨w.heap.size, 2, none⟩ (.int .i64 C.e)).setCell ⟨w.heap.size + 1, 0, none⟩ (.bool E.neg)).setCell ⟨w.heap.size + 1, 1, none⟩ (.slice e2 f2 g2)).setCell ⟨w.heap.size + 1, 2, none⟩ (.int .i64 E.e)) := ⟨_, rfl⟩
  rw [← hW] at h4 h5 h6 ⊢
  clear hW
  obtain ⟨i1, i2, i3, hi, hin⟩ := h5
  obtain ⟨j1, j2, j3, hj, hjn⟩ := h6
  have HIN := Lib.hid hin
  have HJN := Lib.hid hjn
  have BW := Lib.hid h4
  obtain ⟨s0, s1, s2, -, -, -⟩ := hi.cells
  obtain ⟨r0, r1, r2, -, -, -⟩ := hj.cells
  clear hi hj hin hjn h4
  refine bodyPost_ret (v := .tuple #[.agg #[.bool C.neg, .slice i1 i2 i3, .int .i64 C.e], .agg #[.bool E.neg, .slice j1 j2 j3, .int .i64 E.e]]) (by simp [results, Tryd.results73, go_sem, s0, s1, s2, r0, r1, r2]) rfl ?_
  refine ⟨k, HK.out.1.1.1, HK.out.1.1.2, _, _, rfl, ?_, ?_, BW.out⟩
  · rw [← HK.out.1.2.1]; exact ⟨_, rfl, HIN.out⟩
  · rw [← HK.out.1.2.2]; exact ⟨_, rfl, HJN.out⟩
end Go.Proofs.YtmpdbmaokbhcjaaDoor

/-
  THE WALK of series.floor at series.Exp's closure.
-/
namespace Go.Proofs.YtmpdbmaokbhcjaaDoor
open Go.RowKit Nt Fm
open Ea (Pr growP negP IsFl tw PB)

/-- the value of an exact number -/
def rv (d : D) : Rat := (d.sm : Rat) * tw d.e
theorem rv_pos {m : Nat} {e : Int} : rv ⟨false, m, e⟩ = (m : Rat) * tw e := rfl
theorem rv_neg {m : Nat} {e : Int} : rv ⟨true, m, e⟩ = -((m : Rat) * tw e) := by
  show ((-(m : Int) : Int) : Rat) * tw e = _
  rw [Rat.intCast_neg]
  show -(m : Rat) * tw e = _
  rw [Rat.neg_mul]
theorem ebP_ok {neg : Bool} {m p k s b : Nat} {e : Int} (hm : m < 2 ^ b) (hs : (b : Int) + e - s ≤ -16) (hp : 16 ≤ p) (hk : k ≤ p) (hend : (Ea.tmP (Ea.fixedP m (e - s) p) p k).h ≤ 1) :
    Ea.Good (rv ⟨neg, m, e⟩) p (ebP neg m e p k s) ∧ (ebP neg m e p k s).l ≤ (ebP neg m e p k s).h ∧ (ebP neg m e p k s).h ≤ (ebP neg m e p k s).l + (2 * Ea.Ww k s + 1) ∧ (ebP neg m e p k s).h < 2 ^ (p + 3 * 2 ^ s + 1) := by
  obtain ⟨h1, h2, h3, h4, h5⟩ := Ea.grow_ok hm hs hp hk hend
  have e8 : 2 ^ p * 8 ^ 2 ^ s = 2 ^ (p + 3 * 2 ^ s) := by rw [show (8 : Nat) = 2 ^ 3 by decide, ← Nat.pow_mul, ← Nat.pow_add]
  rw [e8] at h4
  have h6 : 2 ^ (p + 3 * 2 ^ s + 1) = 2 * 2 ^ (p + 3 * 2 ^ s) := by rw [Nat.pow_succ]; omega
  have h7 : 2 ^ p ≤ 2 ^ (p + 3 * 2 ^ s) := Nat.pow_le_pow_right (by decide) (by omega)
  have h8 := Nat.two_pow_pos p
  unfold ebP
  cases neg
  · simp only [Bool.false_eq_true, if_false]
    exact ⟨by rw [rv_pos]; exact h5, h2, by omega, by omega⟩
  · simp only [if_true]
    obtain ⟨n1, n2, n3⟩ := Ea.neg_ok (w := Ea.Ww k s) h5 h1 h2 (by omega)
    refine ⟨by rw [rv_neg]; exact n1, ?_, by omega, by omega⟩
    show 2 ^ (2 * p) / (growP m e p k s).h ≤ 2 ^ (2 * p) / (growP m e p k s).l + 1
    have := Nat.div_le_div_left (a := 2 ^ (2 * p)) h2 (show 0 < (growP m e p k s).l by omega)
    omega

set_option maxRecDepth 100000 in
set_option maxHeartbeats 8000000 in
theorem floorE_any (c0 : Nat) (d : D) (p0 s pl : Nat) (w : World) (hT : Tab w) (hd : GD w c0 d) (hm0 : 0 < d.m) (hm : d.m < 2 ^ 1280) (he : -19000 ≤ d.e) (he1 : d.e ≤ 20000) (hx : (d.m : Rat) * tw d.e ≤ 2048)
    (hs : (s : Int) = max 0 (blen d.m + d.e + 16)) (hs1 : s ≤ 27) (hpl : pl ≤ 1300) (hp0 : pl + 16 ≤ p0) (hp1 : p0 ≤ 3000) :
    Calls Tryd.prog 72 #[.int .i64 (pl : Int), .int .i64 (p0 : Int), .func (.func 73) #[] #[.pointer (some ⟨c0, 0, none⟩)]] w fun r w' => ∃ q : Int, IsFl (rv d) q pl ∧ RetD w (ofInt q (-(pl : Int))) r w' := by
  have hlt : c0 < w.heap.size := hd.lt
  have h2s : 2 ^ s ≤ 134217728 := Nat.pow_le_pow_right (show 0 < 2 by decide) hs1
  have hPB : PB = 4398500000000 := rfl
  have EC := Lib.hid (fun (Q : Nat) (q1 : p0 ≤ Q) (q2 : Q ≤ 2 * PB) w' ht hg => expC_any c0 d 1280 Q s Q w' ht hg rfl hm (by omega) (by omega) (by omega) (by omega) (by omega) hs hs1)
  have hbl : blen d.m ≤ 1280 := blen_le2 hm
  have OK := Lib.hid (fun (Q k : Nat) (q1 : p0 ≤ Q) (hk : k ≤ Q) hend => ebP_ok (neg := d.neg) (k := k) (p := Q) (blen_lt2 d.m) (show ((blen d.m : Nat) : Int) + d.e - s ≤ -16 by omega) (by omega) hk hend)
  have hsep : ∀ j : Int, Ea.Away (rv d) ((j : Rat) * tw (-(pl : Int))) Ea.sepE := by
    intro j
    have := Ea.sep_num hm0 hm he hx hpl j
    obtain ⟨g, m, e⟩ := d
    cases g
    · rw [rv_pos]; exact this.1
    · rw [rv_neg]; exact this.2
  have MEET := Lib.hid (fun (Q k : Nat) (q1 : p0 ≤ Q) (hk : k ≤ Q) hend (hQ : PB ≤ Q) (hQ2 : Q ≤ 2 * PB) => Ea.meets (pl := pl) (OK.out Q k q1 hk hend).1 (by omega) (OK.out Q k q1 hk hend).2.1 (OK.out Q k q1 hk hend).2.2.1 hsep (Ea.ww_small hk hs1 hQ (by omega)))
  have MET := Lib.hid (fun (Q k : Nat) (q1 : p0 ≤ Q) (hk : k ≤ Q) hend h => Ea.met_fl (pl := pl) (OK.out Q k q1 hk hend).1 (by omega) h)
  have MUL := Lib.hid (fun (Q n K0 : Nat) v w' ht hv (q1 : pl ≤ Q) (q2 : Q ≤ 2 * PB) (hn : n < 2 ^ K0) (hK : K0 ≤ 10000000000000) => multiple_any v (norm false n (-(Q : Int))) K0 (-(pl : Int)) 2 w' ht hv (Nat.lt_of_le_of_lt (norm_m_le _ _ _) hn) (by omega) (by have := norm_eP n Q; omega) (by
    rcases norm_e_bd false (e := -(Q : Int)) hn with h | h
    · rw [h]; show (0 : Int) ≤ _; omega
    · omega) (by omega) (by omega) (by decide) (by decide))
  have HT := Lib.hid hT
  have HD := Lib.hid hd
  have H2S := Lib.hid (show 2 ^ s ≤ 134217728 ∧ True from ⟨h2s, trivial⟩)
  clear hT hd hm hm0 he he1 hx hs hbl hsep h2s
  obtain ⟨B, hB⟩ : ∃ B : Nat, B = 2 * PB := ⟨_, rfl⟩
  have hB2 : B = 8797000000000 := by rw [hB]; rfl
  rw [← hB] at EC MEET MUL
  have hPB2 : PB + PB = B := by omega
  clear hB
  go_enter Tryd.func72, Tryd.ntmps72
  go_wp2_with fail
  have Z0 := Lib.hid (GD.nil w)
  have D0 := Lib.hid (HD.out.alloc (.cells #[.bool false, .slice none 0 0, .int .i64 0] 24))
  have B0 := Lib.hid ((Below.refl w.heap.size w).alloc (Nat.le_refl _) (.cells #[.bool false, .slice none 0 0, .int .i64 0] 24))
  go_loopw [1] (fun i wr => ∃ Q : Nat, i = .int .i64 (Q : Int) ∧ p0 ≤ Q ∧ Q ≤ B ∧ Hid (GD wr w.heap.size nz) ∧ Hid (GD wr c0 d) ∧ Hid (Below w.heap.size w wr))
    (fun i _ => B + 1 - (intOf i).toNat)
  case atStart => exact ⟨p0, rfl, Nat.le_refl _, by omega, Z0, D0, B0⟩
  case round =>
    obtain ⟨Q, rfl, q1, q2, gR, gD, hbel⟩ := hrel
    clear Z0 D0 B0
    go_wp2_with fail
    refine (EC.out Q q1 q2 _ (HT.out.below hbel.out) gD.out).mono ?_
    rintro r w1 ⟨k, hk, hend, u1, u2, rfl, hu1, hu2, hb1⟩
    obtain ⟨y, hy⟩ : ∃ y, y = ebP d.neg d.m d.e Q k s := ⟨_, rfl⟩
    have o := OK.out Q k q1 hk hend
    rw [← hy] at hu1 hu2 o
    have MQ : Hid (PB ≤ Q → y.l / 2 ^ (Q - pl) = y.h / 2 ^ (Q - pl)) := Lib.hid (fun h => by rw [hy]; exact MEET.out Q k q1 hk hend h q2)
    have FQ : Hid (y.l / 2 ^ (Q - pl) = y.h / 2 ^ (Q - pl) → IsFl (rv d) ((y.l / 2 ^ (Q - pl) : Nat) : Int) pl) := Lib.hid (fun h => by rw [hy] at h ⊢; exact MET.out Q k q1 hk hend h)
    have bl1 : y.l < 2 ^ (Q + 3 * 2 ^ s + 1) := Nat.lt_of_le_of_lt o.2.1 o.2.2.2
    have ML := Lib.hid (fun v w' ht hv => MUL.out Q y.l (Q + 3 * 2 ^ s + 1) v w' ht hv (by omega) q2 bl1 (by have := H2S.out.1; omega))
    have MH := Lib.hid (fun v w' ht hv => MUL.out Q y.h (Q + 3 * 2 ^ s + 1) v w' ht hv (by omega) q2 o.2.2.2 (by have := H2S.out.1; omega))
    rw [fl_norm (show pl ≤ Q by omega)] at ML MH
    obtain ⟨C, hC⟩ : ∃ C, C = norm false y.l (-(Q : Int)) := ⟨_, rfl⟩
    obtain ⟨E, hE⟩ : ∃ E, E = norm false y.h (-(Q : Int)) := ⟨_, rfl⟩
    rw [← hC] at hu1 ML
    rw [← hE] at hu2 MH
    generalize mulC C (-(pl : Int)) = bc at *
    generalize mulC E (-(pl : Int)) = be at *
    obtain ⟨fl, hfl⟩ : ∃ fl, fl = y.l / 2 ^ (Q - pl) := ⟨_, rfl⟩
    obtain ⟨fh, hfh⟩ : ∃ fh, fh = y.h / 2 ^ (Q - pl) := ⟨_, rfl⟩
    rw [← hfl] at ML MQ FQ
    rw [← hfh] at MH MQ FQ
    obtain ⟨A, hA⟩ : ∃ A, A = ofInt ((fl : Nat) : Int) (-(pl : Int)) := ⟨_, rfl⟩
    obtain ⟨F, hF⟩ : ∃ F, F = ofInt ((fh : Nat) : Int) (-(pl : Int)) := ⟨_, rfl⟩
    have HAF := Lib.hid (show (A = ofInt ((fl : Nat) : Int) (-(pl : Int)) ∧ F = ofInt ((fh : Nat) : Int) (-(pl : Int))) ∧ True from ⟨⟨hA, hF⟩, trivial⟩)
    rw [← hA] at ML
    rw [← hF] at MH
    obtain ⟨e1, f1, g1, rfl, hv1⟩ := hu1.parts
    obtain ⟨e2, f2, g2, rfl, hv2⟩ := hu2.parts
    have B1 := bl_thru hbel.out (Nat.le_refl _) hb1
    have R1 := gR.out.below hb1
    have D1 := gD.out.below hb1
    have hz1 : w.heap.size < w1.heap.size := R1.lt
    obtain ⟨V1, hV1⟩ : ∃ V, V = ((w1.alloc (.cells #[.bool C.neg, .slice e1 f1 g1, .int .i64 C.e] 24)).alloc (.cells #[.bool E.neg, .slice e2 f2 g2, .int .i64 E.e] 24)) := ⟨_, rfl⟩
    have gR1 := Lib.hid (show GD V1 w.heap.size nz from by rw [hV1]; exact (R1.alloc _).alloc _)
    have gD1 := Lib.hid (show GD V1 c0 d from by rw [hV1]; exact (D1.alloc _).alloc _)
    have BB1 := Lib.hid (show Below w.heap.size w V1 from by rw [hV1]; exact (B1.alloc (by omega) _).alloc (by simp; omega) _)
    have XC := Lib.hid (show Box V1 w1.heap.size 24 (.bool C.neg) (.slice e1 f1 g1) (.int .i64 C.e) from by rw [hV1]; exact (Box.new w1 _ _ _ _).alloc _)
    have XE := Lib.hid (show Box V1 (w1.heap.size + 1) 24 (.bool E.neg) (.slice e2 f2 g2) (.int .i64 E.e) from by rw [hV1]; exact Box.new2 w1 _ _ _ _ _)
    have NC := Lib.hid (show NV V1 (.slice e1 f1 g1) C.m from by rw [hV1]; exact (hv1.alloc _).alloc _)
    have NE := Lib.hid (show NV V1 (.slice e2 f2 g2) E.m from by rw [hV1]; exact (hv2.alloc _).alloc _)
    obtain ⟨b8, hb8⟩ : ∃ b8, b8 = w1.heap.size := ⟨_, rfl⟩
    rw [← hb8] at XC XE hz1
    clear hu1 hu2 hb1 hv1 hv2 B1 R1 D1 gR gD hbel o hy hC hE hfl hfh hA hF bl1 hk hend EC OK MEET MET MUL
    go_wp2_with fail
    rw [← hV1, ← hb8]
    clear hV1 hb8
    refine (ML.out _ _ (HT.out.below BB1.out) ⟨_, rfl, NC.out⟩).mono ?_
    rintro r w2 ⟨a2, n2, m2, rfl, hv2, hb2⟩
    have BB2 := bl_thru BB1.out (Nat.le_refl _) hb2
    obtain ⟨V2, hV2⟩ : ∃ V, V = w2.alloc (.cells #[.bool A.neg, .slice a2 n2 m2, .int .i64 A.e] 24) := ⟨_, rfl⟩
    have hz2 : b8 + 1 < w2.heap.size := (XE.out.below hb2).lt
    have gR2 := Lib.hid (show GD V2 w.heap.size nz from by rw [hV2]; exact (gR1.out.below hb2).alloc _)
    have gD2 := Lib.hid (show GD V2 c0 d from by rw [hV2]; exact (gD1.out.below hb2).alloc _)
    have BC2 := Lib.hid (show Below w.heap.size w V2 from by rw [hV2]; exact BB2.alloc (by omega) _)
    have XE2 := Lib.hid (show Box V2 (b8 + 1) 24 (.bool E.neg) (.slice e2 f2 g2) (.int .i64 E.e) from by rw [hV2]; exact (XE.out.below hb2).alloc _)
    have NE2 := Lib.hid (show NV V2 (.slice e2 f2 g2) E.m from by rw [hV2]; exact (NE.out.below hb2).alloc _)
    have XA := Lib.hid (show Box V2 w2.heap.size 24 (.bool A.neg) (.slice a2 n2 m2) (.int .i64 A.e) from by rw [hV2]; exact Box.new w2 _ _ _ _)
    have NA := Lib.hid (show NV V2 (.slice a2 n2 m2) A.m from by rw [hV2]; exact hv2.alloc _)
    obtain ⟨j0, j1, j2, -, -, -⟩ := ((XE.out.below hb2).alloc (.cells #[.bool A.neg, .slice a2 n2 m2, .int .i64 A.e] 24)).cells
    obtain ⟨b9, hb9⟩ : ∃ b9, b9 = w2.heap.size := ⟨_, rfl⟩
    rw [← hb9] at XA hz2
    clear hv2 hb2 BB2 gR1 gD1 BB1 XC XE NC NE ML
    go_wp2_with fail
    rw [← hV2, ← hb9]
    clear hV2 hb9 j0 j1 j2
    refine (MH.out _ _ (HT.out.below BC2.out) ⟨_, rfl, NE2.out⟩).mono ?_
    rintro r w3 ⟨a3, n3, m3, rfl, hv3, hb3⟩
    have BB3 := bl_thru BC2.out (Nat.le_refl _) hb3
    have hz3 : b9 < w3.heap.size := (XA.out.below hb3).lt
    obtain ⟨V3, hV3⟩ : ∃ V, V = w3.alloc (.cells #[.bool F.neg, .slice a3 n3 m3, .int .i64 F.e] 24) := ⟨_, rfl⟩
    have gR3 := Lib.hid (show GD V3 w.heap.size nz from by rw [hV3]; exact (gR2.out.below hb3).alloc _)
    have gD3 := Lib.hid (show GD V3 c0 d from by rw [hV3]; exact (gD2.out.below hb3).alloc _)
    have BC3 := Lib.hid (show Below w.heap.size w V3 from by rw [hV3]; exact BB3.alloc (by omega) _)
    have XA3 := Lib.hid (show Box V3 b9 24 (.bool A.neg) (.slice a2 n2 m2) (.int .i64 A.e) from by rw [hV3]; exact (XA.out.below hb3).alloc _)
    have NA3 := Lib.hid (show NV V3 (.slice a2 n2 m2) A.m from by rw [hV3]; exact (NA.out.below hb3).alloc _)
    have XF := Lib.hid (show Box V3 w3.heap.size 24 (.bool F.neg) (.slice a3 n3 m3) (.int .i64 F.e) from by rw [hV3]; exact Box.new w3 _ _ _ _)
    have NF := Lib.hid (show NV V3 (.slice a3 n3 m3) F.m from by rw [hV3]; exact hv3.alloc _)
    obtain ⟨j0, j1, j2, -, -, -⟩ := ((XA.out.below hb3).alloc (.cells #[.bool F.neg, .slice a3 n3 m3, .int .i64 F.e] 24)).cells
    obtain ⟨b10, hb10⟩ : ∃ b10, b10 = w3.heap.size := ⟨_, rfl⟩
    rw [← hb10] at XF
    clear hv3 hb3 BB3 gR2 gD2 BC2 XE2 NE2 XA NA MH
    have SM := Lib.hid (fun w' h1 h2 => same_any (.agg #[.bool A.neg, .slice a2 n2 m2, .int .i64 A.e]) (.agg #[.bool F.neg, .slice a3 n3 m3, .int .i64 F.e]) A F w' h1 h2)
    have hcase : (sameB A F = true ∧ A = F) ∨ (sameB A F = false ∧ A ≠ F) := by
      cases hs : sameB A F
      · exact Or.inr ⟨rfl, fun h => by rw [sameB_iff.2 h] at hs; cases hs⟩
      · exact Or.inl ⟨rfl, sameB_iff.1 hs⟩
    generalize sameB A F = sb at *
    go_wp2_with fail
    rw [← hV3]
    refine (SM.out _ ⟨_, rfl, NA3.out⟩ ⟨_, rfl, NF.out⟩).mono ?_
    rintro r w4 ⟨rfl, hb4⟩
    have BB4 := Lib.hid (bl_thru BC3.out (Nat.le_refl _) hb4)
    have gR4 := Lib.hid (gR3.out.below hb4)
    have gD4 := Lib.hid (gD3.out.below hb4)
    have XA4 := Lib.hid (XA3.out.below hb4)
    have NA4 := Lib.hid (NA3.out.below hb4)
    clear hb4 hV3 hb10 j0 j1 j2 BC3 gR3 gD3 XA3 NA3 XF NF SM
    obtain ⟨i0, i1, i2, -, -, -⟩ := XA4.out.cells
    obtain ⟨_, _, _, z0, z1, z2, z3, z4, z5⟩ := gR4.out.cells
    rcases hcase with ⟨rfl, hAF⟩ | ⟨rfl, hAF⟩
    · have hres : Hid (IsFl (rv d) ((fl : Nat) : Int) pl) := Lib.hid (by
        refine FQ.out ?_
        have := ofInt_inj (HAF.out.1.1.symm.trans (hAF.trans HAF.out.1.2))
        omega)
      clear hAF MQ FQ
      go_wp2_with fail
      clear i0 i1 i2 z0 z1 z2 z3 z4 z5
      obtain ⟨r1, r2, r3, hr, hrn⟩ := gR4.out.put (e := A) NA4.out
      have HR := Lib.hid hrn
      obtain ⟨s0, s1, s2, -, -, -⟩ := hr.cells
      clear hr hrn
      refine bodyPost_ret (v := .agg #[.bool A.neg, .slice r1 r2 r3, .int .i64 A.e]) (by simp [results, Tryd.results72, go_sem, s0, s1, s2]) rfl ?_
      refine ⟨(fl : Int), hres.out, ?_⟩
      rw [← HAF.out.1.1]
      exact ⟨_, rfl, ⟨_, rfl, HR.out⟩, bl_set3 BB4.out (Nat.le_refl _) _ _ _⟩
    · have hQlt : Q < PB := by
        refine Nat.lt_of_not_le fun h => hAF ?_
        rw [HAF.out.1.1, HAF.out.1.2, MQ.out h]
      clear hAF MQ FQ i0 i1 i2 z0 z1 z2 z3 z4 z5
      go_wp2_with fail
      go_roundw
      case rel => exact ⟨Q * 2, by simp, by omega, by omega, gR4, gD4, BB4⟩
      case measure => simp [intOf]; omega
end Go.Proofs.YtmpdbmaokbhcjaaDoor

/-
  PLAIN: exact numbers as quotients. THE WALKS of series.check, series.Exp.
-/
namespace Go.Proofs.YtmpdbmaokbhcjaaDoor
open Go.RowKit Nt Fm
open Ea (Pr IsFl tw PB)

theorem rv_vl (d : D) {T : Nat} (h : 0 ≤ d.e + T) : rv d * 2 ^ T = ((d.vl T : Int) : Rat) := by
  unfold rv D.vl
  rw [Rat.mul_assoc, ← Ea.tw_nat, ← Ea.tw_add, Rat.intCast_mul, show d.e + (T : Int) = (((d.e + T).toNat : Nat) : Int) by omega, Ea.tw_nat]
  congr 1
  rw [Int.toNat_natCast, Rat.intCast_pow]
  rfl
theorem rv_le {c d : D} : cmp c d ≤ 0 ↔ rv c ≤ rv d := by
  obtain ⟨T, h1, h2⟩ := exT c.e d.e
  have hP := Ea.two_pos T
  rw [cmp_vl c d T h1 h2]
  have e : rv c ≤ rv d ↔ rv c * 2 ^ T ≤ rv d * 2 ^ T := ⟨fun h => Rat.mul_le_mul_of_nonneg_right h (Rat.le_of_lt hP), fun h => Rat.le_of_mul_le_mul_right h hP⟩
  rw [e, rv_vl c h1, rv_vl d h2, Rat.intCast_le_intCast]
  rcases Int.lt_trichotomy (c.vl T - d.vl T) 0 with h | h | h
  · rw [Int.sign_eq_neg_one_of_neg h]; omega
  · rw [h]; simp; omega
  · rw [Int.sign_eq_one_of_pos h]; omega
theorem rv_norm (g : Bool) (m : Nat) (e : Int) : rv (norm g m e) = rv ⟨g, m, e⟩ := by
  obtain ⟨T, h1, -⟩ := exT e e
  have hP := Ea.two_pos T
  have a := rv_vl (norm g m e) (norm_eT h1)
  have b := rv_vl (⟨g, m, e⟩ : D) (T := T) h1
  rw [norm_vl _ _ _ _ h1, ← b] at a
  have : (rv (norm g m e) - rv ⟨g, m, e⟩) * 2 ^ T = 0 := by grind
  rcases Rat.mul_eq_zero.1 this with h | h
  · grind
  · grind
theorem rv_ofInt (q e : Int) : rv (ofInt q e) = (q : Rat) * tw e := by
  unfold ofInt
  rw [rv_norm]
  unfold rv D.sm
  congr 2
  simp only [decide_eq_true_eq]; split <;> omega
/-- what check says of what Check said c of -/
def sckE (c : Int) (d : D) (pl : Int) : Int := if c ≠ 0 then c else if pl < 0 ∨ 1300 < pl then 1 else if 2 ^ 1280 ≤ d.m then 2 else 0
theorem sckE_zero {c pl : Int} {d : D} (h : sckE c d pl = 0) : c = 0 ∧ 0 ≤ pl ∧ pl ≤ 1300 ∧ d.m < 2 ^ 1280 := by
  unfold sckE at h
  by_cases h1 : c ≠ 0
  · rw [if_pos h1] at h; exact absurd h h1
  · rw [if_neg h1] at h
    by_cases h2 : pl < 0 ∨ 1300 < pl
    · rw [if_pos h2] at h; omega
    · rw [if_neg h2] at h
      by_cases h3 : 2 ^ 1280 ≤ d.m
      · rw [if_pos h3] at h; omega
      · exact ⟨by omega, by omega, by omega, by omega⟩
theorem pw_le {a k l : Nat} (h : 2 ^ l ≤ a) (hk : k ≤ l) : 2 ^ k ≤ a := Nat.le_trans (Nat.pow_le_pow_right (by decide) hk) h
theorem RD.size {w : World} {g : Bool} {ao : Option Addr} {n cp : Nat} {x : Int} {d : D} (h : RD w (.agg #[.bool g, .slice ao n cp, .int .i64 x]) 0 d) : (n ≤ 40 ∧ d.m < 2 ^ 1280) ∨ (40 < n ∧ 2 ^ 1280 ≤ d.m) := by
  obtain ⟨g', ao', n', cp', x', e, -, -, -, h7, -⟩ := h
  obtain ⟨rfl, ⟨rfl, rfl, rfl⟩, rfl⟩ : g = g' ∧ (ao = ao' ∧ n = n' ∧ cp = cp') ∧ x = x' := by simpa using e
  obtain ⟨⟨l, h1, h2, -, ao2, c2, e2, -⟩, -⟩ := h7 rfl
  obtain ⟨-, rfl, -⟩ : ao = ao2 ∧ n = l.length ∧ cp = c2 := by simpa using e2
  by_cases hn : l.length ≤ 40
  · left
    refine ⟨hn, ?_⟩
    rw [← h2]
    exact lt_pow (b := 1280) (val_lt h1.1) (by omega)
  · right
    refine ⟨by omega, ?_⟩
    rw [← h2]
    have := h1.ge (l.length - 1) (by omega)
    exact pw_le (k := 1280) this (by omega)
set_option maxRecDepth 100000 in
set_option maxHeartbeats 4000000 in
theorem scheck_any (v : Value) (c pl : Int) (d : D) (w : World) (h : RD w v c d) :
    Calls Tryd.prog 69 #[v, .int .i64 pl] w fun r w' => r = .returned (.int .i64 (sckE c d pl)) ∧ Below w.heap.size w w' := by
  have CK := Lib.hid (fun w' hb => (h.below (w' := w') hb).check)
  have h' := h
  obtain ⟨g, ao, n, cp, x, rfl, -⟩ := h
  by_cases hc : c = 0
  · subst hc
    have hsz := h'.size
    have hcase : ((pl < 0 ∨ ¬ pl < 0 ∧ 1300 < pl) ∧ sckE 0 d pl = 1) ∨ (¬ pl < 0 ∧ ¬ 1300 < pl ∧ ((¬ (40 : Int) < n ∧ sckE 0 d pl = 0) ∨ ((40 : Int) < n ∧ sckE 0 d pl = 2))) := by
      unfold sckE
      rw [if_neg (by omega)]
      by_cases h1 : pl < 0 ∨ 1300 < pl
      · left; rw [if_pos h1]; exact ⟨by omega, rfl⟩
      · right
        rw [if_neg h1]
        refine ⟨by omega, by omega, ?_⟩
        rcases hsz with ⟨a, b⟩ | ⟨a, b⟩
        · left; rw [if_neg (by omega)]; exact ⟨by omega, rfl⟩
        · right; rw [if_pos b]; exact ⟨by omega, rfl⟩
    generalize sckE 0 d pl = E at *
    clear hsz h'
    rcases hcase with ⟨h1 | ⟨h1, h2⟩, rfl⟩ | ⟨h1, h2, ⟨h3, rfl⟩ | ⟨h3, rfl⟩⟩
    all_goals
      go_enter Tryd.func69, Tryd.ntmps69
      go_wp2_with fail
      refine (CK.out _ ((Below.refl w.heap.size w).alloc (Nat.le_refl _) _)).mono ?_
      rintro r w1 ⟨rfl, hb⟩
      have B1 := Lib.hid (bl_thru ((Below.refl w.heap.size w).alloc (Nat.le_refl _) _) (Nat.le_refl _) hb)
      have X1 := Lib.hid ((Box.new w (.bool g) (.slice ao n cp) (.int .i64 x) 24).below hb)
      obtain ⟨q0, q1, q2, -, -, -⟩ := X1.out.cells
      clear hb
      go_wp2
      go_ret
      exact ⟨rfl, B1.out⟩
  · have he : sckE c d pl = c := by unfold sckE; rw [if_pos hc]
    have hcb : (c != 0) = true := by rw [bne_iff_ne]; exact hc
    rw [he]
    go_enter Tryd.func69, Tryd.ntmps69
    go_wp2_with fail
    refine (CK.out _ ((Below.refl w.heap.size w).alloc (Nat.le_refl _) _)).mono ?_
    rintro r w1 ⟨rfl, hb⟩
    have B1 := Lib.hid (bl_thru ((Below.refl w.heap.size w).alloc (Nat.le_refl _) _) (Nat.le_refl _) hb)
    clear hb
    go_wp2
    go_ret
    exact ⟨rfl, B1.out⟩
end Go.Proofs.YtmpdbmaokbhcjaaDoor

/-
  THE WALK of series.Exp.
-/
namespace Go.Proofs.YtmpdbmaokbhcjaaDoor
open Go.RowKit Nt Fm
open Ea (Pr IsFl tw PB)

def absN (d : D) : D := ⟨false, d.m, d.e⟩
def d800 : D := norm false 800 0
/-- the error of Exp -/
def sexE (c : Int) (d : D) (pl : Int) : Int := if sckE c d pl ≠ 0 then sckE c d pl else if 0 < cmp (absN d) d800 then 2 else 0
/-- what Exp tells -/
def RetSx (w : World) (E : Int) (d : D) (pl : Int) (r : Ending) (w' : World) : Prop :=
  ∃ R, RetR w E R r w' ∧ (E = 0 → ∃ q : Int, IsFl (rv d) q pl.toNat ∧ R = ofInt q (-pl)) ∧ (E ≠ 0 → R = nz)
theorem sexE_zero {c pl : Int} {d : D} (h : sexE c d pl = 0) : c = 0 ∧ 0 ≤ pl ∧ pl ≤ 1300 ∧ d.m < 2 ^ 1280 ∧ cmp (absN d) d800 ≤ 0 := by
  unfold sexE at h
  by_cases h1 : sckE c d pl ≠ 0
  · rw [if_pos h1] at h; exact absurd h h1
  · rw [if_neg h1] at h
    obtain ⟨a, b, e, f⟩ := sckE_zero (Decidable.not_not.1 h1)
    by_cases h2 : 0 < cmp (absN d) d800
    · rw [if_pos h2] at h; omega
    · exact ⟨a, b, e, f, by omega⟩
theorem rv_800 : rv d800 = 800 := by
  unfold d800
  rw [rv_norm, rv_pos, Ea.tw_zero, Rat.mul_one]; rfl
theorem abs_800 {d : D} (h : cmp (absN d) d800 ≤ 0) : (d.m : Rat) * tw d.e ≤ 800 := by
  have := rv_le.1 h
  rw [rv_800] at this
  exact this
theorem s_of {m : Nat} {e : Int} (hm : m ≠ 0) (h : (m : Rat) * tw e ≤ 800) : (blen m : Int) + e ≤ 10 := by
  have h1 : 2 ^ (blen m - 1) ≤ m := bl_le hm
  have hb : 0 < blen m := bl_pos hm
  have h2 : ((2 ^ (blen m - 1) : Nat) : Rat) ≤ (m : Rat) := Rat.natCast_le_natCast.2 h1
  have h3 := Rat.mul_le_mul_of_nonneg_right h2 (Rat.le_of_lt (Ea.tw_pos e))
  rw [Ea.cast_two, ← Ea.tw_nat, ← Ea.tw_add] at h3
  have h4 : tw ((10 : Nat) : Int) = 1024 := by rw [Ea.tw_nat]; decide +kernel
  have h5 : tw (((blen m - 1 : Nat) : Int) + e) < tw ((10 : Nat) : Int) := by grind
  have := Ea.tw_lt_of h5
  omega
theorem fl_zero (pl : Nat) : IsFl 0 ((2 ^ pl : Nat) : Int) pl ∧ ofInt ((2 ^ pl : Nat) : Int) (-(pl : Int)) = norm false 1 0 := by
  have e1 : (((2 ^ pl : Nat) : Int) : Rat) * tw (-(pl : Int)) = 1 := by
    show ((2 ^ pl : Nat) : Rat) * _ = 1
    rw [Ea.cast_two, ← Ea.tw_nat, Rat.mul_comm, Ea.tw_neg]
  have hp := Ea.tw_pos (-(pl : Int))
  refine ⟨⟨by rw [e1]; exact Ea.lo_zero, 1, Ea.hi_zero, ?_⟩, ?_⟩
  · rw [Rat.add_mul, e1]; grind
  · have h1 : 0 ≤ -(pl : Int) + (pl : Int) := by omega
    refine nf_inj (T := pl) (ofInt_nf _ _) (norm_nf _ _ _) (ofInt_eT h1) (norm_eT (by omega)) ?_
    rw [ofInt_vl _ _ _ h1, norm_vl _ _ _ _ (by omega)]
    unfold D.vl D.sm
    simp only [Bool.false_eq_true, if_false]
    rw [show (-(pl : Int) + (pl : Int)).toNat = 0 by omega, show ((0 : Int) + (pl : Int)).toNat = pl by omega]
    simp
theorem GD.zput {u : World} {b : Nat} {x : D} (h : GD u b x) : Box (((u.setCell ⟨b, 0, none⟩ (.bool false)).setCell ⟨b, 1, none⟩ (.slice none 0 0)).setCell ⟨b, 2, none⟩ (.int .i64 0)) b 24 (.bool false) (.slice none 0 0) (.int .i64 0) := by
  obtain ⟨a, n, c, h1, h2⟩ := h
  exact h1.set3 _ _ _
set_option maxRecDepth 100000 in
set_option maxHeartbeats 8000000 in
theorem sexp_any (v : Value) (c pl : Int) (d : D) (w : World) (hT : Tab w) (h : RD w v c d) (p0 : -9223372036854775808 ≤ pl) (p1 : pl ≤ 9223372036854775807) :
    Calls Tryd.prog 27 #[v, .int .i64 pl] w (RetSx w (sexE c d pl) d pl) := by
  have SC := Lib.hid (fun w' hb => scheck_any v c pl d w' (h.below (w' := w') hb))
  have h' := h
  obtain ⟨g, ao, n, cp, x, rfl, -⟩ := h
  have HT := Lib.hid hT
  by_cases hk : sckE c d pl ≠ 0
  · have he : sexE c d pl = sckE c d pl := by unfold sexE; rw [if_pos hk]
    have hb1 : (sckE c d pl != 0) = true := by rw [bne_iff_ne]; exact hk
    unfold RetSx
    rw [he]
    have HE := Lib.hid (show sckE c d pl ≠ 0 ∧ True from ⟨hk, trivial⟩)
    generalize sckE c d pl = E at *
    clear he hk h'
    go_enter Tryd.func27, Tryd.ntmps27
    go_wp2_with fail
    refine (SC.out _ (bl_alloc2 _ _ _)).mono ?_
    rintro r w1 ⟨rfl, hb⟩
    have B1 := Lib.hid (bl_thru (bl_alloc2 w _ _) (Nat.le_refl _) hb)
    have Z1 := Lib.hid ((GD.nil2 w (.cells #[.bool g, .slice ao n cp, .int .i64 x] 24)).below hb)
    obtain ⟨_, _, _, z0, z1, z2, z3, z4, z5⟩ := Z1.out.cells
    clear hb
    go_wp2
    clear z0 z1 z2 z3 z4 z5
    have HZ := Lib.hid Z1.out.zput
    obtain ⟨s0, s1, s2, -, -, -⟩ := HZ.out.cells
    refine bodyPost_ret (v := .tuple #[.agg #[.bool false, .slice none 0 0, .int .i64 0], .int .i64 E]) (by simp [results, Tryd.results27, go_sem, s0, s1, s2]) rfl ?_
    exact ⟨nz, ⟨none, 0, 0, rfl, NV.nil _, bl_set3 B1.out (by omega) _ _ _⟩, fun h0 => absurd h0 HE.out.1, fun _ => rfl⟩
  · have hk0 : sckE c d pl = 0 := Decidable.not_not.1 hk
    obtain ⟨rfl, q0, q1, hm⟩ := sckE_zero hk0
    have fit := h'.fit
    have hdv := h'.dv
    have hNe := fit.2.2
    obtain ⟨g', ao', n', cp', x', e9, -, -, -, h7, -⟩ := h'
    obtain ⟨rfl, ⟨rfl, rfl, rfl⟩, rfl⟩ : g = g' ∧ (ao = ao' ∧ n = n' ∧ cp = cp') ∧ x = x' := by simpa using e9
    obtain ⟨hnv, rfl, rfl, -⟩ := h7 rfl
    obtain ⟨ao2, n2, c2, e2, l1, l2, lz⟩ := nv_len hnv
    obtain ⟨rfl, rfl, rfl⟩ : ao = ao2 ∧ n = n2 ∧ cp = c2 := by simpa using e2
    rw [hk0] at SC
    obtain ⟨pn, rfl⟩ : ∃ pn : Nat, pl = (pn : Int) := ⟨pl.toNat, by omega⟩
    have N8 := Lib.hid (fun va w' ht ha => dnorm_any false va 800 10 0 w' ht ha (by decide) (by omega) (by omega) (by omega))
    have hd8 : d800 = ⟨false, 25, 5⟩ := by kernel_rfl
    have CM := Lib.hid (fun vd w' ht hc hd => compareD_any (.agg #[.bool false, .slice ao n cp, .int .i64 d.e]) vd (absN d) d800 1280 w' ht hc hd hm (by rw [hd8]; exact lt_pow (n := 25) (a := 5) (b := 1280) (by decide) (by omega)) (by omega) (by show _ ≤ d.e; omega) (by show d.e ≤ _; omega) (by rw [hd8]; decide) (by rw [hd8]; decide))
    have O8 := Lib.hid (fun w' => natOf_any 800 (by omega) (by omega) w')
    have O1 := Lib.hid (fun w' => natOf_any 1 (by omega) (by omega) w')
    have N1 := Lib.hid (fun va w' ht ha => dnorm_any false va 1 1 0 w' ht ha (by decide) (by omega) (by omega) (by omega))
    have he : sexE 0 d pn = if 0 < cmp (absN d) d800 then 2 else 0 := by unfold sexE; rw [if_neg (by omega)]
    have hcase : (0 < cmp (absN d) d800 ∧ sexE 0 d pn = 2) ∨ (cmp (absN d) d800 ≤ 0 ∧ sexE 0 d pn = 0 ∧ (d.m : Rat) * tw d.e ≤ 800) := by
      rw [he]
      by_cases h2 : 0 < cmp (absN d) d800
      · left; rw [if_pos h2]; exact ⟨h2, rfl⟩
      · right; rw [if_neg h2]; exact ⟨by omega, rfl, abs_800 (by omega)⟩
    unfold RetSx
    have HNV := Lib.hid hnv
    generalize sexE 0 d pn = E at *
    clear he hk hk0 h7 e9 e2 hd8 hT hnv hdv
    have hst : ∃ V : World, True := ⟨w, trivial⟩
    clear hst
    go_enter Tryd.func27, Tryd.ntmps27
    go_wp2_with fail
    refine (SC.out _ (bl_alloc2 _ _ _)).mono ?_
    rintro r w1 ⟨rfl, hb1⟩
    have B1 := Lib.hid (bl_thru (bl_alloc2 w _ _) (Nat.le_refl _) hb1)
    have Z1 := Lib.hid ((GD.nil2 w (.cells #[.bool d.neg, .slice ao n cp, .int .i64 d.e] 24)).below hb1)
    have X1 := Lib.hid (((Box.new w (.bool d.neg) (.slice ao n cp) (.int .i64 d.e) 24).alloc (.cells #[.bool false, .slice none 0 0, .int .i64 0] 24)).below hb1)
    clear hb1
    go_wp2_with fail
    obtain ⟨j0, j1, j2, -, -, -⟩ := X1.out.drew.cells
    go_region_held3 (fun w' => w'.cell? ⟨w.heap.size, 1, none⟩ = some (.slice ao n cp) ∧ w'.cell? ⟨w.heap.size, 2, none⟩ = some (.int .i64 d.e))
      (first
        | with_reducible exact ⟨j1, j2⟩
        | (obtain ⟨-, i1, i2, -, -, -⟩ := (X1.out.drew.below hb2).cells
           with_reducible exact ⟨i1, i2⟩)
        | (obtain ⟨-, i1, i2, -, -, -⟩ := ((X1.out.drew.below HB2.out).below hb3).cells
           with_reducible exact ⟨i1, i2⟩)
        | (obtain ⟨-, i1, i2, -, -, -⟩ := (((X1.out.drew.below HB2.out).below HB3.out).below hb4).cells
           with_reducible exact ⟨i1, i2⟩))
      (first
        | (go_at_call 71; refine (O8.out _).mono ?_; rintro r w2 ⟨v2, rfl, hv2, hb2⟩; have HB2 := Lib.hid hb2; have V2 := Lib.hid hv2; have B2 := Lib.hid (bl_thru B1.out.drew (Nat.le_refl _) hb2))
        | (go_at_call 38; refine (N8.out _ _ (HT.out.below B2.out) V2.out).mono ?_; rintro r w3 ⟨v3, rfl, hv3, hb3⟩; have HB3 := Lib.hid hb3; have V3 := Lib.hid hv3; have B3 := Lib.hid (bl_thru B2.out (Nat.le_refl _) hb3))
        | (go_at_call 70; refine (CM.out _ _ (HT.out.below B3.out) ⟨_, rfl, HNV.out.below B3.out⟩ V3.out).mono ?_; rintro r w4 ⟨rfl, hb4⟩; have HB4 := Lib.hid hb4; have B4 := Lib.hid (bl_thru B3.out (Nat.le_refl _) hb4)))
    have Z4 := Lib.hid (((Z1.out.drew.below HB2.out).below HB3.out).below HB4.out)
    have X4 := Lib.hid (((X1.out.drew.below HB2.out).below HB3.out).below HB4.out)
    clear hv2 hb2 hv3 hb3 hb4 HB2 HB3 HB4 V2 V3 B1 B2 B3 Z1 X1 j0 j1 j2
    rcases hcase with ⟨hcm, hE⟩ | ⟨hcm, hE, h800⟩
    · obtain ⟨_, _, _, z0, z1, z2, z3, z4, z5⟩ := Z4.out.cells
      go_wp2
      clear z0 z1 z2 z3 z4 z5
      have HZ := Lib.hid Z4.out.zput
      obtain ⟨s0, s1, s2, -, -, -⟩ := HZ.out.cells
      refine bodyPost_ret (v := .tuple #[.agg #[.bool false, .slice none 0 0, .int .i64 0], .int .i64 2]) (by simp [results, Tryd.results27, go_sem, s0, s1, s2]) rfl ?_
      subst hE
      exact ⟨nz, ⟨none, 0, 0, rfl, NV.nil _, bl_set3 B4.out (by omega) _ _ _⟩, fun h0 => absurd h0 (by decide), fun _ => rfl⟩
    · rcases lz with ⟨m0, n0⟩ | ⟨m0, n0⟩
      · have hres : Hid ((∃ q : Int, IsFl (rv d) q ((pn : Int)).toNat ∧ norm false 1 0 = ofInt q (-(pn : Int))) ∧ True) := Lib.hid ⟨⟨((2 ^ pn : Nat) : Int), by
          have h0 : rv d = 0 := by unfold rv D.sm; rw [m0]; cases d.neg <;> simp <;> exact Rat.zero_mul _
          rw [h0, Int.toNat_natCast]; exact (fl_zero pn).1, (fl_zero pn).2.symm⟩, trivial⟩
        obtain ⟨_, _, _, z0, z1, z2, z3, z4, z5⟩ := Z4.out.cells
        obtain ⟨j0, j1, j2, -, -, -⟩ := X4.out.cells
        have hn0 : ((n : Int) == 0) = true := by rw [beq_iff_eq]; omega
        subst hE
        go_wp2_with fail
        refine (O1.out _).mono ?_
        rintro r w5 ⟨v5, rfl, hv5, hb5⟩
        have B5 := Lib.hid (bl_thru B4.out (Nat.le_refl _) hb5)
        have Z5 := Lib.hid (Z4.out.below hb5)
        have V5 := Lib.hid hv5
        clear hv5 hb5 z0 z1 z2 z3 z4 z5 j0 j1 j2
        go_wp2_with fail
        refine (N1.out _ _ (HT.out.below B5.out) V5.out).mono ?_
        rintro r w6 ⟨v6, rfl, hu6, hb6⟩
        obtain ⟨e1, f1, g1, rfl, hv6⟩ := hu6.parts
        have B6 := Lib.hid (bl_thru B5.out (Nat.le_refl _) hb6)
        have Z6 := Lib.hid (Z5.out.below hb6)
        have V6 := Lib.hid hv6
        obtain ⟨R, hR⟩ : ∃ R, R = norm false 1 0 := ⟨_, rfl⟩
        rw [← hR] at V6 hres
        rw [← hR]
        clear hu6 hv6 hb6 hR B5 Z5 V5
        obtain ⟨_, _, _, z0, z1, z2, z3, z4, z5⟩ := Z6.out.cells
        go_wp2_with fail
        clear z0 z1 z2 z3 z4 z5
        obtain ⟨r1, r2, r3, hr, hrn⟩ := Z6.out.put (e := R) V6.out
        have HRn := Lib.hid hrn
        obtain ⟨s0, s1, s2, -, -, -⟩ := hr.cells
        clear hr hrn
        refine bodyPost_ret (v := .tuple #[.agg #[.bool R.neg, .slice r1 r2 r3, .int .i64 R.e], .int .i64 0]) (by simp [results, Tryd.results27, go_sem, s0, s1, s2]) rfl ?_
        refine ⟨R, ⟨r1, r2, r3, rfl, HRn.out, bl_set3 B6.out (by omega) _ _ _⟩, ?_⟩
        first
          | exact hres.out.1
          | exact ⟨fun _ => hres.out.1, fun h0 => absurd rfl h0⟩
      · have hn0 : ((n : Int) == 0) = false := by rw [beq_eq_false_iff_ne]; omega
        have hbe := s_of m0 h800
        obtain ⟨s, hs⟩ : ∃ s : Nat, (s : Int) = max 0 ((blen d.m : Int) + d.e + 16) := ⟨(max 0 ((blen d.m : Int) + d.e + 16)).toNat, by omega⟩
        have FLc := Lib.hid (fun (X : Int) w' (hX : X = ((pn + 1300 : Nat) : Int)) (ht : Tab w') (hg : GD w' w.heap.size d) => show Calls Tryd.prog 72 #[.int .i64 (pn : Int), .int .i64 X, .func (.func 73) #[] #[.pointer (some ⟨w.heap.size, 0, none⟩)]] w' (fun r w'' => ∃ q : Int, IsFl (rv d) q pn ∧ RetD w' (ofInt q (-(pn : Int))) r w'') from by
          subst hX
          exact floorE_any w.heap.size d (pn + 1300) s pn w' ht hg (by omega) hm (by omega) (by omega) (Rat.le_trans h800 (by decide)) hs (by omega) (by omega) (by omega) (by omega))
        have G4 := Lib.hid (show GD w4 w.heap.size d from ⟨ao, n, cp, X4.out, HNV.out.below B4.out⟩)
        obtain ⟨j0, j1, j2, -, -, -⟩ := X4.out.cells
        subst hE
        clear hs hbe m0 n0 h800 hm
        go_wp2_with fail
        refine (FLc.out _ _ (by omega) (HT.out.below B4.out) G4.out).mono ?_
        rintro r w5 ⟨q, hq, v5, rfl, hu5, hb5⟩
        obtain ⟨R, hR⟩ : ∃ R, R = ofInt q (-(pn : Int)) := ⟨_, rfl⟩
        rw [← hR] at hu5
        have HQ := Lib.hid (show (IsFl (rv d) q ((pn : Int)).toNat ∧ R = ofInt q (-(pn : Int))) ∧ True from ⟨⟨by rw [Int.toNat_natCast]; exact hq, hR⟩, trivial⟩)
        obtain ⟨e1, f1, g1, rfl, hv5⟩ := hu5.parts
        have B5 := Lib.hid (bl_thru B4.out (Nat.le_refl _) hb5)
        have Z5 := Lib.hid (Z4.out.below hb5)
        have V5 := Lib.hid hv5
        clear hu5 hv5 hb5 hR hq j0 j1 j2 G4 FLc
        obtain ⟨_, _, _, z0, z1, z2, z3, z4, z5⟩ := Z5.out.cells
        go_wp2_with fail
        clear z0 z1 z2 z3 z4 z5
        obtain ⟨r1, r2, r3, hr, hrn⟩ := Z5.out.put (e := R) V5.out
        have HRn := Lib.hid hrn
        obtain ⟨s0, s1, s2, -, -, -⟩ := hr.cells
        clear hr hrn
        refine bodyPost_ret (v := .tuple #[.agg #[.bool R.neg, .slice r1 r2 r3, .int .i64 R.e], .int .i64 0]) (by simp [results, Tryd.results27, go_sem, s0, s1, s2]) rfl ?_
        refine ⟨R, ⟨r1, r2, r3, rfl, HRn.out, bl_set3 B5.out (by omega) _ _ _⟩, ?_⟩
        first
          | exact ⟨q, HQ.out.1.1, HQ.out.1.2⟩
          | exact ⟨fun _ => ⟨q, HQ.out.1.1, HQ.out.1.2⟩, fun h0 => absurd rfl h0⟩
end Go.Proofs.YtmpdbmaokbhcjaaDoor

/-
  PLAIN: sums and products of exact numbers as quotients.
-/
namespace Go.Proofs.YtmpdbmaokbhcjaaDoor
open Go.RowKit Nt Fm
open Ea (tw)

theorem rv_opp (d : D) : rv (opp d) = -rv d := by
  unfold rv
  rw [opp_sm, Rat.intCast_neg, Rat.neg_mul]
  rfl
theorem rv_plus (c d : D) : rv (plus c d) = rv c + rv d := by
  obtain ⟨T, h1, h2⟩ := exT c.e d.e
  have hP := Ea.two_pos T
  have a := rv_vl (plus c d) (plus_eT h1 h2)
  rw [plus_vl c d T h1 h2, Rat.intCast_add, ← rv_vl c h1, ← rv_vl d h2] at a
  have : (rv (plus c d) - (rv c + rv d)) * 2 ^ T = 0 := by grind
  rcases Rat.mul_eq_zero.1 this with h | h <;> grind
theorem rv_times (c d : D) : rv (times c d) = rv c * rv d := by
  unfold times
  rw [rv_ofInt, Rat.intCast_mul, Ea.tw_add]
  unfold rv
  grind
theorem over_tw (n : Rat) (p : Nat) : n * tw (-(p : Int)) = n / 2 ^ p := by
  have hP := Ea.two_pos p
  have h1 : n / 2 ^ p * 2 ^ p = n := Rat.div_mul_cancel (Rat.ne_of_gt hP)
  have h2 : tw (-(p : Int)) * 2 ^ p = 1 := by rw [← Ea.tw_nat, Ea.tw_neg]
  have h3 : (n * tw (-(p : Int)) - n / 2 ^ p) * 2 ^ p = 0 := by grind
  rcases Rat.mul_eq_zero.1 h3 with h | h <;> grind
end Go.Proofs.YtmpdbmaokbhcjaaDoor

/-
  PLAIN: what Exp and Log tell, and the laws of them.
-/
namespace Go.Proofs.YtmpdbmaokbhcjaaDoor
open Go.RowKit Nt Fm
open Ea (tw IsFl IsLg Lo Hi)

theorem fit_ofk {d : D} {k : Nat} (hn : d.Nf) (hk : k ≤ 12800) (hm : d.m < 2 ^ k) (h0 : -10000 ≤ d.e) (h1 : d.e ≤ 10000) : Fit d :=
  ⟨hn, @lt_pow _ k 12800 hm hk, h0, h1⟩
/-- a multiple of 2^e -/
theorem p_mono (k l : Nat) (h : k ≤ l) : 2 ^ k ≤ 2 ^ l := Nat.pow_le_pow_right (by decide) h
theorem p_lt (k l : Nat) (h : k < l) : 2 ^ k < 2 ^ l := Nat.pow_lt_pow_right (by decide) h
theorem ofInt_bd {q e : Int} {k : Nat} (hq : q.natAbs < 2 ^ k) (h0 : -10000 ≤ e) (h1 : e + k ≤ 10000) (hk : k ≤ 10000) : Fit (ofInt q e) := by
  unfold ofInt
  have h2 := norm_m_le (decide (q < 0)) q.natAbs e
  refine fit_ofk (k := k) (norm_nf _ _ _) (by omega) (Nat.lt_of_le_of_lt h2 hq) ?_ ?_
  · rcases norm_e_bd (decide (q < 0)) (e := e) hq with h | h
    · rw [h]; decide
    · omega
  · rcases norm_e_bd (decide (q < 0)) (e := e) hq with h | h
    · rw [h]; decide
    · omega
theorem ofInt_plus (a b e : Int) : plus (ofInt a e) (ofInt b e) = ofInt (a + b) e := by
  obtain ⟨T, h1, -⟩ := exT e e
  refine nf_inj (T := T) (ofInt_nf _ _) (ofInt_nf _ _) (plus_eT (ofInt_eT h1) (ofInt_eT h1)) (ofInt_eT h1) ?_
  rw [plus_vl _ _ _ (ofInt_eT h1) (ofInt_eT h1), ofInt_vl _ _ _ h1, ofInt_vl _ _ _ h1, ofInt_vl _ _ _ h1, Int.add_mul]
theorem ofInt_times (a b e f : Int) : times (ofInt a e) (ofInt b f) = ofInt (a * b) (e + f) := by
  obtain ⟨T, h1, -⟩ := exT e e
  obtain ⟨U, h2, -⟩ := exT f f
  refine nf_inj (T := T + U) (ofInt_nf _ _) (ofInt_nf _ _) ?_ (ofInt_eT (by omega)) ?_
  · exact times_eT (ofInt_eT h1) (ofInt_eT h2)
  · rw [times_vl _ _ _ _ (ofInt_eT h1) (ofInt_eT h2), ofInt_vl _ _ _ h1, ofInt_vl _ _ _ h2, ofInt_vl _ _ _ (by omega)]
    have : (e + f + ((T + U : Nat) : Int)).toNat = (e + (T : Int)).toNat + (f + (U : Int)).toNat := by omega
    rw [this, Int.pow_add]
    grind
theorem ofInt_one (e : Int) : ofInt 1 e = ⟨false, 1, e⟩ := by
  unfold ofInt norm
  rw [if_neg (by decide)]
  have : ctz (Int.natAbs 1) = 0 := by decide +kernel
  rw [this]
  simp
theorem ofInt_shift (q e : Int) (n : Nat) : ofInt (q * 2 ^ n) e = ofInt q (e + n) := by
  obtain ⟨T, h1, -⟩ := exT e e
  have h2 : 0 ≤ e + (n : Int) + (T : Int) := by omega
  refine nf_inj (T := T) (ofInt_nf _ _) (ofInt_nf _ _) (ofInt_eT h1) (ofInt_eT h2) ?_
  rw [ofInt_vl _ _ _ h1, ofInt_vl _ _ _ h2, Int.mul_assoc, ← Int.pow_add]
  congr 2; omega
theorem cmp_ofInt {a b e : Int} : cmp (ofInt a e) (ofInt b e) ≤ 0 ↔ a ≤ b := by
  rw [rv_le, rv_ofInt, rv_ofInt]
  have hp := Ea.tw_pos e
  constructor
  · intro h
    exact Rat.intCast_le_intCast.1 (Rat.le_of_mul_le_mul_right h hp)
  · intro h
    exact Rat.mul_le_mul_of_nonneg_right (Rat.intCast_le_intCast.2 h) (Rat.le_of_lt hp)
theorem ofInt_e (q e : Int) : (ofInt q e).m = 0 ∨ e ≤ (ofInt q e).e := by
  unfold ofInt
  rcases @norm_e (decide (q < 0)) q.natAbs e with h | h
  · left; rw [h]; rfl
  · exact Or.inr h
/-- what is told of a number a of which P says the places -/
def Tel (P : Int → Nat → Prop) (E : Int) (R : D) (pl : Int) : Prop :=
  (E = 0 → 0 ≤ pl ∧ pl ≤ 1300 ∧ ∃ q : Int, P q pl.toNat ∧ q.natAbs < 2 ^ 2901 ∧ R = ofInt q (-pl)) ∧ (E ≠ 0 → R = nz)
theorem Tel.fit {P : Int → Nat → Prop} {E : Int} {R : D} {pl : Int} (h : Tel P E R pl) : Fit R := by
  by_cases hE : E = 0
  · obtain ⟨h1, h2, q, -, h4, rfl⟩ := h.1 hE
    exact ofInt_bd h4 (by omega) (by omega) (by omega)
  · rw [h.2 hE]; exact Fit.nz
theorem fl_bd {x : Rat} {q : Int} {pl : Nat} (h : IsFl x q pl) (hx : x ≤ 800) (hpl : pl ≤ 1300) : 0 ≤ q ∧ q.natAbs < 2 ^ 2901 := by
  obtain ⟨h1, z, h2, h3⟩ := h
  have hδ := Ea.tw_pos (-(pl : Int))
  have hz := h2.pos
  have q0 : 0 ≤ q := by
    have := Ea.lt_of_mul (i := 0) (j := q) hδ (by
      have e0 : ((0 : Int) : Rat) = 0 := rfl
      rw [e0, Rat.zero_mul]; grind)
    exact this
  refine ⟨q0, ?_⟩
  have h4 := Ea.hi_any (x := x) (n := 800) (by exact hx)
  have h5 := Ea.lo_hi h1 h4
  have h6 : (q : Rat) ≤ tw ((2900 : Nat) : Int) := by
    have h7 : (q : Rat) * tw (-(pl : Int)) * tw (pl : Int) ≤ tw ((2 * 800 : Nat) : Int) * tw (pl : Int) := Rat.mul_le_mul_of_nonneg_right h5 (Rat.le_of_lt (Ea.tw_pos _))
    rw [Rat.mul_assoc, Ea.tw_neg, Rat.mul_one, ← Ea.tw_add] at h7
    exact Rat.le_trans h7 (Ea.tw_le (by omega))
  rw [Ea.tw_nat] at h6
  have h8 : (q : Rat) ≤ (((2 ^ 2900 : Nat) : Int) : Rat) := by
    show (q : Rat) ≤ ((2 ^ 2900 : Nat) : Rat)
    rw [Ea.cast_two 2900]; exact h6
  have h9 := Rat.intCast_le_intCast.1 h8
  have h10 := p_lt 2900 2901 (by decide)
  generalize 2 ^ 2900 = A at *
  generalize 2 ^ 2901 = B at *
  omega
theorem lg_bd {a : Rat} {q : Int} {pl : Nat} (h : IsLg a q pl) (ha : a ≤ tw ((4280 : Nat) : Int)) (ha0 : tw (-3000) ≤ a) (hpl : pl ≤ 1300) : q.natAbs < 2 ^ 2901 := by
  obtain ⟨h1, t, h2, h3⟩ := h
  have hδ := Ea.tw_pos (-(pl : Int))
  have hap : 0 < a := by have := Ea.tw_pos (-3000); grind
  have u1 : (q : Rat) * tw (-(pl : Int)) < 4096 := by
    refine Rat.not_le.1 fun e => ?_
    have := Ea.lo_hi (Ea.lo_big e) h1
    have := Ea.tw_le (show ((4280 : Nat) : Int) + 1 ≤ ((4774 : Nat) : Int) by omega)
    rw [Ea.tw_succ] at this
    have := Ea.tw_pos ((4280 : Nat) : Int)
    grind
  have u2 : -4096 < t := by
    refine Rat.not_le.1 fun e => ?_
    have := Ea.lo_hi h3 (Ea.hi_big e)
    have := Ea.tw_le (show -((4774 : Nat) : Int) + 1 ≤ -3000 by omega)
    rw [Ea.tw_succ] at this
    have := Ea.tw_pos (-((4774 : Nat) : Int))
    grind
  have e12 : tw ((12 : Nat) : Int) = 4096 := by rw [Ea.tw_nat]; decide +kernel
  have pp := Ea.tw_pos (pl : Int)
  have hc : (q : Rat) * tw (-(pl : Int)) * tw (pl : Int) = (q : Rat) := by rw [Rat.mul_assoc, Ea.tw_neg, Rat.mul_one]
  have hc2 : ((q : Rat) + 1) * tw (-(pl : Int)) * tw (pl : Int) = (q : Rat) + 1 := by rw [Rat.mul_assoc, Ea.tw_neg, Rat.mul_one]
  have u3 : (q : Rat) < tw ((1312 : Nat) : Int) := by
    have g := Rat.mul_lt_mul_of_pos_right u1 pp
    rw [hc, ← e12, ← Ea.tw_add] at g
    have := Ea.tw_le (show ((12 : Nat) : Int) + (pl : Int) ≤ ((1312 : Nat) : Int) by omega)
    grind
  have u4 : -tw ((1312 : Nat) : Int) < (q : Rat) + 1 := by
    have g := Rat.mul_lt_mul_of_pos_right (show -4096 < ((q : Rat) + 1) * tw (-(pl : Int)) by grind) pp
    rw [hc2, Rat.neg_mul, ← e12, ← Ea.tw_add] at g
    have := Ea.tw_le (show ((12 : Nat) : Int) + (pl : Int) ≤ ((1312 : Nat) : Int) by omega)
    grind
  rw [Ea.tw_nat, ← Ea.cast_two] at u3 u4
  have v3 : (q : Rat) < (((2 ^ 1312 : Nat) : Int) : Rat) := u3
  have v4 : ((-((2 ^ 1312 : Nat) : Int) : Int) : Rat) < ((q + 1 : Int) : Rat) := by
    rw [Rat.intCast_neg, Rat.intCast_add]; exact u4
  have w3 := Rat.intCast_lt_intCast.1 v3
  have w4 := Rat.intCast_lt_intCast.1 v4
  have h10 : 2 ^ 1312 + 1 < 2 ^ 2901 := by
    have a1 := p_mono 1313 2901 (by decide)
    have a2 : 2 ^ 1313 = 2 * 2 ^ 1312 := by have := Nat.pow_succ (n := 2) (m := 1312); omega
    have a3 := p_mono 2 1312 (by decide)
    omega
  generalize 2 ^ 1312 = A at *
  generalize 2 ^ 2901 = B at *
  omega
theorem RetSx.tel {w w' : World} {c pl : Int} {d : D} {r : Ending} (h : RetSx w (sexE c d pl) d pl r w') : ∃ R, RetR w (sexE c d pl) R r w' ∧ Tel (IsFl (rv d)) (sexE c d pl) R pl := by
  obtain ⟨R, h1, h2, h3⟩ := h
  refine ⟨R, h1, fun hE => ?_, h3⟩
  obtain ⟨-, p0, p1, -, h8⟩ := sexE_zero hE
  obtain ⟨q, h4, h5⟩ := h2 hE
  have hx : rv d ≤ 800 := by
    have := abs_800 h8
    unfold rv D.sm
    have hp := Rat.mul_nonneg (Rat.natCast_nonneg (a := d.m)) (Rat.le_of_lt (Ea.tw_pos d.e))
    split
    · rw [Rat.intCast_neg]
      show -(d.m : Rat) * tw d.e ≤ 800
      rw [Rat.neg_mul]; grind
    · exact this
  exact ⟨p0, p1, q, h4, (fl_bd h4 hx (by omega)).2, h5⟩
/-- two places that follow in order -/
structure Pls (P Q : Int → Nat → Prop) : Prop where
  le : ∀ q q' pl, P q pl → Q q' pl → q ≤ q'
theorem fl_pls {x y : Rat} (h : x ≤ y) : Pls (IsFl x) (IsFl y) := ⟨fun q q' pl h1 h2 => h1.mono h2 h⟩
theorem lg_pls {a b : Rat} (ha : 0 < a) (h : a ≤ b) : Pls (IsLg a) (IsLg b) := ⟨fun q q' pl h1 h2 => h1.le ha h2 h⟩
theorem tel_order {P Q : Int → Nat → Prop} (h : Pls P Q) {E F : Int} {R S : D} {pl : Int} (h1 : Tel P E R pl) (h2 : Tel Q F S pl) (hE : E = 0) (hF : F = 0) : cmp R S ≤ 0 := by
  obtain ⟨-, -, q, a1, -, rfl⟩ := h1.1 hE
  obtain ⟨-, -, q', b1, -, rfl⟩ := h2.1 hF
  exact cmp_ofInt.2 (h.le q q' _ a1 b1)
/-- .. and to fewer places -/
def Few (P : Int → Nat → Prop) : Prop := ∀ (q q' : Int) (p f : Nat), f ≤ p → P q p → P q' f → q' * 2 ^ (p - f) ≤ q ∧ q < (q' + 1) * 2 ^ (p - f)
theorem few_of {P : Int → Nat → Prop} (hp : ∀ (q q' : Int) (p f : Nat), P q p → P q' f → (q : Rat) * tw (-(p : Int)) < ((q' : Rat) + 1) * tw (-(f : Int))) : Few P := by
  intro q q' p f hf h1 h2
  have a := hp q q' p f h1 h2
  have b := hp q' q f p h2 h1
  have e : tw (-(f : Int)) = tw (-(p : Int)) * (((2 ^ (p - f) : Int)) : Rat) := by
    rw [Rat.intCast_pow]
    show _ = _ * (2 : Rat) ^ (p - f)
    rw [← Ea.tw_nat, ← Ea.tw_add]; congr 1; omega
  have hd := Ea.tw_pos (-(p : Int))
  rw [e] at a b
  generalize ((2 : Int) ^ (p - f)) = U at *
  generalize tw (-(p : Int)) = δ at *
  constructor
  · have : ((q' * U : Int) : Rat) * δ < ((q : Rat) + 1) * δ := by rw [Rat.intCast_mul]; grind
    exact Ea.lt_of_mul hd this
  · refine Int.not_le.1 fun h => ?_
    have := Ea.int_le_of (Rat.le_of_lt hd) h
    rw [Rat.intCast_mul, Rat.intCast_add] at this
    have e1 : ((1 : Int) : Rat) = 1 := rfl
    rw [e1] at this
    grind
theorem fl_few (x : Rat) : Few (IsFl x) := few_of fun q q' p f h1 h2 => by
  obtain ⟨h1, -⟩ := h1
  obtain ⟨-, z, h3, h4⟩ := h2
  have := Ea.lo_hi h1 h3
  grind
theorem lg_few {a : Rat} (ha : 0 < a) : Few (IsLg a) := few_of fun q q' p f h1 h2 => by
  obtain ⟨h1, -⟩ := h1
  obtain ⟨-, t, h3, h4⟩ := h2
  refine Rat.not_le.1 fun e => ?_
  have := Ea.lo_hi_lt (show t < (q : Rat) * tw (-(p : Int)) by grind) ha h4 h1
  grind
theorem tel_few {P : Int → Nat → Prop} (h : Few P) {E F : Int} {R S : D} {pl fw : Int} (h1 : Tel P E R pl) (h2 : Tel P F S fw) (hE : E = 0) (hF : F = 0) (hf : fw ≤ pl) :
    Fit (plus S ⟨false, 1, -fw⟩) ∧ cmp R (plus S ⟨false, 1, -fw⟩) < 0 ∧ cmp S R ≤ 0 ∧ (S.m = 0 ∨ -fw ≤ S.e) ∧ Fit (⟨false, 1, -fw⟩ : D) := by
  obtain ⟨a0, a1, q, a2, a3, rfl⟩ := h1.1 hE
  obtain ⟨b0, b1, q', b2, b3, rfl⟩ := h2.1 hF
  obtain ⟨p, rfl⟩ : ∃ p : Nat, pl = (p : Int) := ⟨pl.toNat, by omega⟩
  obtain ⟨f, rfl⟩ : ∃ f : Nat, fw = (f : Int) := ⟨fw.toNat, by omega⟩
  rw [Int.toNat_natCast] at a2 b2
  obtain ⟨c1, c2⟩ := h q q' p f (by omega) a2 b2
  rw [← ofInt_one, ofInt_plus]
  have hB : 2 ^ 2901 + 1 < 2 ^ 2902 := by
    have a2 : 2 ^ 2902 = 2 * 2 ^ 2901 := by have := Nat.pow_succ (n := 2) (m := 2901); omega
    have a3 := p_mono 2 2901 (by decide)
    omega
  have sh : ∀ x : Int, ofInt x (-(f : Int)) = ofInt (x * 2 ^ (p - f)) (-(p : Int)) := fun x => by
    rw [ofInt_shift]; congr 1; omega
  refine ⟨ofInt_bd (k := 2902) (by generalize 2 ^ 2901 = A at *; generalize 2 ^ 2902 = B at *; omega) (by omega) (by omega) (by omega), ?_, ?_, ofInt_e _ _, ?_⟩
  · rw [sh]
    have n1 : ¬ cmp (ofInt ((q' + 1) * 2 ^ (p - f)) (-(p : Int))) (ofInt q (-(p : Int))) ≤ 0 := fun h => by
      have := cmp_ofInt.1 h; omega
    rw [cmp_neg]
    omega
  · rw [sh]; exact cmp_ofInt.2 c1
  · exact ofInt_bd (k := 1) (by decide) (by omega) (by omega) (by omega)
end Go.Proofs.YtmpdbmaokbhcjaaDoor

/-
  THE WALK of noMore; PLAIN: e and the log of two to eight places.
-/
namespace Go.Proofs.YtmpdbmaokbhcjaaDoor
open Go.RowKit Nt Fm
open Ea (tw IsFl IsLg Lo Hi)

/-- what noMore tells -/
def nmB (c1 c2 : Int) (d1 d2 : D) : Bool := decide (ck2 c1 c2 = 0) && decide (cmE c1 c2 d1 d2 ≤ 0)
theorem nmB_zero (d1 d2 : D) : nmB 0 0 d1 d2 = decide (cmp d1 d2 ≤ 0) := by
  unfold nmB cmE
  rw [if_pos (by rfl), decide_eq_true (show ck2 0 0 = 0 by rfl), Bool.true_and]
set_option maxHeartbeats 4000000 in
theorem noMore_any (v1 v2 : Value) (c1 c2 : Int) (d1 d2 : D) (w : World) (hT : Tab w) (h1 : RD w v1 c1 d1) (h2 : RD w v2 c2 d2) :
    Calls Tryd.prog 31 #[v1, v2] w fun r w' => r = .returned (.bool (nmB c1 c2 d1 d2)) ∧ Below w.heap.size w w' := by
  have CM := Lib.hid (fun w' hb => cmp_any v1 v2 c1 c2 d1 d2 w' (hT.below (w' := w') hb) (RD.below h1 hb) (RD.below h2 hb))
  have hn : nmB c1 c2 d1 d2 = (decide (ck2 c1 c2 = 0) && decide (cmE c1 c2 d1 d2 ≤ 0)) := rfl
  obtain ⟨g1, a1, n1, p1, x1, rfl, -⟩ := h1
  obtain ⟨g2, a2, n2, p2, x2, rfl, -⟩ := h2
  rw [hn]
  generalize ck2 c1 c2 = E at *
  generalize cmE c1 c2 d1 d2 = K at *
  clear hn hT
  have hcase : (E ≠ 0) ∨ (E = 0 ∧ (0 < K ∨ K ≤ 0)) := by omega
  rcases hcase with h | ⟨rfl, h | h⟩
  all_goals
    go_enter Tryd.func31, Tryd.ntmps31
    go_wp2_with fail
    refine (CM.out _ (bl_alloc2 _ _ _)).mono ?_
    rintro r w1 ⟨rfl, hb⟩
    have B1 := Lib.hid (bl_thru (bl_alloc2 w _ _) (Nat.le_refl _) hb)
    clear hb
    go_wp2
    go_ret
    first
      | (refine ⟨?_, B1.out⟩; simp [h])
      | (refine ⟨?_, B1.out⟩; simp; omega)
/-- e to eight places -/
theorem e_eight : IsFl 1 695 8 := by
  have hd : tw (-((8 : Nat) : Int)) = 1 / 256 := by rw [← Ea.tw_inv, Ea.tw_nat]; congr 1
  refine ⟨?_, _, Ea.hi_up (by decide) (Ea.up_tail (K := 7) (by decide) (by decide +kernel)), ?_⟩
  · refine Ea.lo_dn (by decide) ((Ea.dn_E 1 8).le ?_)
    rw [hd]; decide +kernel
  · rw [hd]; decide +kernel
/-- the logarithm of two to eight places -/
theorem l_eight : IsLg 2 177 8 := by
  have hd : tw (-((8 : Nat) : Int)) = 1 / 256 := by rw [← Ea.tw_inv, Ea.tw_nat]; congr 1
  have e : (1 + (1 : Rat) / 3) / (1 - 1 / 3) = 2 := by decide +kernel
  have h1 := Ea.ah_hi2 (z := 1 / 3) (by decide +kernel) (by decide +kernel) 4
  have h2 := Ea.ah_lo2 (z := 1 / 3) (by decide +kernel) (by decide +kernel) 4
  rw [e] at h1 h2
  refine ⟨Ea.hi_mono h1 ?_, _, ?_, h2⟩
  · rw [hd]; decide +kernel
  · rw [hd]; decide +kernel
theorem IsLg.uniq {a : Rat} (ha : 0 < a) {q q' : Int} {pl : Nat} (h : IsLg a q pl) (h' : IsLg a q' pl) : q = q' := Int.le_antisymm (h.le ha h' Rat.le_refl) (h'.le ha h Rat.le_refl)
def d1 : D := ⟨false, 1, 0⟩
def d2 : D := ⟨false, 1, 1⟩
theorem small_pow {m k : Nat} (h : m < 2) (hk : 1 ≤ k) : m < 2 ^ k := Nat.lt_of_lt_of_le h (by have := Nat.pow_le_pow_right (n := 2) (by decide) hk; omega)
theorem sck_1 : sckE 0 d1 8 = 0 ∧ sckE 0 d2 8 = 0 := by
  obtain ⟨K, hK⟩ : ∃ K : Nat, K = 1280 := ⟨_, rfl⟩
  have h := small_pow (m := 1) (k := K) (by decide) (by omega)
  unfold sckE d1 d2
  rw [← hK]
  constructor
  · rw [if_neg (by omega), if_neg (by omega), if_neg (by show ¬ 2 ^ K ≤ 1; omega)]
  · rw [if_neg (by omega), if_neg (by omega), if_neg (by show ¬ 2 ^ K ≤ 1; omega)]
theorem rv_d1 : rv d1 = 1 := by unfold d1; rw [rv_pos, Ea.tw_zero, Rat.mul_one]; rfl
theorem rv_d2 : rv d2 = 2 := by
  unfold d2
  have : (1 : Int) = ((1 : Nat) : Int) := rfl
  rw [rv_pos, this, Ea.tw_nat]; decide +kernel
theorem sex_1 : sexE 0 d1 8 = 0 := by
  unfold sexE
  rw [if_neg (by rw [sck_1.1]; decide), if_neg]
  have h1 : cmp (absN d1) d800 ≤ 0 := by
    rw [rv_le, rv_800]
    show rv d1 ≤ 800
    rw [rv_d1]; decide +kernel
  omega
theorem fit1 : Fit d1 := fit_ofk (k := 1) (Or.inr (by decide)) (by omega) (by decide) (by decide) (by decide)
theorem fit2 : Fit d2 := fit_ofk (k := 1) (Or.inr (by decide)) (by omega) (by decide) (by decide) (by decide)
theorem out_e : ofInt 695 (-8) = ⟨false, 695, -8⟩ := by kernel_rfl
theorem out_l : ofInt 177 (-8) = ⟨false, 177, -8⟩ := by kernel_rfl
theorem exp_eight (v : Value) (w : World) (hT : Tab w) (h : RD w v 0 d1) : Calls Tryd.prog 27 #[v, .int .i64 8] w (RetR w 0 ⟨false, 695, -8⟩) := by
  refine (sexp_any v 0 8 d1 w hT h (by decide) (by decide)).mono ?_
  rintro r w' ⟨R, h1, h2, -⟩
  obtain ⟨q, h3, rfl⟩ := h2 sex_1
  rw [sex_1] at h1
  rw [rv_d1] at h3
  have := h3.uniq e_eight
  rw [this, out_e] at h1
  exact h1
/-- the places that Exp tells -/
noncomputable def flQ (x : Rat) (pl : Nat) : Int := Classical.epsilon fun q => IsFl x q pl
theorem flQ_is {x : Rat} {q : Int} {pl : Nat} (h : IsFl x q pl) : flQ x pl = q := (Classical.epsilon_spec (p := fun q => IsFl x q pl) ⟨q, h⟩).uniq h
noncomputable def sexR (c : Int) (d : D) (pl : Int) : D := if sexE c d pl = 0 then ofInt (flQ (rv d) pl.toNat) (-pl) else nz
/-- Exp with what is known of it -/
theorem sexpT (v : Value) (c pl : Int) (d : D) (w : World) (hT : Tab w) (h : RD w v c d) (p0 : -9223372036854775808 ≤ pl) (p1 : pl ≤ 9223372036854775807) :
    Calls Tryd.prog 27 #[v, .int .i64 pl] w fun r w' => RetR w (sexE c d pl) (sexR c d pl) r w' ∧ Tel (IsFl (rv d)) (sexE c d pl) (sexR c d pl) pl := by
  refine (sexp_any v c pl d w hT h p0 p1).mono ?_
  intro r w' hr
  have hr' := hr
  obtain ⟨R0, -, h2, h3⟩ := hr
  obtain ⟨R, h1, ht⟩ := hr'.tel
  have e : R = sexR c d pl := by
    unfold sexR
    by_cases hE : sexE c d pl = 0
    · obtain ⟨-, -, q, a, -, b⟩ := ht.1 hE
      rw [if_pos hE, flQ_is a]; exact b
    · rw [if_neg hE]; exact ht.2 hE
  rw [← e]
  exact ⟨h1, ht⟩
theorem nv_uno (w : World) (b x : Nat) (T : TypeId) (hb : b = w.heap.size) (h0 : x ≠ 0) (h1 : x < 4294967296) : NV (w.alloc (.cells #[.int .u32 (x : Int)] T)) (.slice (some ⟨b, 0, none⟩) 1 1) x := by
  subst hb
  refine ⟨[x], ⟨Lims.cons h1 Lims.nil, by simpa using h0⟩, by simp [val], Lims.cons h1 Lims.nil, some ⟨w.heap.size, 0, none⟩, 1, rfl, Nat.le_refl 1, by show 1 ≤ maxLen; unfold maxLen; omega, Or.inr ⟨w.heap.size, 0, rfl, by simp, ?_⟩⟩
  intro i hi
  match i, hi with
  | 0, _ => simp [go_sem]
theorem nv_unoI (w : World) (b x : Nat) (X : Int) (T : TypeId) (hX : X = (x : Int)) (hb : b = w.heap.size) (h0 : x ≠ 0) (h1 : x < 4294967296) : NV (w.alloc (.cells #[.int .u32 X] T)) (.slice (some ⟨b, 0, none⟩) 1 1) x := by
  subst hX; exact nv_uno w b x T hb h0 h1
theorem dv_uno (w : World) (b x : Nat) (X E : Int) (T : TypeId) (hX : X = (x : Int)) (hb : b = w.heap.size) (h0 : x ≠ 0) (h1 : x < 4294967296) : DV (w.alloc (.cells #[.int .u32 X] T)) (.agg #[.bool false, .slice (some ⟨b, 0, none⟩) 1 1, .int .i64 E]) ⟨false, x, E⟩ :=
  ⟨_, rfl, nv_unoI w b x X T hX hb h0 h1⟩
end Go.Proofs.YtmpdbmaokbhcjaaDoor
