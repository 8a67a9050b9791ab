/-
  THE WALK of the closure of expo.Expm1.
-/
import Derived.Test.YtmpdbmaokbhcjaaDoorUg
set_option linter.unusedVariables false
set_option linter.unusedSimpArgs false
namespace Go.Proofs.YtmpdbmaokbhcjaaDoor
open Go.RowKit Nt Fm
open Ea (Pr growP negP tw PB)

set_option maxRecDepth 100000 in
set_option maxHeartbeats 8000000 in
theorem cloM_any (c0 : Nat) (d : D) (s p : Nat) (w : World) (hT : Tab w) (hd : GD w c0 d) (hm0 : d.m ≠ 0) (hm : d.m < 2 ^ 1280) (he : -19000 ≤ d.e) (he1 : d.e ≤ 20000) (hx : (d.m : Rat) * tw d.e ≤ 2048)
    (hs : (s : Int) = max 0 (blen d.m + d.e + 16)) (hs1 : s ≤ 27) (q0 : 256 ≤ p) (q1 : p ≤ 2 * PB) :
    Calls Tryd.prog 60 #[.int .i64 (p : Int), .pointer (some ⟨c0, 0, none⟩)] w fun r w'' => ∃ C E, RetD2 w C E r w'' ∧ BR (cutX (rv d)) p C E := by
  have hPB : PB = 4398500000000 := rfl
  obtain ⟨a1, n1, c1, hBx, hNv⟩ := hd
  have EB := Lib.hid (fun w' ht hv => expBounds_any (.agg #[.bool d.neg, .slice a1 n1 c1, .int .i64 d.e]) d 1280 p s p w' ht ⟨_, rfl, hv⟩ rfl hm (by omega) (by omega) (by omega) (by omega) (by omega) hs hs1)
  have BRE := Lib.hid (fun k (hk : k ≤ p) hend => brM (p := p) (k := k) hm0 hm he hx hs hs1 (by omega) (by omega) hk hend)
  have h2s : 2 ^ s ≤ 134217728 := Nat.pow_le_pow_right (show 0 < 2 by decide) hs1
  have BND := Lib.hid (fun k (hk : k ≤ p) (hend : (Ea.tmP (Ea.fixedP d.m (d.e - s) p) p k).h ≤ 1) => show ((norm false (ebP d.neg d.m d.e p k s).l (-(p : Int))).m < 2 ^ (p + 3 * 2 ^ s + 1) ∧ -(p : Int) ≤ (norm false (ebP d.neg d.m d.e p k s).l (-(p : Int))).e ∧ (norm false (ebP d.neg d.m d.e p k s).l (-(p : Int))).e ≤ ((p + 3 * 2 ^ s + 1 : Nat) : Int)) ∧ ((norm false (ebP d.neg d.m d.e p k s).h (-(p : Int))).m < 2 ^ (p + 3 * 2 ^ s + 1) ∧ -(p : Int) ≤ (norm false (ebP d.neg d.m d.e p k s).h (-(p : Int))).e ∧ (norm false (ebP d.neg d.m d.e p k s).h (-(p : Int))).e ≤ ((p + 3 * 2 ^ s + 1 : Nat) : Int)) from by
    obtain ⟨o1, o2, o3, o4⟩ := ebP_ok (neg := d.neg) (k := k) (p := p) (blen_lt2 d.m) (show ((blen d.m : Nat) : Int) + d.e - s ≤ -16 by omega) (by omega) hk hend
    exact ⟨bd_of_vl (norm_nf _ _ _) (norm_eP _ _) (by rw [norm_vlP]; simpa using Nat.lt_of_le_of_lt o2 o4), bd_of_vl (norm_nf _ _ _) (norm_eP _ _) (by rw [norm_vlP]; simpa using o4)⟩)
  obtain ⟨K, hK⟩ : ∃ K, K = p + 3 * 2 ^ s + 1 := ⟨_, rfl⟩
  rw [← hK] at BND
  have hK2 : K ≤ 9000000000000 := by omega
  have hK1 : 1 ≤ K := by omega
  obtain ⟨O, hO⟩ : ∃ O, O = norm false 1 0 := ⟨_, rfl⟩
  have ONE := Lib.hid (fun w' ht => eone_any w' ht)
  have hOm : O.m = 1 ∧ O.e = 0 := by rw [hO]; decide +kernel
  rw [← hO] at ONE BRE
  have h21 : 1 < 2 ^ K := by have := Nat.pow_le_pow_right (n := 2) (by decide) hK1; omega
  have OPP := Lib.hid (fun v w' hd => opp_any v O K w' hd (by rw [hOm.1]; exact h21) (by omega))
  have oM : (opp O).m = 1 ∧ (opp O).e = 0 := hOm
  have PLU := Lib.hid (fun C v1 v2 w' (ht : Tab w') (h1 : DV w' v1 C) (h2 : DV w' v2 (opp O)) (hb : C.m < 2 ^ K ∧ -(p : Int) ≤ C.e ∧ C.e ≤ (K : Int)) => dplus_any v1 v2 C (opp O) K w' ht h1 h2 hb.1 (by rw [oM.1]; exact h21) (by omega) (by omega) (by omega) (by rw [oM.2]; omega) (by rw [oM.2]; omega))
  have HB := Lib.hid hBx
  have HN := Lib.hid hNv
  have HT := Lib.hid hT
  have hlt : c0 < w.heap.size := hBx.lt
  have L1 := Lib.hid ((GD.nil w).alloc (.cells #[.bool false, .slice none 0 0, .int .i64 0] 24))
  have M1 := Lib.hid (GD.nil2 w (.cells #[.bool false, .slice none 0 0, .int .i64 0] 24))
  have X1 := Lib.hid ((HB.out.alloc (.cells #[.bool false, .slice none 0 0, .int .i64 0] 24)).alloc (.cells #[.bool false, .slice none 0 0, .int .i64 0] 24))
  obtain ⟨z90, z91, z92, -, -, -⟩ := X1.out.cells
  generalize opp O = o at *
  clear hBx hNv hT hm hs hx hm0 he he1 hO hOm oM h21 h2s hK1 hK2
  go_enter Tryd.func60, Tryd.ntmps60
  go_wp2_with fail
  refine (EB.out _ (HT.out.below (bl_alloc2 _ _ _)) (HN.out.below (bl_alloc2 _ _ _))).mono ?_
  rintro r w1 ⟨k, hk, hend, u1, u2, rfl, hu1, hu2, hb1⟩
  have hbr := BRE.out k hk hend
  have hbd := BND.out k hk hend
  obtain ⟨C, hC⟩ : ∃ C, C = norm false (ebP d.neg d.m d.e p k s).l (-(p : Int)) := ⟨_, rfl⟩
  obtain ⟨E, hE⟩ : ∃ E, E = norm false (ebP d.neg d.m d.e p k s).h (-(p : Int)) := ⟨_, rfl⟩
  rw [← hC, ← hE] at hbr hbd
  rw [← hC] at hu1
  rw [← hE] at hu2
  have PC := Lib.hid (fun v1 v2 w' ht h1 h2 => PLU.out C v1 v2 w' ht h1 h2 hbd.1)
  have PE := Lib.hid (fun v1 v2 w' ht h1 h2 => PLU.out E v1 v2 w' ht h1 h2 hbd.2)
  generalize plus C o = P1 at *
  generalize plus E o = P2 at *
  have HK := Lib.hid hbr
  obtain ⟨e1, f1, g1, rfl, hv1⟩ := hu1.parts
  obtain ⟨e2, f2, g2, rfl, hv2⟩ := hu2.parts
  have B1 := bl_thru (bl_alloc2 w _ _) (Nat.le_refl _) hb1
  have hz : w.heap.size + 1 < w1.heap.size := (M1.out.below hb1).lt
  obtain ⟨V1, hV1⟩ : ∃ V, V = ((w1.alloc (.cells #[.bool C.neg, .slice e1 f1 g1, .int .i64 C.e] 24)).alloc (.cells #[.bool E.neg, .slice e2 f2 g2, .int .i64 E.e] 24)) := ⟨_, rfl⟩
  have HL := Lib.hid (show GD V1 w.heap.size nz from by rw [hV1]; exact ((L1.out.below hb1).alloc _).alloc _)
  have HM := Lib.hid (show GD V1 (w.heap.size + 1) nz from by rw [hV1]; exact ((M1.out.below hb1).alloc _).alloc _)
  have HC := Lib.hid (show Box V1 w1.heap.size 24 (.bool C.neg) (.slice e1 f1 g1) (.int .i64 C.e) from by rw [hV1]; exact (Box.new w1 _ _ _ _).alloc _)
  have HE := Lib.hid (show Box V1 (w1.heap.size + 1) 24 (.bool E.neg) (.slice e2 f2 g2) (.int .i64 E.e) from by rw [hV1]; exact Box.new2 w1 _ _ _ _ _)
  have NC := Lib.hid (show NV V1 (.slice e1 f1 g1) C.m from by rw [hV1]; exact (hv1.alloc _).alloc _)
  have NE := Lib.hid (show NV V1 (.slice e2 f2 g2) E.m from by rw [hV1]; exact (hv2.alloc _).alloc _)
  have BB := Lib.hid (show Below w.heap.size w V1 from by rw [hV1]; exact (B1.alloc (by omega) _).alloc (by simp; omega) _)
  obtain ⟨b8, hb8⟩ : ∃ b8, b8 = w1.heap.size := ⟨_, rfl⟩
  rw [← hb8] at HC HE hz
  clear hu1 hu2 hb1 hv1 hv2 B1 L1 M1 X1 hbr hbd hC hE hk hend EB BRE BND PLU HB HN z90 z91 z92
  go_wp2_with fail
  rw [← hV1, ← hb8]
  clear hV1 hb8
  obtain ⟨q0, q1, q2, -, -, -⟩ := HC.out.drew.cells
  obtain ⟨r0, r1, r2, -, -, -⟩ := HE.out.drew.cells
  go_region_held3 (fun w' => (w'.cell? ⟨b8, 0, none⟩ = some (.bool C.neg) ∧ w'.cell? ⟨b8, 1, none⟩ = some (.slice e1 f1 g1) ∧ w'.cell? ⟨b8, 2, none⟩ = some (.int .i64 C.e)) ∧ (w'.cell? ⟨b8 + 1, 0, none⟩ = some (.bool E.neg) ∧ w'.cell? ⟨b8 + 1, 1, none⟩ = some (.slice e2 f2 g2) ∧ w'.cell? ⟨b8 + 1, 2, none⟩ = some (.int .i64 E.e)))
    (first
      | with_reducible exact ⟨⟨q0, q1, q2⟩, ⟨r0, r1, r2⟩⟩
      | (obtain ⟨q0, q1, q2, -, -, -⟩ := ((X7.out.1).st (b' := w.heap.size) (by omega) (.bool P1.neg) (.slice k1 k2 k3) (.int .i64 P1.e)).cells
         obtain ⟨r0, r1, r2, -, -, -⟩ := ((X7.out.2).st (b' := w.heap.size) (by omega) (.bool P1.neg) (.slice k1 k2 k3) (.int .i64 P1.e)).cells
         with_reducible exact ⟨⟨q0, q1, q2⟩, ⟨r0, r1, r2⟩⟩)
      | (obtain ⟨q0, q1, q2, -, -, -⟩ := (((X7.out.1).st (b' := w.heap.size) (by omega) (.bool P1.neg) (.slice k1 k2 k3) (.int .i64 P1.e)).st (b' := w.heap.size + 1) (by omega) (.bool P2.neg) (.slice k4 k5 k6) (.int .i64 P2.e)).cells
         obtain ⟨r0, r1, r2, -, -, -⟩ := (((X7.out.2).st (b' := w.heap.size) (by omega) (.bool P1.neg) (.slice k1 k2 k3) (.int .i64 P1.e)).st (b' := w.heap.size + 1) (by omega) (.bool P2.neg) (.slice k4 k5 k6) (.int .i64 P2.e)).cells
         with_reducible exact ⟨⟨q0, q1, q2⟩, ⟨r0, r1, r2⟩⟩))
    (first
      | (go_at_call 51; refine (ONE.out _ (HT.out.below B4.out)).mono ?_; rintro r w5 ⟨v5, rfl, hu5, hb5⟩; have V5 := Lib.hid hu5; have B5 := Lib.hid (bl_thru B4.out (Nat.le_refl _) hb5); have P5 := Lib.hid (P4.out.below hb5); have Y5 := Lib.hid (Y4.out.below hb5); have X5 := Lib.hid (And.intro (X4.out.1.below hb5) (X4.out.2.below hb5)); have G5 := Lib.hid (And.intro (G4.out.1.below hb5) (G4.out.2.below hb5)); obtain ⟨q0, q1, q2, -, -, -⟩ := X5.out.1.cells; obtain ⟨r0, r1, r2, -, -, -⟩ := X5.out.2.cells)
      | (go_at_call 51; refine (ONE.out _ (HT.out.below BB.out.drew)).mono ?_; rintro r w2 ⟨v2, rfl, hu2, hb2⟩; have V2 := Lib.hid hu2; have B2 := Lib.hid (bl_thru BB.out.drew (Nat.le_refl _) hb2); have X2 := Lib.hid (And.intro (HC.out.drew.below hb2) (HE.out.drew.below hb2)); have G2 := Lib.hid (And.intro (HL.out.drew.below hb2) (HM.out.drew.below hb2)); have Y2 := Lib.hid (And.intro (NC.out.dr.below hb2) (NE.out.dr.below hb2)); obtain ⟨q0, q1, q2, -, -, -⟩ := X2.out.1.cells; obtain ⟨r0, r1, r2, -, -, -⟩ := X2.out.2.cells)
      | (go_at_call 59; refine (OPP.out _ _ V5.out).mono ?_; rintro r w6 ⟨v6, rfl, hu6, hb6⟩; have V6 := Lib.hid hu6; have B6 := Lib.hid (bl_thru B5.out (Nat.le_refl _) hb6); have P6 := Lib.hid (P5.out.below hb6); have Y6 := Lib.hid (Y5.out.below hb6); have X6 := Lib.hid (And.intro (X5.out.1.below hb6) (X5.out.2.below hb6)); have G6 := Lib.hid (And.intro (G5.out.1.below hb6) (G5.out.2.below hb6)); obtain ⟨q0, q1, q2, -, -, -⟩ := X6.out.1.cells; obtain ⟨r0, r1, r2, -, -, -⟩ := X6.out.2.cells)
      | (go_at_call 59; refine (OPP.out _ _ V2.out).mono ?_; rintro r w3 ⟨v3, rfl, hu3, hb3⟩; have V3 := Lib.hid hu3; have B3 := Lib.hid (bl_thru B2.out (Nat.le_refl _) hb3); have X3 := Lib.hid (And.intro (X2.out.1.below hb3) (X2.out.2.below hb3)); have G3 := Lib.hid (And.intro (G2.out.1.below hb3) (G2.out.2.below hb3)); have Y3 := Lib.hid (And.intro (Y2.out.1.below hb3) (Y2.out.2.below hb3)); obtain ⟨q0, q1, q2, -, -, -⟩ := X3.out.1.cells; obtain ⟨r0, r1, r2, -, -, -⟩ := X3.out.2.cells)
      | (go_at_call 61; refine (PE.out _ _ _ (HT.out.below B6.out) ⟨_, rfl, Y6.out⟩ V6.out).mono ?_; rintro r w7 ⟨v7, rfl, hu7, hb7⟩; obtain ⟨k4, k5, k6, rfl, hv7⟩ := hu7.parts; have V7 := Lib.hid hv7; have P7 := Lib.hid (P6.out.below hb7); have B7 := Lib.hid (bl_thru B6.out (Nat.le_refl _) hb7); have X7 := Lib.hid (And.intro (X6.out.1.below hb7) (X6.out.2.below hb7)); have HL7 := Lib.hid (G6.out.1.below hb7); have HM7 := Lib.hid (G6.out.2.below hb7); obtain ⟨q0, q1, q2, -, -, -⟩ := X7.out.1.cells; obtain ⟨r0, r1, r2, -, -, -⟩ := X7.out.2.cells; obtain ⟨y1, y2, y3, hY, -⟩ := HL7.out; have HY := Lib.hid hY; obtain ⟨z1, z2, z3, hZ, -⟩ := (HM7.out.store HL7.out (by omega) P1.neg k1 k2 k3 P1.e); have HZ := Lib.hid hZ; obtain ⟨s0, s1, s2, t0, t1, t2⟩ := HY.out.cells; obtain ⟨x0, x1, x2, x3, x4, x5⟩ := HZ.out.cells; clear hY hZ)
      | (go_at_call 61; refine (PC.out _ _ _ (HT.out.below B3.out) ⟨_, rfl, Y3.out.1⟩ V3.out).mono ?_; rintro r w4 ⟨v4, rfl, hu4, hb4⟩; obtain ⟨k1, k2, k3, rfl, hv4⟩ := hu4.parts; have P4 := Lib.hid hv4; have B4 := Lib.hid (bl_thru B3.out (Nat.le_refl _) hb4); have X4 := Lib.hid (And.intro (X3.out.1.below hb4) (X3.out.2.below hb4)); have G4 := Lib.hid (And.intro (G3.out.1.below hb4) (G3.out.2.below hb4)); have Y4 := Lib.hid (Y3.out.2.below hb4); obtain ⟨q0, q1, q2, -, -, -⟩ := X4.out.1.cells; obtain ⟨r0, r1, r2, -, -, -⟩ := X4.out.2.cells))
  clear q0 q1 q2 r0 r1 r2 s0 s1 s2 t0 t1 t2 x0 x1 x2 x3 x4 x5 hb2 hb3 hb4 hb5 hb6 hb7 hu2 hu3 hu4 hu5 hu6 hu7 hv4 hv7 V2 V3 V5 V6 B2 B3 B4 B5 B6 X2 X3 X4 X5 X6 G2 G3 G4 G5 G6 Y2 Y3 Y4 Y5 Y6 P4 P5 P6
  go_wp2
  have K0 := Lib.hid (HM7.out.store HL7.out (by omega) P1.neg k1 k2 k3 P1.e)
  have R1 := Lib.hid ((HY.out.set3 (.bool P1.neg) (.slice k1 k2 k3) (.int .i64 P1.e)).st (b' := w.heap.size + 1) (by omega) (.bool P2.neg) (.slice k4 k5 k6) (.int .i64 P2.e))
  have R2 := Lib.hid (HZ.out.set3 (.bool P2.neg) (.slice k4 k5 k6) (.int .i64 P2.e))
  have N1 := Lib.hid (K0.out.keep (HL7.out.keep P7.out P1.neg k1 k2 k3 P1.e) P2.neg k4 k5 k6 P2.e)
  have N2 := Lib.hid (K0.out.keep (HL7.out.keep V7.out P1.neg k1 k2 k3 P1.e) P2.neg k4 k5 k6 P2.e)
  obtain ⟨s0, s1, s2, t0, t1, t2⟩ := R1.out.cells
  obtain ⟨r0, r1, r2, u0, u1, u2⟩ := R2.out.cells
  refine bodyPost_ret (v := .tuple #[.agg #[.bool P1.neg, .slice k1 k2 k3, .int .i64 P1.e], .agg #[.bool P2.neg, .slice k4 k5 k6, .int .i64 P2.e]]) (by simp [results, Tryd.results60, go_sem, s0, s1, s2, r0, r1, r2]) rfl ?_
  exact ⟨P1, P2, ⟨_, _, rfl, ⟨_, rfl, N1.out⟩, ⟨_, rfl, N2.out⟩, bl_set3 (bl_set3 B7.out (by omega) _ _ _) (by omega) _ _ _⟩, HK.out⟩
end Go.Proofs.YtmpdbmaokbhcjaaDoor
