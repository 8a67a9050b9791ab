/-
  THE WALK of series.ExpBounds.
-/
import Derived.Test.YtmpdbmaokbhcjaaDoorPrd
import Derived.Test.YtmpdbmaokbhcjaaDoorPre
set_option linter.unusedVariables false
set_option linter.unusedSimpArgs false
namespace Go.Proofs.YtmpdbmaokbhcjaaDoor
open Go.RowKit Nt Fm
open Ea (Pr halfP timesP overP plusP fixedP cdv tmP smP sqP growP negP)

/-- the bounds that are told of e to ±m·2^e -/
def ebP (neg : Bool) (m : Nat) (e : Int) (p k s : Nat) : Pr := if neg then negP (growP m e p k s) p else growP m e p k s
def RetEB (w : World) (d : D) (p s : Nat) (r : Ending) (w' : World) : Prop :=
  ∃ k, k ≤ p ∧ (tmP (fixedP d.m (d.e - s) p) p k).h ≤ 1 ∧ RetD2 w (norm false (ebP d.neg d.m d.e p k s).l (-(p : Int))) (norm false (ebP d.neg d.m d.e p k s).h (-(p : Int))) r w'
theorem grow_bits {m b p k s : Nat} {e : Int} (hm : m < 2 ^ b) (hs : (b : Int) + e - s ≤ -16) (hp : 16 ≤ p) (hk : k ≤ p) (hend : (tmP (fixedP m (e - s) p) p k).h ≤ 1) :
    2 ^ p ≤ (growP m e p k s).l ∧ 2 ^ p ≤ (growP m e p k s).h ∧ (growP m e p k s).l < 2 ^ (p + 3 * 2 ^ s) ∧ (growP m e p k s).h < 2 ^ (p + 3 * 2 ^ s) := by
  obtain ⟨h1, h2, -, h4, -⟩ := Ea.grow_ok hm hs hp hk hend
  have e8 : 2 ^ p * 8 ^ 2 ^ s = 2 ^ (p + 3 * 2 ^ s) := by rw [show (8 : Nat) = 2 ^ 3 by decide, ← Nat.pow_mul, ← Nat.pow_add]
  rw [e8] at h4
  omega
set_option maxRecDepth 100000 in
set_option maxHeartbeats 8000000 in
theorem expBounds_any (v : Value) (d : D) (b p s : Nat) (P : Int) (w : World) (hT : Tab w) (hd : DV w v d) (hP : P = (p : Int)) (hm : d.m < 2 ^ b) (hb : b ≤ 20000000) (e0 : -20000000 ≤ d.e) (e1 : d.e ≤ 20000000) (hp : p ≤ 19000000000000) (hp0 : 16 ≤ p)
    (hs : (s : Int) = max 0 (blen d.m + d.e + 16)) (hs1 : s ≤ 27) :
    Calls Tryd.prog 57 #[v, .int .i64 P] w (RetEB w d p s) := by
  subst hP
  obtain ⟨neg, m, e⟩ := d
  obtain ⟨sl, rfl, hv⟩ := hd
  obtain ⟨a1, n1, c1, rfl⟩ := hv.shape
  simp only at *
  have h2s : 2 ^ s ≤ 134217728 := Nat.pow_le_pow_right (show 0 < 2 by decide) hs1
  have GR := Lib.hid (fun w' hv => grow_any (.slice a1 n1 c1) m b p s e p w' hv rfl hm hb e0 e1 (by omega) hp0 hs hs1)
  have BT := Lib.hid (fun k hk hend => grow_bits (k := k) (blen_lt2 m) (show ((blen m : Nat) : Int) + e - s ≤ -16 by omega) hp0 hk hend)
  have HV := Lib.hid hv
  have HT := Lib.hid hT
  have DY := Lib.hid (fun v x k0 w' ht hv hl hh hk => dyads_any v x p k0 p w' ht hv rfl hl hh hk (by omega))
  have OF := Lib.hid (fun w' => natOf_any 1 (by omega) (by omega) w')
  have LE := Lib.hid (fun v x w' ha (hx : x = ((2 * p : Nat) : Int)) => left_any v 1 (2 * p) 1 x w' ha hx (by decide) (by omega) (by omega))
  have EO : Hid (1 * 2 ^ (2 * p) = 2 ^ (2 * p) ∧ True) := Lib.hid ⟨Nat.one_mul _, trivial⟩
  rw [EO.out.1] at LE
  have HPB : Hid ((2 ^ (2 * p) < 2 ^ (2 * p + 1) ∧ 1 < 2 ^ (2 * p + 1)) ∧ True) := Lib.hid ⟨⟨by rw [Nat.pow_succ]; have := Nat.two_pow_pos (2 * p); omega, by rw [Nat.pow_succ]; have := Nat.two_pow_pos (2 * p); omega⟩, trivial⟩
  have POS : Hid (0 < 2 ^ p ∧ True) := Lib.hid ⟨Nat.two_pow_pos p, trivial⟩
  have OVc := Lib.hid (fun va vb x w' ha hb (hx : 0 < x) => over_any va vb (2 ^ (2 * p)) x (2 * p + 1) w' ha hb hx HPB.out.1.1 (by omega))
  have PLc := Lib.hid (fun va vb x w' ha hb => plus_any va vb (2 ^ (2 * p) / x) 1 (2 * p + 1) w' ha hb (Nat.lt_of_le_of_lt (Nat.div_le_self _ _) HPB.out.1.1) HPB.out.1.2 (by omega))
  have h2h : Hid (2 ^ s ≤ 134217728 ∧ True) := Lib.hid ⟨h2s, trivial⟩
  unfold RetEB ebP
  simp only
  clear hv hT hm hs h2s
  cases neg
  all_goals
    go_enter Tryd.func57, Tryd.ntmps57
    go_wp2_with fail
    refine (GR.out _ (HV.out.below (bl_alloc3 _ _ _ _))).mono ?_
    rintro r w1 ⟨k, v1, rfl, hk, hend, hp1, hb1⟩
    obtain ⟨x1, y1, z1, x2, y2, z2, rfl, hv1, hv2⟩ := hp1.parts
    obtain ⟨q1, q2, q3, q4⟩ := BT.out k hk hend
    have HK := Lib.hid (show (k ≤ p ∧ (tmP (fixedP m (e - s) p) p k).h ≤ 1) ∧ True from ⟨⟨hk, hend⟩, trivial⟩)
    have HQ := Lib.hid (show (2 ^ p ≤ (growP m e p k s).l ∧ 2 ^ p ≤ (growP m e p k s).h ∧ (growP m e p k s).l < 2 ^ (p + 3 * 2 ^ s) ∧ (growP m e p k s).h < 2 ^ (p + 3 * 2 ^ s)) ∧ True from ⟨⟨q1, q2, q3, q4⟩, trivial⟩)
    have B1 := Lib.hid (bl_thru (bl_alloc3 w _ _ _) (Nat.le_refl _) hb1)
  · clear LE OVc PLc OF EO
    obtain ⟨V1, hV1⟩ : ∃ V, V = w1.alloc (.cells #[.slice x1 y1 z1, .slice x2 y2 z2] 111) := ⟨_, rfl⟩
    have XD1 : Hid (Box V1 w.heap.size 24 (.bool false) (.slice a1 n1 c1) (.int .i64 e)) := Lib.hid (by rw [hV1]; exact ((((Box.new w (.bool false) (.slice a1 n1 c1) (.int .i64 e) 24).alloc _ |>.alloc _).below hb1).alloc _))
    have XR1 : Hid (Box V1 (w.heap.size + 1) 24 (.bool false) (.slice none 0 0) (.int .i64 0)) := Lib.hid (by rw [hV1]; exact (((Box.new2 w _ (.bool false) (.slice none 0 0) (.int .i64 0) 24).alloc _).below hb1).alloc _)
    have XS1 : Hid (Box V1 (w.heap.size + 1 + 1) 24 (.bool false) (.slice none 0 0) (.int .i64 0)) := Lib.hid (by rw [hV1]; exact ((Box.new3 w _ _ (.bool false) (.slice none 0 0) (.int .i64 0) 24).below hb1).alloc _)
    have hz1 : w.heap.size + 1 + 1 < w1.heap.size := ((Box.new3 w _ _ (.bool false) (.slice none 0 0) (.int .i64 0) 24).below hb1).lt
    have XP1 : Hid (Bp V1 w1.heap.size (.slice x1 y1 z1) (.slice x2 y2 z2)) := Lib.hid (by rw [hV1]; exact Bp.new w1 _ _)
    have BV1 : Hid (Below w.heap.size w V1) := Lib.hid (by rw [hV1]; exact B1.out.alloc (by omega) _)
    have VL1 : Hid (NV V1 (.slice x1 y1 z1) (growP m e p k s).l) := Lib.hid (by rw [hV1]; exact hv1.alloc _)
    have VH1 : Hid (NV V1 (.slice x2 y2 z2) (growP m e p k s).h) := Lib.hid (by rw [hV1]; exact hv2.alloc _)
    have XD0 : Hid (Box w1 w.heap.size 24 (.bool false) (.slice a1 n1 c1) (.int .i64 e)) := Lib.hid (((Box.new w (.bool false) (.slice a1 n1 c1) (.int .i64 e) 24).alloc _ |>.alloc _).below hb1)
    obtain ⟨j0, j1, j2, -, -, -⟩ := (XD0.out.alloc (.cells #[.slice x1 y1 z1, .slice x2 y2 z2] 111)).cells
    obtain ⟨b8, hb8⟩ : ∃ b8, b8 = w1.heap.size := ⟨_, rfl⟩
    rw [← hb8] at XP1 hz1
    clear hv1 hv2 hp1 hb1 hk hend q1 q2 q3 q4 B1 XD0
    go_wp2_with fail
    rw [← hV1]
    clear hV1 j0 j1 j2 hb8
    have PVX := Lib.hid (show PV V1 (.agg #[.slice x1 y1 z1, .slice x2 y2 z2]) (growP m e p k s) from ⟨_, _, rfl, VL1.out, VH1.out⟩)
    refine (DY.out _ _ (p + 3 * 2 ^ s) _ (HT.out.below BV1.out) PVX.out HQ.out.1.2.2.1 HQ.out.1.2.2.2 (by have := h2h.out.1; omega)).mono ?_
    rintro r w2 ⟨u1, u2, rfl, ⟨s1, rfl, hs1'⟩, ⟨s2, rfl, hs2'⟩, hb2⟩
    obtain ⟨e1, f1, g1, rfl⟩ := hs1'.shape
    obtain ⟨e2, f2, g2, rfl⟩ := hs2'.shape
    obtain ⟨C, hC⟩ : ∃ C, C = norm false (growP m e p k s).l (-(p : Int)) := ⟨_, rfl⟩
    obtain ⟨E, hE⟩ : ∃ E, E = norm false (growP m e p k s).h (-(p : Int)) := ⟨_, rfl⟩
    have HC := Lib.hid (show (C = norm false (growP m e p k s).l (-(p : Int)) ∧ E = norm false (growP m e p k s).h (-(p : Int))) ∧ True from ⟨⟨hC, hE⟩, trivial⟩)
    rw [← hC, ← hE]
    rw [← hC] at hs1'
    rw [← hE] at hs2'
    have D2 := Lib.hid (XR1.out.below hb2)
    have E2 := Lib.hid (XS1.out.below hb2)
    have B2 := Lib.hid (bl_thru BV1.out (Nat.le_refl _) hb2)
    have HV1 := Lib.hid hs1'
    have HV2 := Lib.hid hs2'
    clear hs1' hs2' hb2 hC hE PVX
    obtain ⟨z0, z1, z2, z3, z4, z5⟩ := D2.out.cells
    have E3 := Lib.hid ((((E2.out.set (b' := w.heap.size + 1) (o := 0) (by omega) (.bool C.neg)).set (b' := w.heap.size + 1) (o := 1) (by omega) (.slice e1 f1 g1)).set (b' := w.heap.size + 1) (o := 2) (by omega) (.int .i64 C.e)))
    obtain ⟨y0, y1, y2, y3, y4, y5⟩ := E3.out.cells
    clear GR BT DY
    go_wp2_with fail
    clear z0 z1 z2 z3 z4 z5 y0 y1 y2 y3 y4 y5
    have D3 := Lib.hid (((((D2.out.set3 (.bool C.neg) (.slice e1 f1 g1) (.int .i64 C.e))).set (b' := w.heap.size + 1 + 1) (o := 0) (by omega) (.bool E.neg)).set (b' := w.heap.size + 1 + 1) (o := 1) (by omega) (.slice e2 f2 g2)).set (b' := w.heap.size + 1 + 1) (o := 2) (by omega) (.int .i64 E.e))
    have E4 := Lib.hid (E3.out.set3 (.bool E.neg) (.slice e2 f2 g2) (.int .i64 E.e))
    have K1 := Lib.hid ((HV1.out.setD (g' := C.neg) (ao' := e1) (n' := f1) (c' := g1) (e' := C.e) D2.out).setD (g' := E.neg) (ao' := e2) (n' := f2) (c' := g2) (e' := E.e) E3.out)
    have K2 := Lib.hid ((HV2.out.setD (g' := C.neg) (ao' := e1) (n' := f1) (c' := g1) (e' := C.e) D2.out).setD (g' := E.neg) (ao' := e2) (n' := f2) (c' := g2) (e' := E.e) E3.out)
    obtain ⟨s0, s1, s2, t0, t1, t2⟩ := D3.out.cells
    obtain ⟨r0, r1, r2, u0, u1, u2⟩ := E4.out.cells
    refine bodyPost_ret (v := .tuple #[.agg #[.bool C.neg, .slice e1 f1 g1, .int .i64 C.e], .agg #[.bool E.neg, .slice e2 f2 g2, .int .i64 E.e]]) (by simp [results, Tryd.results57, go_sem, s0, s1, s2, r0, r1, r2]) rfl ?_
    refine ⟨k, HK.out.1.1, HK.out.1.2, ?_⟩
    have e1 := HC.out.1.1
    have e2 := HC.out.1.2
    rw [← e1, ← e2]
    exact ⟨_, _, rfl, ⟨_, rfl, K1.out⟩, ⟨_, rfl, K2.out⟩, bl_set3 (bl_set3 B2.out (by omega) _ _ _) (by omega) _ _ _⟩
  · obtain ⟨V1, hV1⟩ : ∃ V, V = w1.alloc (.cells #[.slice x1 y1 z1, .slice x2 y2 z2] 111) := ⟨_, rfl⟩
    have XD1 : Hid (Box V1 w.heap.size 24 (.bool true) (.slice a1 n1 c1) (.int .i64 e)) := Lib.hid (by rw [hV1]; exact ((((Box.new w (.bool true) (.slice a1 n1 c1) (.int .i64 e) 24).alloc _ |>.alloc _).below hb1).alloc _))
    have XR1 : Hid (Box V1 (w.heap.size + 1) 24 (.bool false) (.slice none 0 0) (.int .i64 0)) := Lib.hid (by rw [hV1]; exact (((Box.new2 w _ (.bool false) (.slice none 0 0) (.int .i64 0) 24).alloc _).below hb1).alloc _)
    have XS1 : Hid (Box V1 (w.heap.size + 1 + 1) 24 (.bool false) (.slice none 0 0) (.int .i64 0)) := Lib.hid (by rw [hV1]; exact ((Box.new3 w _ _ (.bool false) (.slice none 0 0) (.int .i64 0) 24).below hb1).alloc _)
    have hz1 : w.heap.size + 1 + 1 < w1.heap.size := ((Box.new3 w _ _ (.bool false) (.slice none 0 0) (.int .i64 0) 24).below hb1).lt
    have XP1 : Hid (Bp V1 w1.heap.size (.slice x1 y1 z1) (.slice x2 y2 z2)) := Lib.hid (by rw [hV1]; exact Bp.new w1 _ _)
    have BV1 : Hid (Below w.heap.size w V1) := Lib.hid (by rw [hV1]; exact B1.out.alloc (by omega) _)
    have VL1 : Hid (NV V1 (.slice x1 y1 z1) (growP m e p k s).l) := Lib.hid (by rw [hV1]; exact hv1.alloc _)
    have VH1 : Hid (NV V1 (.slice x2 y2 z2) (growP m e p k s).h) := Lib.hid (by rw [hV1]; exact hv2.alloc _)
    have XD0 : Hid (Box w1 w.heap.size 24 (.bool true) (.slice a1 n1 c1) (.int .i64 e)) := Lib.hid (((Box.new w (.bool true) (.slice a1 n1 c1) (.int .i64 e) 24).alloc _ |>.alloc _).below hb1)
    obtain ⟨j0, j1, j2, -, -, -⟩ := (XD0.out.alloc (.cells #[.slice x1 y1 z1, .slice x2 y2 z2] 111)).cells
    obtain ⟨b8, hb8⟩ : ∃ b8, b8 = w1.heap.size := ⟨_, rfl⟩
    rw [← hb8] at XP1 hz1
    clear hv1 hv2 hp1 hb1 hk hend q1 q2 q3 q4 B1 XD0
    go_wp2_with fail
    rw [← hV1, ← hb8]
    clear hV1 j0 j1 j2 hb8 XD1
    refine (OF.out _).mono ?_
    rintro r w2 ⟨v2, rfl, hv2, hb2⟩
    have B2 := Lib.hid (bl_thru BV1.out (Nat.le_refl _) hb2)
    have XR2 := Lib.hid (XR1.out.below hb2)
    have XS2 := Lib.hid (XS1.out.below hb2)
    have XP2 := Lib.hid (XP1.out.below hb2)
    have VL2 := Lib.hid (VL1.out.below hb2)
    have VH2 := Lib.hid (VH1.out.below hb2)
    have O2 := Lib.hid hv2
    clear hv2 hb2 XR1 XS1 XP1 VL1 VH1 BV1
    go_wp2_with fail
    refine (LE.out _ _ _ O2.out (by omega)).mono ?_
    rintro r w3 ⟨v3, rfl, hv3, hb3⟩
    have B3 := Lib.hid (bl_thru B2.out (Nat.le_refl _) hb3)
    have XR3 := Lib.hid (XR2.out.below hb3)
    have XS3 := Lib.hid (XS2.out.below hb3)
    have XP3 := Lib.hid (XP2.out.below hb3)
    have VL3 := Lib.hid (VL2.out.below hb3)
    have VH3 := Lib.hid (VH2.out.below hb3)
    have O3 := Lib.hid hv3
    clear hv3 hb3 XR2 XS2 XP2 VL2 VH2 B2 O2
    obtain ⟨c0, c1, -, -⟩ := XP3.out.cells
    go_wp2_with fail
    refine (OVc.out _ _ _ _ O3.out VH3.out (by have := HQ.out.1.2.1; have := POS.out.1; omega)).mono ?_
    rintro r w4 ⟨v4, v4r, rfl, hv4, hv4r, hb4⟩
    have B4 := Lib.hid (bl_thru B3.out (Nat.le_refl _) hb4)
    have XR4 := Lib.hid (XR3.out.below hb4)
    have XS4 := Lib.hid (XS3.out.below hb4)
    have XP4 := Lib.hid (XP3.out.below hb4)
    have VL4 := Lib.hid (VL3.out.below hb4)
    have O4 := Lib.hid (O3.out.below hb4)
    have LO4 := Lib.hid hv4
    clear hv4 hv4r hb4 XR3 XS3 XP3 VL3 VH3 B3 O3 c0 c1
    obtain ⟨c0, c1, -, -⟩ := XP4.out.cells
    go_wp2_with fail
    refine (OVc.out _ _ _ _ O4.out VL4.out (by have := HQ.out.1.1; have := POS.out.1; omega)).mono ?_
    rintro r w5 ⟨v5, v5r, rfl, hv5, hv5r, hb5⟩
    have B5' := Lib.hid (bl_thru B4.out (Nat.le_refl _) hb5)
    have XR5' := Lib.hid (XR4.out.below hb5)
    have XS5' := Lib.hid (XS4.out.below hb5)
    have LO5 := Lib.hid (LO4.out.below hb5)
    have HI5 := Lib.hid hv5
    clear hv5 hv5r hb5 XR4 XS4 XP4 VL4 B4 O4 c0 c1 LO4
    go_wp2_with fail
    refine (OF.out _).mono ?_
    rintro r w6 ⟨v6, rfl, hv6, hb6⟩
    have B6 := Lib.hid (bl_thru B5'.out (Nat.le_refl _) hb6)
    have XR6 := Lib.hid (XR5'.out.below hb6)
    have XS6 := Lib.hid (XS5'.out.below hb6)
    have LO6 := Lib.hid (LO5.out.below hb6)
    have HI6 := Lib.hid (HI5.out.below hb6)
    have O6 := Lib.hid hv6
    clear hv6 hb6 XR5' XS5' B5' LO5 HI5
    go_wp2_with fail
    refine (PLc.out _ _ _ _ HI6.out O6.out).mono ?_
    rintro r w7 ⟨v7, rfl, hv7, hb7⟩
    have B5 := Lib.hid (bl_thru B6.out (Nat.le_refl _) hb7)
    have XR5 := Lib.hid (XR6.out.below hb7)
    have XS5 := Lib.hid (XS6.out.below hb7)
    have LO7 := Lib.hid (LO6.out.below hb7)
    have HI7 := Lib.hid hv7
    clear hv7 hb7 XR6 XS6 B6 LO6 HI6 O6
    obtain ⟨g4, g5, g6, rfl⟩ := LO7.out.shape
    obtain ⟨g7, g8, g9, rfl⟩ := HI7.out.shape
    have PVX := Lib.hid (show PV w7 (.agg #[.slice g4 g5 g6, .slice g7 g8 g9]) ⟨2 ^ (2 * p) / (growP m e p k s).h, 2 ^ (2 * p) / (growP m e p k s).l + 1⟩ from ⟨_, _, rfl, LO7.out, HI7.out⟩)
    go_wp2_with fail
    refine (DY.out _ _ (2 * p + 2) _ (HT.out.below B5.out) PVX.out (by
      have h1 := Nat.div_le_self (2 ^ (2 * p)) (growP m e p k s).h
      show 2 ^ (2 * p) / (growP m e p k s).h < _
      rw [Nat.pow_add]
      have := HPB.out.1.1
      have := Nat.two_pow_pos (2 * p)
      omega) (by
      have h1 := Nat.div_le_self (2 ^ (2 * p)) (growP m e p k s).l
      show 2 ^ (2 * p) / (growP m e p k s).l + 1 < _
      rw [Nat.pow_add]
      have := HPB.out.1.1
      have := Nat.two_pow_pos (2 * p)
      omega) (by omega)).mono ?_
    rintro r w8 ⟨u1, u2, rfl, ⟨s1, rfl, hs1'⟩, ⟨s2, rfl, hs2'⟩, hb2⟩
    obtain ⟨e1, f1, g1, rfl⟩ := hs1'.shape
    obtain ⟨e2, f2, g2, rfl⟩ := hs2'.shape
    obtain ⟨C, hC⟩ : ∃ C, C = norm false (2 ^ (2 * p) / (growP m e p k s).h) (-(p : Int)) := ⟨_, rfl⟩
    obtain ⟨E, hE⟩ : ∃ E, E = norm false (2 ^ (2 * p) / (growP m e p k s).l + 1) (-(p : Int)) := ⟨_, rfl⟩
    have HC := Lib.hid (show (C = norm false (2 ^ (2 * p) / (growP m e p k s).h) (-(p : Int)) ∧ E = norm false (2 ^ (2 * p) / (growP m e p k s).l + 1) (-(p : Int))) ∧ True from ⟨⟨hC, hE⟩, trivial⟩)
    rw [← hC, ← hE]
    rw [← hC] at hs1'
    rw [← hE] at hs2'
    have D2 := Lib.hid (XR5.out.below hb2)
    have E2 := Lib.hid (XS5.out.below hb2)
    have B2 := Lib.hid (bl_thru B5.out (Nat.le_refl _) hb2)
    have HV1 := Lib.hid hs1'
    have HV2 := Lib.hid hs2'
    clear hs1' hs2' hb2 hC hE
    obtain ⟨z0, z1, z2, z3, z4, z5⟩ := D2.out.cells
    have E3 := Lib.hid ((((E2.out.set (b' := w.heap.size + 1) (o := 0) (by omega) (.bool C.neg)).set (b' := w.heap.size + 1) (o := 1) (by omega) (.slice e1 f1 g1)).set (b' := w.heap.size + 1) (o := 2) (by omega) (.int .i64 C.e)))
    obtain ⟨y0, y1, y2, y3, y4, y5⟩ := E3.out.cells
    clear GR BT DY
    go_wp2_with fail
    clear z0 z1 z2 z3 z4 z5 y0 y1 y2 y3 y4 y5
    have D3 := Lib.hid (((((D2.out.set3 (.bool C.neg) (.slice e1 f1 g1) (.int .i64 C.e))).set (b' := w.heap.size + 1 + 1) (o := 0) (by omega) (.bool E.neg)).set (b' := w.heap.size + 1 + 1) (o := 1) (by omega) (.slice e2 f2 g2)).set (b' := w.heap.size + 1 + 1) (o := 2) (by omega) (.int .i64 E.e))
    have E4 := Lib.hid (E3.out.set3 (.bool E.neg) (.slice e2 f2 g2) (.int .i64 E.e))
    have K1 := Lib.hid ((HV1.out.setD (g' := C.neg) (ao' := e1) (n' := f1) (c' := g1) (e' := C.e) D2.out).setD (g' := E.neg) (ao' := e2) (n' := f2) (c' := g2) (e' := E.e) E3.out)
    have K2 := Lib.hid ((HV2.out.setD (g' := C.neg) (ao' := e1) (n' := f1) (c' := g1) (e' := C.e) D2.out).setD (g' := E.neg) (ao' := e2) (n' := f2) (c' := g2) (e' := E.e) E3.out)
    obtain ⟨s0, s1, s2, t0, t1, t2⟩ := D3.out.cells
    obtain ⟨r0, r1, r2, u0, u1, u2⟩ := E4.out.cells
    refine bodyPost_ret (v := .tuple #[.agg #[.bool C.neg, .slice e1 f1 g1, .int .i64 C.e], .agg #[.bool E.neg, .slice e2 f2 g2, .int .i64 E.e]]) (by simp [results, Tryd.results57, go_sem, s0, s1, s2, r0, r1, r2]) rfl ?_
    refine ⟨k, HK.out.1.1, HK.out.1.2, ?_⟩
    have e1 := HC.out.1.1
    have e2 := HC.out.1.2
    show RetD2 w (norm false (2 ^ (2 * p) / (growP m e p k s).h) (-(p : Int))) (norm false (2 ^ (2 * p) / (growP m e p k s).l + 1) (-(p : Int))) _ _
    rw [← e1, ← e2]
    exact ⟨_, _, rfl, ⟨_, rfl, K1.out⟩, ⟨_, rfl, K2.out⟩, bl_set3 (bl_set3 B2.out (by omega) _ _ _) (by omega) _ _ _⟩

end Go.Proofs.YtmpdbmaokbhcjaaDoor
