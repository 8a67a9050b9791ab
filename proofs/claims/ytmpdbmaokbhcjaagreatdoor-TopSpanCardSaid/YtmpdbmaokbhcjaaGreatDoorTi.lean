/-
  THE WALK of dyad.Times.
-/
import Derived.Test.YtmpdbmaokbhcjaaGreatDoorAl
import Derived.Test.YtmpdbmaokbhcjaaGreatDoorTzy
import Derived.Test.YtmpdbmaokbhcjaaGreatDoorBa
import Derived.Test.YtmpdbmaokbhcjaaGreatDoorNa
import Derived.Deep.RegionHeld3
set_option linter.unusedVariables false
set_option linter.unusedSimpArgs false
namespace Go.Proofs.YtmpdbmaokbhcjaaGreatDoor
open Go.RowKit Nt Fm

set_option maxRecDepth 100000 in
set_option maxHeartbeats 8000000 in
theorem dtimes_any (vc vd : Value) (c d : D) (k0 : Nat) (w : World) (hT : Tab w) (hc : DV w vc c) (hd : DV w vd d) (hcm : c.m < 2 ^ k0) (hdm : d.m < 2 ^ k0) (hk0 : k0 ≤ 400000) (ec0 : -400000 ≤ c.e) (ec1 : c.e ≤ 400000) (ed0 : -400000 ≤ d.e) (ed1 : d.e ≤ 400000) :
    Calls Tryz.prog 51 #[vc, vd] w (RetD w (times c d)) := by
  obtain ⟨k1, hk1, hab⟩ : ∃ k1, k1 ≤ 1300000 ∧ c.m * d.m < 2 ^ k1 := by
    refine ⟨k0 + k0, by omega, ?_⟩
    rw [Nat.pow_add]
    exact Nat.mul_lt_mul'' hcm hdm
  have e1 := times_norm c d
  generalize times c d = S at *
  obtain ⟨gc, mc, xc⟩ := c
  obtain ⟨gd, md, xd⟩ := d
  obtain ⟨sc, rfl, hsc⟩ := hc
  obtain ⟨sd, rfl, hsd⟩ := hd
  simp only at *
  obtain ⟨ac, nc, cc, rfl⟩ := hsc.shape
  obtain ⟨ad, nd, cd, rfl⟩ := hsd.shape
  have HT := Lib.hid hT
  have HSC := Lib.hid hsc
  have HSD := Lib.hid hsd
  have HCM := Lib.hid hcm
  have HDM := Lib.hid hdm
  have HAB := Lib.hid hab
  have E := Lib.hid e1
  have HW := Lib.hid (IntWalk.i64_in (xc + xd) (by omega))
  clear hT hsc hsd hcm hdm hab e1
  go_enter Tryz.func51, Tryz.ntmps51
  go_wp2_with fail
  have XC := Lib.hid (((Box.new w (.bool gc) (.slice ac nc cc) (.int .i64 xc) 27).alloc (.cells #[.bool gd, .slice ad nd cd, .int .i64 xd] 27) |>.alloc (.cells #[.bool false, .slice none 0 0, .int .i64 0] 27)).drew)
  have XD := Lib.hid (((Box.new2 w (.cells #[.bool gc, .slice ac nc cc, .int .i64 xc] 27) (.bool gd) (.slice ad nd cd) (.int .i64 xd) 27).alloc (.cells #[.bool false, .slice none 0 0, .int .i64 0] 27)).drew)
  have XR := Lib.hid (Box.new3 w (.cells #[.bool gc, .slice ac nc cc, .int .i64 xc] 27) (.cells #[.bool gd, .slice ad nd cd, .int .i64 xd] 27) (.bool false) (.slice none 0 0) (.int .i64 0) 27).drew
  have B0 := Lib.hid (bl_alloc3 w (.cells #[.bool gc, .slice ac nc cc, .int .i64 xc] 27) (.cells #[.bool gd, .slice ad nd cd, .int .i64 xd] 27) (.cells #[.bool false, .slice none 0 0, .int .i64 0] 27)).drew
  go_region_held3 (fun w' => w'.cell? ⟨w.heap.size, 0, none⟩ = some (.bool gc) ∧ w'.cell? ⟨w.heap.size, 1, none⟩ = some (.slice ac nc cc) ∧ w'.cell? ⟨w.heap.size, 2, none⟩ = some (.int .i64 xc) ∧ w'.cell? ⟨w.heap.size + 1, 0, none⟩ = some (.bool gd) ∧ w'.cell? ⟨w.heap.size + 1, 1, none⟩ = some (.slice ad nd cd) ∧ w'.cell? ⟨w.heap.size + 1, 2, none⟩ = some (.int .i64 xd))
    (first
      | (go_keep; done)
      | (obtain ⟨p0, p1, p2, -, -, -⟩ := (XC.out.below hb1).cells
         obtain ⟨r0, r1, r2, -, -, -⟩ := (XD.out.below hb1).cells
         exact ⟨p0, p1, p2, r0, r1, r2⟩)
      | (obtain ⟨p0, p1, p2, -, -, -⟩ := ((XC.out.below HB1.out).below hb2).cells
         obtain ⟨r0, r1, r2, -, -, -⟩ := ((XD.out.below HB1.out).below hb2).cells
         exact ⟨p0, p1, p2, r0, r1, r2⟩)
      | (obtain ⟨p0, p1, p2, -, -, -⟩ := (((XC2.out.set (b' := w.heap.size + 1 + 1) (o := 0) (by omega) _).set (b' := w.heap.size + 1 + 1) (o := 1) (by omega) _).set (b' := w.heap.size + 1 + 1) (o := 2) (by omega) _).cells
         obtain ⟨r0, r1, r2, -, -, -⟩ := (((XD2.out.set (b' := w.heap.size + 1 + 1) (o := 0) (by omega) _).set (b' := w.heap.size + 1 + 1) (o := 1) (by omega) _).set (b' := w.heap.size + 1 + 1) (o := 2) (by omega) _).cells
         exact ⟨p0, p1, p2, r0, r1, r2⟩))
    (first
      | (go_at_call 113; refine (times_any (.slice ac nc cc) (.slice ad nd cd) mc md k0 _ (HSC.out.below B0.out) (HSD.out.below B0.out) HCM.out HDM.out (by omega)).mono ?_; rintro r w1 ⟨v1, rfl, hv1, hb1⟩; have HB1 := Lib.hid hb1; have HV1 := Lib.hid hv1; have B1 := Lib.hid (bl_thru B0.out (Nat.le_refl _) hb1))
      | (go_at_call 72; rw [HW.out]; refine (dnorm_any (!(gc == gd)) v1 (mc * md) k1 (xc + xd) _ (HT.out.below B1.out) HV1.out HAB.out (by omega) (by omega) (by omega)).mono ?_; rintro r w2 ⟨v2, rfl, ⟨s2, rfl, hv2⟩, hb2⟩; obtain ⟨a2, n2, c2, rfl⟩ := hv2.shape; have E2 : norm (!(gc == gd)) (mc * md) (xc + xd) = S := E.out; rw [E2] at hv2 ⊢; have HB2 := Lib.hid hb2; have HV2 := Lib.hid hv2; have XC2 := Lib.hid ((XC.out.below HB1.out).below hb2); have XD2 := Lib.hid ((XD.out.below HB1.out).below hb2); have X2 := Lib.hid ((XR.out.below HB1.out).below hb2); obtain ⟨s0, s1, s2, t0, t1, t2⟩ := X2.out.cells; have B2 := Lib.hid (bl_thru B1.out (Nat.le_refl _) hb2)))
  clear hv1 hb1 hv2 hb2
  go_wp2
  refine bodyPost_ret (v := .agg #[.bool S.neg, .slice a2 n2 c2, .int .i64 S.e]) (by simp [results, Tryz.results51, go_sem, s0, s1, s2]) rfl ?_
  exact ⟨_, rfl, ⟨.slice a2 n2 c2, rfl, HV2.out.setD X2.out⟩, bl_set3 B2.out (by omega) _ _ _⟩
end Go.Proofs.YtmpdbmaokbhcjaaGreatDoor
