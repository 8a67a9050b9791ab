/-
  THE WALK of quot.Ratio.
-/
import Derived.Test.YtfnchcogdmpojaaDoorRa
set_option linter.unusedVariables false
set_option linter.unusedSimpArgs false
namespace Go.Proofs.YtfnchcogdmpojaaDoor
open Go.RowKit Nt Fm

set_option maxRecDepth 100000 in
set_option maxHeartbeats 8000000 in
theorem ratio_any (vc vd : Value) (c d : D) (k0 : Nat) (w : World) (hc : DV w vc c) (hd : DV w vd d) (hcm : c.m < 2 ^ k0) (hdm : d.m < 2 ^ k0) (hd0 : d.m ≠ 0) (hk0 : k0 ≤ 100000) (ec0 : -400000 ≤ c.e) (ec1 : c.e ≤ 400000) (ed0 : -400000 ≤ d.e) (ed1 : d.e ≤ 400000) :
    Calls Tryd.prog 59 #[vc, vd] w (RetD w (ratD (c.neg != d.neg) c.m d.m (c.e - d.e))) := by
  obtain ⟨gc, mc, xc⟩ := c
  obtain ⟨gd, md, xd⟩ := d
  obtain ⟨sc, rfl, hsc⟩ := hc
  obtain ⟨sd, rfl, hsd⟩ := hd
  simp only at *
  obtain ⟨ac, nc, cc, rfl⟩ := hsc.shape
  obtain ⟨ad, nd, cd, rfl⟩ := hsd.shape
  obtain ⟨lc, hlc⟩ : ∃ lc, lc = blen mc := ⟨_, rfl⟩
  obtain ⟨ld, hld⟩ : ∃ ld, ld = blen md := ⟨_, rfl⟩
  have blc : lc ≤ k0 := by rw [hlc]; exact blen_le hcm
  have bld : ld ≤ k0 := by rw [hld]; exact blen_le hdm
  obtain ⟨k, hk⟩ : ∃ k, k = qk mc md := ⟨_, rfl⟩
  have ek : k = 80 + ld - lc := by rw [hk, hlc, hld]; rfl
  have EK : Hid (k = 80 + ld - lc ∧ True) := Lib.hid ⟨ek, trivial⟩
  have ek1 : k ≤ 100080 := by omega
  clear ek
  have LC := Lib.hid (fun w' h => natLen_any (.slice ac nc cc) mc k0 w' h hcm (by omega))
  have LD := Lib.hid (fun w' h => natLen_any (.slice ad nd cd) md k0 w' h hdm (by omega))
  rw [← hlc] at LC
  rw [← hld] at LD
  have LE := Lib.hid (fun w' x (h : NV w' (.slice ac nc cc) mc) (hx : x = (k : Int)) => left_any (.slice ac nc cc) mc k k0 x w' h hx hcm (by omega) (by omega))
  have hC : mc * 2 ^ k < 2 ^ (k0 + k) := by rw [Nat.pow_add]; exact Nat.mul_lt_mul_of_pos_right hcm (Nat.two_pow_pos _)
  have OV := Lib.hid (fun va w' (ha : NV w' va (mc * 2 ^ k)) (hb : NV w' (.slice ad nd cd) md) => over_any va _ _ md (k0 + k) w' ha hb (by omega) hC (by omega))
  have ST := Lib.hid (fun neg lost vq x w' (h : NV w' vq (mc * 2 ^ k / md)) => sticky_any neg lost vq _ (k0 + k) x w' h (Nat.lt_of_le_of_lt (Nat.div_le_self _ _) hC) (by omega))
  have ER : Hid (ratD (gc != gd) mc md (xc - xd) = ⟨gc != gd, 4 * (mc * 2 ^ k / md) + Fm.mark (mc * 2 ^ k % md), xc - xd - k - 2⟩ ∧ True) := Lib.hid ⟨by rw [hk]; rfl, trivial⟩
  rw [ER.out.1]
  generalize mc * 2 ^ k / md = q at *
  generalize mc * 2 ^ k % md = r at *
  have HSC := Lib.hid hsc
  have HSD := Lib.hid hsd
  clear ER hsc hsd hC hcm hdm hd0 hlc hld hk
  go_enter Tryd.func59, Tryd.ntmps59
  go_wp2_with fail
  obtain ⟨V, hV⟩ : ∃ V, V = (((w.alloc (.cells #[.bool gc, .slice ac nc cc, .int .i64 xc] 76)).alloc (.cells #[.bool gd, .slice ad nd cd, .int .i64 xd] 76)).alloc (.cells #[.bool false, .slice none 0 0, .int .i64 0] 76)) := ⟨_, rfl⟩
  have XC : Hid (Box V w.heap.size 76 (.bool gc) (.slice ac nc cc) (.int .i64 xc)) := Lib.hid (by rw [hV]; exact ((Box.new w (.bool gc) (.slice ac nc cc) (.int .i64 xc) 76).alloc (.cells #[.bool gd, .slice ad nd cd, .int .i64 xd] 76) |>.alloc (.cells #[.bool false, .slice none 0 0, .int .i64 0] 76)))
  have XD : Hid (Box V (w.heap.size + 1) 76 (.bool gd) (.slice ad nd cd) (.int .i64 xd)) := Lib.hid (by rw [hV]; exact ((Box.new2 w (.cells #[.bool gc, .slice ac nc cc, .int .i64 xc] 76) (.bool gd) (.slice ad nd cd) (.int .i64 xd) 76).alloc (.cells #[.bool false, .slice none 0 0, .int .i64 0] 76)))
  have XR : Hid (Box V (w.heap.size + 1 + 1) 76 (.bool false) (.slice none 0 0) (.int .i64 0)) := Lib.hid (by rw [hV]; exact (Box.new3 w (.cells #[.bool gc, .slice ac nc cc, .int .i64 xc] 76) (.cells #[.bool gd, .slice ad nd cd, .int .i64 xd] 76) (.bool false) (.slice none 0 0) (.int .i64 0) 76))
  have B0 : Hid (Below w.heap.size w V) := Lib.hid (by rw [hV]; exact bl_alloc3 w (.cells #[.bool gc, .slice ac nc cc, .int .i64 xc] 76) (.cells #[.bool gd, .slice ad nd cd, .int .i64 xd] 76) (.cells #[.bool false, .slice none 0 0, .int .i64 0] 76))
  rw [← hV]
  clear hV
  obtain ⟨p0, p1, p2, -, -, -⟩ := XC.out.drew.cells
  obtain ⟨r0, r1, r2, -, -, -⟩ := XD.out.drew.cells
  go_region_held3 (fun w' => w'.cell? ⟨w.heap.size, 0, none⟩ = some (.bool gc) ∧ w'.cell? ⟨w.heap.size, 1, none⟩ = some (.slice ac nc cc) ∧ w'.cell? ⟨w.heap.size, 2, none⟩ = some (.int .i64 xc) ∧ w'.cell? ⟨w.heap.size + 1, 0, none⟩ = some (.bool gd) ∧ w'.cell? ⟨w.heap.size + 1, 1, none⟩ = some (.slice ad nd cd) ∧ w'.cell? ⟨w.heap.size + 1, 2, none⟩ = some (.int .i64 xd))
    (first
      | (go_keep; done)
      | exact ⟨p0, p1, p2, r0, r1, r2⟩)
    (first
    | (go_at_call_of 69 (Value.slice ac nc cc); refine (LC.out _ (HSC.out.below B0.out.drew)).mono ?_; rintro e w' ⟨rfl, rfl⟩)
    | (go_at_call_of 69 (Value.slice ad nd cd); refine (LD.out _ (HSD.out.below B0.out.drew)).mono ?_; rintro e w' ⟨rfl, rfl⟩))
  have ek := EK.out.1
  have ekz : max 0 (IntKind.i64.wrap (IntKind.i64.wrap (80 + (ld : Int)) - (lc : Int))) = (k : Int) := by
    rw [IntWalk.i64_in (80 + (ld : Int)) (by omega), IntWalk.i64_in _ (by omega)]; omega
  rw [ekz]
  clear ekz ek p0 p1 p2 r0 r1 r2
  go_wp2_with fail
  obtain ⟨p0, p1, p2, -, -, -⟩ := XC.out.drew.drew.cells
  obtain ⟨r0, r1, r2, -, -, -⟩ := XD.out.drew.drew.cells
  go_region_held3 (fun w' => w'.cell? ⟨w.heap.size, 0, none⟩ = some (.bool gc) ∧ w'.cell? ⟨w.heap.size, 1, none⟩ = some (.slice ac nc cc) ∧ w'.cell? ⟨w.heap.size, 2, none⟩ = some (.int .i64 xc) ∧ w'.cell? ⟨w.heap.size + 1, 0, none⟩ = some (.bool gd) ∧ w'.cell? ⟨w.heap.size + 1, 1, none⟩ = some (.slice ad nd cd) ∧ w'.cell? ⟨w.heap.size + 1, 2, none⟩ = some (.int .i64 xd))
    (first
      | with_reducible exact ⟨p0, p1, p2, r0, r1, r2⟩
      | (obtain ⟨p0, p1, p2, -, -, -⟩ := (XC.out.drew.drew.below hb1).cells
         obtain ⟨r0, r1, r2, -, -, -⟩ := (XD.out.drew.drew.below hb1).cells
         exact ⟨p0, p1, p2, r0, r1, r2⟩)
      | (obtain ⟨p0, p1, p2, -, -, -⟩ := ((XC.out.drew.drew.below HB1.out).below hb2).cells
         obtain ⟨r0, r1, r2, -, -, -⟩ := ((XD.out.drew.drew.below HB1.out).below hb2).cells
         exact ⟨p0, p1, p2, r0, r1, r2⟩)
      | (go_keep; done))
    (first
    | (go_at_call 67; refine (LE.out _ _ (HSC.out.below B0.out.drew.drew) rfl).mono ?_; rintro r w1 ⟨v1, rfl, hv1, hb1⟩; have HB1 := Lib.hid hb1; have HV1 := Lib.hid hv1; have B1 := Lib.hid (bl_thru B0.out.drew.drew (Nat.le_refl _) hb1))
    | (go_at_call 72; refine (OV.out _ _ HV1.out (HSD.out.below B1.out)).mono ?_; rintro r w2 ⟨v2, v3, rfl, hv2, hv3, hb2⟩; obtain ⟨a3, n3, c3, rfl, l1, l2, lz⟩ := nv_len hv3; have HB2 := Lib.hid hb2; have HV2 := Lib.hid hv2; have HV3 := Lib.hid hv3; have B2 := Lib.hid (bl_thru B1.out (Nat.le_refl _) hb2)))
  clear hv1 hb1 hv2 hv3 hb2 p0 p1 p2 r0 r1 r2
  have C2 := Lib.hid ((XC.out.drew.drew.below HB1.out).below HB2.out)
  have D2 := Lib.hid ((XD.out.drew.drew.below HB1.out).below HB2.out)
  have R2 := Lib.hid ((XR.out.drew.drew.below HB1.out).below HB2.out)
  obtain ⟨p0, p1, p2, -, -, -⟩ := C2.out.cells
  obtain ⟨r0, r1, r2, -, -, -⟩ := D2.out.cells
  have hmk : (r = 0 ∧ decide (0 < n3) = false) ∨ (r ≠ 0 ∧ decide (0 < n3) = true) := by
    rcases lz with ⟨h1, h2⟩ | ⟨h1, h2⟩
    · exact Or.inl ⟨h1, by rw [decide_eq_false_iff_not]; omega⟩
    · exact Or.inr ⟨h1, by rw [decide_eq_true_eq]; omega⟩
  obtain ⟨bz, hbz⟩ : ∃ bz, bz = decide (0 < n3) := ⟨_, rfl⟩
  rw [← hbz] at hmk
  have EM : Hid ((if bz = true then 1 else 0) = Fm.mark r ∧ True) := Lib.hid ⟨by
    unfold Fm.mark
    rcases hmk with ⟨h1, h2⟩ | ⟨h1, h2⟩ <;> rw [h2] <;> simp [h1], trivial⟩
  have ebz : decide (0 < n3) = bz := hbz.symm
  clear lz hmk hbz
  have SX := Lib.hid (fun (gg : Bool) => ST.out gg bz v2 (xc - xd - k) w2 HV2.out (by omega) (by omega))
  rw [EM.out.1] at SX
  go_wp2_with fail
  refine (SX.out (!(gc == gd))).mono ?_
  rintro rr w4 ⟨v4, rfl, ⟨s4, rfl, h4⟩, hb4⟩
  obtain ⟨a4, n4, c4, rfl⟩ := h4.shape
  have R4 := Lib.hid (R2.out.below hb4)
  have H4 := Lib.hid h4
  have B4 := Lib.hid (bl_thru B2.out (Nat.le_refl _) hb4)
  clear h4 hb4 p0 p1 p2 r0 r1 r2
  obtain ⟨s0, s1, s2, t0, t1, t2⟩ := R4.out.cells
  have hB := B4.out.size
  go_wp2
  refine bodyPost_ret (v := .agg #[.bool (!(gc == gd)), .slice a4 n4 c4, .int .i64 (xc - xd - k - 2)]) (by simp [results, Tryd.results59, go_sem, s0, s1, s2]) rfl ?_
  exact ⟨_, rfl, ⟨_, rfl, H4.out.setD R4.out⟩, bl_set3 B4.out (by omega) _ _ _⟩
end Go.Proofs.YtfnchcogdmpojaaDoor
