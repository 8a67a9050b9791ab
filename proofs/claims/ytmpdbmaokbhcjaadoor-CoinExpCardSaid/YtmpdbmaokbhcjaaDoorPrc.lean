/-
  THE WALKS of series.plus, fixed.
-/
import Derived.Test.YtmpdbmaokbhcjaaDoorPrb
set_option linter.unusedVariables false
set_option linter.unusedSimpArgs false
namespace Go.Proofs.YtmpdbmaokbhcjaaDoor
open Go.RowKit Nt Fm
open Ea (Pr halfP timesP overP plusP fixedP cdv)

set_option maxRecDepth 100000 in
set_option maxHeartbeats 4000000 in
theorem plusP_any (v u : Value) (x y : Pr) (k0 : Nat) (w : World) (hv : PV w v x) (hu : PV w u y) (hxl : x.l < 2 ^ k0) (hxh : x.h < 2 ^ k0) (hyl : y.l < 2 ^ k0) (hyh : y.h < 2 ^ k0) (hk0 : k0 ≤ 110000000000000) :
    Calls Tryd.prog 120 #[v, u] w (RetP w (plusP x y)) := by
  obtain ⟨a1, n1, c1, a2, n2, c2, rfl, h1, h2⟩ := hv.parts
  obtain ⟨a3, n3, c3, a4, n4, c4, rfl, h3, h4⟩ := hu.parts
  obtain ⟨xl, xh⟩ := x
  obtain ⟨yl, yh⟩ := y
  simp only at *
  have T1 := Lib.hid (fun w' ha hb => plus_any (.slice a1 n1 c1) (.slice a3 n3 c3) xl yl k0 w' ha hb hxl hyl (by omega))
  have T2 := Lib.hid (fun w' ha hb => plus_any (.slice a2 n2 c2) (.slice a4 n4 c4) xh yh k0 w' ha hb hxh hyh (by omega))
  have hY : plusP ⟨xl, xh⟩ ⟨yl, yh⟩ = ⟨xl + yl, xh + yh⟩ := rfl
  rw [hY]
  obtain ⟨ql, hql⟩ : ∃ ql, ql = xl + yl := ⟨_, rfl⟩
  obtain ⟨qh, hqh⟩ : ∃ qh, qh = xh + yh := ⟨_, rfl⟩
  rw [← hql, ← hqh]
  rw [← hql] at T1
  rw [← hqh] at T2
  have H1 := Lib.hid h1
  have H2 := Lib.hid h2
  have H3 := Lib.hid h3
  have H4 := Lib.hid h4
  clear h1 h2 h3 h4 hv hu hxl hxh hyl hyh hY hql hqh
  go_enter Tryd.func120, Tryd.ntmps120
  go_wp2_with fail
  obtain ⟨V, hV⟩ : ∃ V, V = (((w.alloc (.cells #[.slice a1 n1 c1, .slice a2 n2 c2] 111)).alloc (.cells #[.slice a3 n3 c3, .slice a4 n4 c4] 111)).alloc (.cells #[.slice none 0 0, .slice none 0 0] 111)) := ⟨_, rfl⟩
  have XC : Hid (Bp V w.heap.size (.slice a1 n1 c1) (.slice a2 n2 c2)) := Lib.hid (by rw [hV]; exact ((Bp.new w (.slice a1 n1 c1) (.slice a2 n2 c2)).alloc (.cells #[.slice a3 n3 c3, .slice a4 n4 c4] 111) |>.alloc (.cells #[.slice none 0 0, .slice none 0 0] 111)))
  have XD : Hid (Bp V (w.heap.size + 1) (.slice a3 n3 c3) (.slice a4 n4 c4)) := Lib.hid (by rw [hV]; exact ((Bp.new2 w (.cells #[.slice a1 n1 c1, .slice a2 n2 c2] 111) (.slice a3 n3 c3) (.slice a4 n4 c4)).alloc (.cells #[.slice none 0 0, .slice none 0 0] 111)))
  have XR : Hid (Bp V (w.heap.size + 1 + 1) (.slice none 0 0) (.slice none 0 0)) := Lib.hid (by rw [hV]; exact (Bp.new3 w (.cells #[.slice a1 n1 c1, .slice a2 n2 c2] 111) (.cells #[.slice a3 n3 c3, .slice a4 n4 c4] 111) (.slice none 0 0) (.slice none 0 0)))
  have B0 : Hid (Below w.heap.size w V) := Lib.hid (by rw [hV]; exact bl_alloc3 w (.cells #[.slice a1 n1 c1, .slice a2 n2 c2] 111) (.cells #[.slice a3 n3 c3, .slice a4 n4 c4] 111) (.cells #[.slice none 0 0, .slice none 0 0] 111))
  rw [← hV]
  clear hV
  obtain ⟨p0, p1, -, -⟩ := XC.out.drew.cells
  obtain ⟨r0, r1, -, -⟩ := XD.out.drew.cells
  go_region_held3 (fun w' => w'.cell? ⟨w.heap.size, 0, none⟩ = some (.slice a1 n1 c1) ∧ w'.cell? ⟨w.heap.size, 1, none⟩ = some (.slice a2 n2 c2) ∧ w'.cell? ⟨w.heap.size + 1, 0, none⟩ = some (.slice a3 n3 c3) ∧ w'.cell? ⟨w.heap.size + 1, 1, none⟩ = some (.slice a4 n4 c4))
    (first
      | with_reducible exact ⟨p0, p1, r0, r1⟩
      | (obtain ⟨p0, p1, -, -⟩ := (XC.out.drew.below hb1).cells
         obtain ⟨r0, r1, -, -⟩ := (XD.out.drew.below hb1).cells
         with_reducible exact ⟨p0, p1, r0, r1⟩)
      | (obtain ⟨p0, p1, -, -⟩ := ((XC.out.drew.below HB1.out).below hb2).cells
         obtain ⟨r0, r1, -, -⟩ := ((XD.out.drew.below HB1.out).below hb2).cells
         with_reducible exact ⟨p0, p1, r0, r1⟩)
      | (obtain ⟨p0, p1, -, -⟩ := ((((XC.out.drew.below HB1.out).below HB2.out).set (b' := w.heap.size + 1 + 1) (o := 0) (by omega) (.slice e1 f1 g1)).set (b' := w.heap.size + 1 + 1) (o := 1) (by omega) (.slice e2 f2 g2)).cells
         obtain ⟨r0, r1, -, -⟩ := ((((XD.out.drew.below HB1.out).below HB2.out).set (b' := w.heap.size + 1 + 1) (o := 0) (by omega) (.slice e1 f1 g1)).set (b' := w.heap.size + 1 + 1) (o := 1) (by omega) (.slice e2 f2 g2)).cells
         with_reducible exact ⟨p0, p1, r0, r1⟩)
      | (go_keep; done))
    (first
    | (go_at_call_of 87 (Value.slice a1 n1 c1); refine (T1.out _ (H1.out.below B0.out.drew) (H3.out.below B0.out.drew)).mono ?_; rintro r w1 ⟨v1, rfl, hv1, hb1⟩; obtain ⟨e1, f1, g1, rfl⟩ := hv1.shape; have HB1 := Lib.hid hb1; have HV1 := Lib.hid hv1; have B1 := Lib.hid (bl_thru B0.out.drew (Nat.le_refl _) hb1))
    | (go_at_call_of 87 (Value.slice a2 n2 c2); refine (T2.out _ (H2.out.below B1.out) (H4.out.below B1.out)).mono ?_; rintro r w2 ⟨v2, rfl, hv2, hb2⟩; obtain ⟨e2, f2, g2, rfl⟩ := hv2.shape; have HB2 := Lib.hid hb2; have HV2 := Lib.hid hv2; have HV12 := Lib.hid (HV1.out.below hb2); have B2 := Lib.hid (bl_thru B1.out (Nat.le_refl _) hb2); have R3 := Lib.hid ((XR.out.drew.below HB1.out).below hb2); obtain ⟨z0, z1, z2, z3⟩ := R3.out.cells; obtain ⟨u0, u1, u2, u3⟩ := R3.out.drew.cells))
  have R4 := Lib.hid (R3.out.set2 (.slice e1 f1 g1) (.slice e2 f2 g2))
  clear z0 z1 z2 z3 u0 u1 u2 u3 hb1 hb2 hv1 hv2 p0 p1 r0 r1
  obtain ⟨s0, s1, t0, t1⟩ := R4.out.cells
  go_wp2
  refine bodyPost_ret (v := .agg #[.slice e1 f1 g1, .slice e2 f2 g2]) (by simp [results, Tryd.results120, go_sem, s0, s1]) rfl ?_
  exact ⟨_, rfl, ⟨_, _, rfl, HV12.out.setP2 R3.out, HV2.out.setP2 R3.out⟩, bl_set2 B2.out (by omega) _ _⟩

set_option maxRecDepth 100000 in
set_option maxHeartbeats 4000000 in
theorem fixedP_any (v : Value) (m k0 p : Nat) (e P : Int) (w : World) (hv : NV w v m) (hP : P = (p : Int)) (hm : m < 2 ^ k0) (hk0 : k0 ≤ 40000000000000) (e0 : -40000000000000 ≤ e) (e1 : e ≤ 40000000000000) (hp : p ≤ 40000000000000) :
    Calls Tryd.prog 117 #[v, .int .i64 e, .int .i64 P] w (RetP w (fixedP m e p)) := by
  subst hP
  obtain ⟨a1, n1, c1, rfl⟩ := hv.shape
  have HV := Lib.hid hv
  by_cases hc : 0 ≤ e + p
  · have LE := Lib.hid (fun x w' ha (hx : x = e + p) => left_any (.slice a1 n1 c1) m (e + p).toNat k0 x w' ha (by omega) hm (by omega) (by omega))
    have hY : fixedP m e p = ⟨m * 2 ^ (e + p).toNat, m * 2 ^ (e + p).toNat⟩ := by unfold fixedP; rw [if_pos hc]
    rw [hY]
    generalize m * 2 ^ (e + p).toNat = Y at *
    clear hY hm hv
    go_enter Tryd.func117, Tryd.ntmps117
    go_wp2_with fail
    refine (LE.out _ _ (HV.out.alloc _) rfl).mono ?_
    rintro r w1 ⟨v1, rfl, hv1, hb1⟩
    have B1 := Lib.hid (bl_thru ((Below.refl w.heap.size w).alloc (Nat.le_refl _) _) (Nat.le_refl _) hb1)
    have Z1 := Lib.hid ((Bp.new w (.slice none 0 0) (.slice none 0 0)).below hb1)
    obtain ⟨e1, f1, g1, rfl⟩ := hv1.shape
    have V1 := Lib.hid hv1
    clear hv1 hb1
    obtain ⟨s0, s1, t0, t1⟩ := Z1.out.cells
    go_wp2
    refine bodyPost_ret (v := .agg #[.slice e1 f1 g1, .slice e1 f1 g1]) (by simp [results, Tryd.results117, go_sem, s0, s1]) rfl ?_
    exact ⟨_, rfl, ⟨_, _, rfl, V1.out.setP2 Z1.out, V1.out.setP2 Z1.out⟩, bl_set2 B1.out (by omega) _ _⟩
  · have HA := Lib.hid (fun x w' (h : NV w' (.slice a1 n1 c1) m) (hx : x = -e - p) => half_any (.agg #[.slice a1 n1 c1, .slice a1 n1 c1]) ⟨m, m⟩ (-e - p).toNat k0 x w' ⟨_, _, rfl, h, h⟩ (by omega) hm hm (by omega) (by omega))
    have hY : fixedP m e p = halfP ⟨m, m⟩ (-e - p).toNat := by unfold fixedP; rw [if_neg hc]
    rw [hY]
    generalize halfP ⟨m, m⟩ (-e - p).toNat = Y at *
    have hd : decide (0 ≤ e + (p : Int)) = false := by rw [decide_eq_false_iff_not]; exact hc
    clear hY hm hv
    go_enter Tryd.func117, Tryd.ntmps117
    go_wp2_with fail
    refine (HA.out _ _ (HV.out.alloc _) rfl).mono ?_
    rintro r w1 ⟨v1, rfl, hp1, hb1⟩
    have B1 := Lib.hid (bl_thru ((Below.refl w.heap.size w).alloc (Nat.le_refl _) _) (Nat.le_refl _) hb1)
    have Z1 := Lib.hid ((Bp.new w (.slice none 0 0) (.slice none 0 0)).below hb1)
    obtain ⟨e1, f1, g1, e2, f2, g2, rfl, hv1, hv2⟩ := hp1.parts
    have V1 := Lib.hid hv1
    have V2 := Lib.hid hv2
    clear hv1 hv2 hp1 hb1
    obtain ⟨s0, s1, t0, t1⟩ := Z1.out.cells
    go_wp2
    refine bodyPost_ret (v := .agg #[.slice e1 f1 g1, .slice e2 f2 g2]) (by simp [results, Tryd.results117, go_sem, s0, s1]) rfl ?_
    exact ⟨_, rfl, ⟨_, _, rfl, V1.out.setP2 Z1.out, V2.out.setP2 Z1.out⟩, bl_set2 B1.out (by omega) _ _⟩
end Go.Proofs.YtmpdbmaokbhcjaaDoor
