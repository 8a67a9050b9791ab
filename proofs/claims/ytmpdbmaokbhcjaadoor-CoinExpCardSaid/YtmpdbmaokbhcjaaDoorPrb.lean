/-
  THE WALKS of series.times, over, plus, fixed.
-/
import Derived.Test.YtmpdbmaokbhcjaaDoorPra
import Derived.Deep.RegionHeld3
set_option linter.unusedVariables false
set_option linter.unusedSimpArgs false
namespace Go.Proofs.YtmpdbmaokbhcjaaDoor
open Go.RowKit Nt Fm
open Ea (Pr halfP timesP overP plusP fixedP cdv)

theorem mul_lt_two {a b k : Nat} (ha : a < 2 ^ k) (hb : b < 2 ^ k) : a * b < 2 ^ (2 * k) := by
  rw [show 2 * k = k + k by omega, Nat.pow_add]
  exact Nat.mul_lt_mul'' ha hb
set_option maxRecDepth 100000 in
set_option maxHeartbeats 4000000 in
theorem timesP_any (v u : Value) (x y : Pr) (p k0 : Nat) (X : Int) (w : World) (hv : PV w v x) (hu : PV w u y) (hX : X = (p : Int)) (hxl : x.l < 2 ^ k0) (hxh : x.h < 2 ^ k0) (hyl : y.l < 2 ^ k0) (hyh : y.h < 2 ^ k0) (hk0 : k0 ≤ 50000000000000) (hp : p ≤ 120000000000000) :
    Calls Tryd.prog 119 #[v, u, .int .i64 X] w (RetP w (timesP x y p)) := by
  subst hX
  obtain ⟨a1, n1, c1, a2, n2, c2, rfl, h1, h2⟩ := hv.parts
  obtain ⟨a3, n3, c3, a4, n4, c4, rfl, h3, h4⟩ := hu.parts
  obtain ⟨xl, xh⟩ := x
  obtain ⟨yl, yh⟩ := y
  simp only at *
  have g1 := mul_lt_two hxl hyl
  have g2 := mul_lt_two hxh hyh
  have T1 := Lib.hid (fun w' ha hb => times_any (.slice a1 n1 c1) (.slice a3 n3 c3) xl yl k0 w' ha hb hxl hyl (by omega))
  have T2 := Lib.hid (fun w' ha hb => times_any (.slice a2 n2 c2) (.slice a4 n4 c4) xh yh k0 w' ha hb hxh hyh (by omega))
  have HA := Lib.hid (fun v w' (h : PV w' v ⟨xl * yl, xh * yh⟩) => half_any v _ p (2 * k0) p w' h rfl g1 g2 (by omega) hp)
  have hY : timesP ⟨xl, xh⟩ ⟨yl, yh⟩ p = halfP ⟨xl * yl, xh * yh⟩ p := rfl
  rw [hY]
  generalize halfP ⟨xl * yl, xh * yh⟩ p = Y at *
  generalize xl * yl = ql at *
  generalize xh * yh = qh at *
  have H1 := Lib.hid h1
  have H2 := Lib.hid h2
  have H3 := Lib.hid h3
  have H4 := Lib.hid h4
  clear h1 h2 h3 h4 hv hu hxl hxh hyl hyh g1 g2 hY
  go_enter Tryd.func119, Tryd.ntmps119
  go_wp2_with fail
  obtain ⟨V, hV⟩ : ∃ V, V = (((w.alloc (.cells #[.slice a1 n1 c1, .slice a2 n2 c2] 111)).alloc (.cells #[.slice a3 n3 c3, .slice a4 n4 c4] 111)).alloc (.cells #[.slice none 0 0, .slice none 0 0] 111)) := ⟨_, rfl⟩
  have XC : Hid (Bp V w.heap.size (.slice a1 n1 c1) (.slice a2 n2 c2)) := Lib.hid (by rw [hV]; exact ((Bp.new w (.slice a1 n1 c1) (.slice a2 n2 c2)).alloc (.cells #[.slice a3 n3 c3, .slice a4 n4 c4] 111) |>.alloc (.cells #[.slice none 0 0, .slice none 0 0] 111)))
  have XD : Hid (Bp V (w.heap.size + 1) (.slice a3 n3 c3) (.slice a4 n4 c4)) := Lib.hid (by rw [hV]; exact ((Bp.new2 w (.cells #[.slice a1 n1 c1, .slice a2 n2 c2] 111) (.slice a3 n3 c3) (.slice a4 n4 c4)).alloc (.cells #[.slice none 0 0, .slice none 0 0] 111)))
  have XR : Hid (Bp V (w.heap.size + 1 + 1) (.slice none 0 0) (.slice none 0 0)) := Lib.hid (by rw [hV]; exact (Bp.new3 w (.cells #[.slice a1 n1 c1, .slice a2 n2 c2] 111) (.cells #[.slice a3 n3 c3, .slice a4 n4 c4] 111) (.slice none 0 0) (.slice none 0 0)))
  have B0 : Hid (Below w.heap.size w V) := Lib.hid (by rw [hV]; exact bl_alloc3 w (.cells #[.slice a1 n1 c1, .slice a2 n2 c2] 111) (.cells #[.slice a3 n3 c3, .slice a4 n4 c4] 111) (.cells #[.slice none 0 0, .slice none 0 0] 111))
  rw [← hV]
  clear hV
  obtain ⟨p0, p1, -, -⟩ := XC.out.drew.cells
  obtain ⟨r0, r1, -, -⟩ := XD.out.drew.cells
  go_region_held3 (fun w' => w'.cell? ⟨w.heap.size, 0, none⟩ = some (.slice a1 n1 c1) ∧ w'.cell? ⟨w.heap.size, 1, none⟩ = some (.slice a2 n2 c2) ∧ w'.cell? ⟨w.heap.size + 1, 0, none⟩ = some (.slice a3 n3 c3) ∧ w'.cell? ⟨w.heap.size + 1, 1, none⟩ = some (.slice a4 n4 c4))
    (first
      | with_reducible exact ⟨p0, p1, r0, r1⟩
      | (obtain ⟨p0, p1, -, -⟩ := (XC.out.drew.below hb1).cells
         obtain ⟨r0, r1, -, -⟩ := (XD.out.drew.below hb1).cells
         with_reducible exact ⟨p0, p1, r0, r1⟩)
      | (obtain ⟨p0, p1, -, -⟩ := ((XC.out.drew.below HB1.out).below hb2).cells
         obtain ⟨r0, r1, -, -⟩ := ((XD.out.drew.below HB1.out).below hb2).cells
         with_reducible exact ⟨p0, p1, r0, r1⟩)
      | (obtain ⟨p0, p1, -, -⟩ := (((XC.out.drew.below HB1.out).below HB2.out).below hb3).cells
         obtain ⟨r0, r1, -, -⟩ := (((XD.out.drew.below HB1.out).below HB2.out).below hb3).cells
         with_reducible exact ⟨p0, p1, r0, r1⟩)
      | (obtain ⟨p0, p1, -, -⟩ := (((((XC.out.drew.below HB1.out).below HB2.out).below HB3.out).set (b' := w.heap.size + 1 + 1) (o := 0) (by omega) (.slice e3 f3 g3)).set (b' := w.heap.size + 1 + 1) (o := 1) (by omega) (.slice e4 f4 g4)).cells
         obtain ⟨r0, r1, -, -⟩ := (((((XD.out.drew.below HB1.out).below HB2.out).below HB3.out).set (b' := w.heap.size + 1 + 1) (o := 0) (by omega) (.slice e3 f3 g3)).set (b' := w.heap.size + 1 + 1) (o := 1) (by omega) (.slice e4 f4 g4)).cells
         with_reducible exact ⟨p0, p1, r0, r1⟩)
      | (go_keep; done))
    (first
    | (go_at_call_of 116 (Value.slice a1 n1 c1); refine (T1.out _ (H1.out.below B0.out.drew) (H3.out.below B0.out.drew)).mono ?_; rintro r w1 ⟨v1, rfl, hv1, hb1⟩; obtain ⟨e1, f1, g1, rfl⟩ := hv1.shape; have HB1 := Lib.hid hb1; have HV1 := Lib.hid hv1; have B1 := Lib.hid (bl_thru B0.out.drew (Nat.le_refl _) hb1))
    | (go_at_call_of 116 (Value.slice a2 n2 c2); refine (T2.out _ (H2.out.below B1.out) (H4.out.below B1.out)).mono ?_; rintro r w2 ⟨v2, rfl, hv2, hb2⟩; obtain ⟨e2, f2, g2, rfl⟩ := hv2.shape; have HB2 := Lib.hid hb2; have HV2 := Lib.hid hv2; have B2 := Lib.hid (bl_thru B1.out (Nat.le_refl _) hb2))
    | (go_at_call 145; refine (HA.out _ _ ⟨_, _, rfl, HV1.out.below HB2.out, HV2.out⟩).mono ?_; rintro r w3 ⟨v3, rfl, hp3, hb3⟩; obtain ⟨e3, f3, g3, e4, f4, g4, rfl, hv3, hv4⟩ := hp3.parts; have HB3 := Lib.hid hb3; have HV3 := Lib.hid hv3; have HV4 := Lib.hid hv4; have B3 := Lib.hid (bl_thru B2.out (Nat.le_refl _) hb3); have R3 := Lib.hid (((XR.out.drew.below HB1.out).below HB2.out).below hb3); obtain ⟨z0, z1, z2, z3⟩ := R3.out.cells; obtain ⟨u0, u1, u2, u3⟩ := R3.out.drew.cells))
  have R4 := Lib.hid (R3.out.set2 (.slice e3 f3 g3) (.slice e4 f4 g4))
  clear z0 z1 z2 z3 u0 u1 u2 u3 hb1 hb2 hb3 hv1 hv2 hv3 hv4 hp3 p0 p1 r0 r1
  obtain ⟨s0, s1, t0, t1⟩ := R4.out.cells
  go_wp2
  refine bodyPost_ret (v := .agg #[.slice e3 f3 g3, .slice e4 f4 g4]) (by simp [results, Tryd.results119, go_sem, s0, s1]) rfl ?_
  exact ⟨_, rfl, ⟨_, _, rfl, HV3.out.setP2 R3.out, HV4.out.setP2 R3.out⟩, bl_set2 B3.out (by omega) _ _⟩

theorem cdv_of (a b : Nat) : cdv a b = if a % b = 0 then a / b else a / b + 1 := by
  unfold cdv
  by_cases h : a % b = 0 <;> simp [h]
set_option maxRecDepth 100000 in
set_option maxHeartbeats 4000000 in
theorem overP_any (v : Value) (x : Pr) (n k0 : Nat) (X : Int) (w : World) (hv : PV w v x) (hX : X = (n : Int)) (hxl : x.l < 2 ^ k0) (hxh : x.h < 2 ^ k0) (hk0 : k0 ≤ 39000000000000) (hn0 : 0 < n) (hn : n ≤ 120000000000000) :
    Calls Tryd.prog 118 #[v, .int .i64 X] w (RetP w (overP x n)) := by
  subst hX
  obtain ⟨a1, n1, c1, a2, n2, c2, rfl, h1, h2⟩ := hv.parts
  obtain ⟨xl, xh⟩ := x
  simp only at *
  have OF : Hid (∀ (x : Int) w', x = (n : Int) → Calls Tryd.prog 71 #[.int .u64 x] w' (RetNV w' n)) := Lib.hid (fun x w' hx => by
    subst hx
    have := natOf_any (n : Int) (by omega) (by omega) w'
    rwa [Int.toNat_natCast] at this)
  have O1 := Lib.hid (fun vb w' ha (hb : NV w' vb n) => over_any (.slice a1 n1 c1) vb xl n k0 w' ha hb hn0 hxl (by omega))
  have O2 := Lib.hid (fun vb w' ha (hb : NV w' vb n) => over_any (.slice a2 n2 c2) vb xh n k0 w' ha hb hn0 hxh (by omega))
  have hq : xh / n < 2 ^ (k0 + 1) := by
    have := Nat.div_le_self xh n
    rw [Nat.pow_succ]; omega
  have h1q : 1 < 2 ^ (k0 + 1) := by rw [Nat.pow_succ]; have := Nat.two_pow_pos k0; omega
  have O0 := Lib.hid (fun w' => natOf_any 1 (by omega) (by omega) w')
  have PL := Lib.hid (fun va vb w' (ha : NV w' va (xh / n)) (hb : NV w' vb 1) => plus_any va vb _ 1 (k0 + 1) w' ha hb hq h1q (by omega))
  have hcase : (xh % n = 0 → overP ⟨xl, xh⟩ n = ⟨xl / n, xh / n⟩) ∧ (xh % n ≠ 0 → overP ⟨xl, xh⟩ n = ⟨xl / n, xh / n + 1⟩) := by
    unfold overP
    constructor <;> intro hb <;> rw [cdv_of]
    · rw [if_pos hb]
    · rw [if_neg hb]
  have HC := Lib.hid hcase
  generalize overP ⟨xl, xh⟩ n = Y at *
  generalize xl / n = ql at *
  generalize xh / n = qh at *
  generalize xl % n = rl at *
  generalize xh % n = rh at *
  have H1 := Lib.hid h1
  have H2 := Lib.hid h2
  clear h1 h2 hv hxl hxh hq h1q hcase
  go_enter Tryd.func118, Tryd.ntmps118
  go_wp2_with fail
  obtain ⟨V, hV⟩ : ∃ V, V = ((w.alloc (.cells #[.slice a1 n1 c1, .slice a2 n2 c2] 111)).alloc (.cells #[.slice none 0 0, .slice none 0 0] 111)) := ⟨_, rfl⟩
  have XC : Hid (Bp V w.heap.size (.slice a1 n1 c1) (.slice a2 n2 c2)) := Lib.hid (by rw [hV]; exact ((Bp.new w (.slice a1 n1 c1) (.slice a2 n2 c2)).alloc (.cells #[.slice none 0 0, .slice none 0 0] 111)))
  have XR : Hid (Bp V (w.heap.size + 1) (.slice none 0 0) (.slice none 0 0)) := Lib.hid (by rw [hV]; exact (Bp.new2 w (.cells #[.slice a1 n1 c1, .slice a2 n2 c2] 111) (.slice none 0 0) (.slice none 0 0)))
  have B0 : Hid (Below w.heap.size w V) := Lib.hid (by rw [hV]; exact bl_alloc2 w (.cells #[.slice a1 n1 c1, .slice a2 n2 c2] 111) (.cells #[.slice none 0 0, .slice none 0 0] 111))
  rw [← hV]
  clear hV
  obtain ⟨p0, p1, -, -⟩ := XC.out.drew.cells
  go_region_held3 (fun w' => w'.cell? ⟨w.heap.size, 0, none⟩ = some (.slice a1 n1 c1) ∧ w'.cell? ⟨w.heap.size, 1, none⟩ = some (.slice a2 n2 c2))
    (first
      | with_reducible exact ⟨p0, p1⟩
      | (obtain ⟨p0, p1, -, -⟩ := (XC.out.drew.below hb1).cells
         with_reducible exact ⟨p0, p1⟩)
      | (obtain ⟨p0, p1, -, -⟩ := ((XC.out.drew.below HB1.out).below hb2).cells
         with_reducible exact ⟨p0, p1⟩)
      | (go_keep; done))
    (first
    | (go_at_call 71; refine (OF.out _ _ (IntWalk.u64_in _ (by omega))).mono ?_; rintro r w1 ⟨v1, rfl, hv1, hb1⟩; have HB1 := Lib.hid hb1; have HV1 := Lib.hid hv1; have B1 := Lib.hid (bl_thru B0.out.drew (Nat.le_refl _) hb1))
    | (go_at_call 91; refine (O1.out _ _ (H1.out.below B1.out) HV1.out).mono ?_; rintro r w2 ⟨v2, v3, rfl, hv2, hv3, hb2⟩; have HB2 := Lib.hid hb2; have HV2 := Lib.hid hv2; have B2 := Lib.hid (bl_thru B1.out (Nat.le_refl _) hb2)))
  clear hb1 hb2 hv1 hv2 hv3 p0 p1
  have X2 := Lib.hid ((XC.out.drew.below HB1.out).below HB2.out)
  have R2 := Lib.hid ((XR.out.drew.below HB1.out).below HB2.out)
  go_wp2_with fail
  obtain ⟨p0, p1, -, -⟩ := X2.out.drew.cells
  go_region_held3 (fun w' => w'.cell? ⟨w.heap.size, 0, none⟩ = some (.slice a1 n1 c1) ∧ w'.cell? ⟨w.heap.size, 1, none⟩ = some (.slice a2 n2 c2))
    (first
      | with_reducible exact ⟨p0, p1⟩
      | (obtain ⟨p0, p1, -, -⟩ := (X2.out.drew.below hb3).cells
         with_reducible exact ⟨p0, p1⟩)
      | (obtain ⟨p0, p1, -, -⟩ := ((X2.out.drew.below HB3.out).below hb4).cells
         with_reducible exact ⟨p0, p1⟩)
      | (go_keep; done))
    (first
    | (go_at_call 71; refine (OF.out _ _ (IntWalk.u64_in _ (by omega))).mono ?_; rintro r w3 ⟨u3, rfl, hu3, hb3⟩; have HB3 := Lib.hid hb3; have HU3 := Lib.hid hu3; have B3 := Lib.hid (bl_thru B2.out.drew (Nat.le_refl _) hb3))
    | (go_at_call 91; refine (O2.out _ _ (H2.out.below B3.out) HU3.out).mono ?_; rintro r w4 ⟨v4, v5, rfl, hv4, hv5, hb4⟩; obtain ⟨e5, f5, g5, rfl, l1, l2, lz⟩ := nv_len hv5; have HB4 := Lib.hid hb4; have HV4 := Lib.hid hv4; have B4 := Lib.hid (bl_thru B3.out (Nat.le_refl _) hb4)))
  clear hb3 hb4 hu3 hv4 hv5 p0 p1
  have R4 := Lib.hid ((R2.out.drew.below HB3.out).below HB4.out)
  have V2 := Lib.hid (((show NV w2.drew v2 ql from HV2.out).below HB3.out).below HB4.out)
  obtain ⟨e2, f2, g2, rfl⟩ := V2.out.shape
  obtain ⟨e4, f4, g4, rfl⟩ := HV4.out.shape
  rcases lz with ⟨z1, z2⟩ | ⟨z1, z2⟩
  · have hY := HC.out.1 z1
    subst z2
    clear HC
    obtain ⟨s0, s1, t0, t1⟩ := R4.out.cells
    go_wp2
    refine bodyPost_ret (v := .agg #[.slice e2 f2 g2, .slice e4 f4 g4]) (by simp [results, Tryd.results118, go_sem, s0, s1]) rfl ?_
    rw [hY]
    exact ⟨_, rfl, ⟨_, _, rfl, V2.out.setP2 R4.out, HV4.out.setP2 R4.out⟩, bl_set2 B4.out (by omega) _ _⟩
  · have HY := Lib.hid (HC.out.2 z1)
    have hd : decide (0 < f5) = true := by rw [decide_eq_true_eq]; omega
    clear HC z1
    go_wp2_with fail
    refine (O0.out _).mono ?_
    rintro e w5 ⟨v6, rfl, hv6, hb6⟩
    have B5 := Lib.hid (bl_thru B4.out (Nat.le_refl _) hb6)
    have R5 := Lib.hid (R4.out.below hb6)
    have V3 := Lib.hid (V2.out.below hb6)
    have V5 := Lib.hid (HV4.out.below hb6)
    have V6 := Lib.hid hv6
    clear hb6 hv6
    go_wp2_with fail
    refine (PL.out _ _ _ V5.out V6.out).mono ?_
    rintro e w6 ⟨v7, rfl, hv7, hb7⟩
    have B6 := Lib.hid (bl_thru B5.out (Nat.le_refl _) hb7)
    have R6 := Lib.hid (R5.out.below hb7)
    have V4 := Lib.hid (V3.out.below hb7)
    obtain ⟨e7, f7, g7, rfl⟩ := hv7.shape
    have V7 := Lib.hid hv7
    clear hb7 hv7
    obtain ⟨s0, s1, t0, t1⟩ := R6.out.cells
    go_wp2
    refine bodyPost_ret (v := .agg #[.slice e2 f2 g2, .slice e7 f7 g7]) (by simp [results, Tryd.results118, go_sem, s0, s1]) rfl ?_
    rw [HY.out]
    exact ⟨_, rfl, ⟨_, _, rfl, V4.out.setP2 R6.out, V7.out.setP2 R6.out⟩, bl_set2 B6.out (by omega) _ _⟩
end Go.Proofs.YtmpdbmaokbhcjaaDoor
