/-
  THE WALKS of dyad.Opp, dyad.Compare.
-/
import Derived.Test.YthoejmhpgabgdaaDoorPl
import Derived.Test.YthoejmhpgabgdaaDoorSl
import Derived.Test.YthoejmhpgabgdaaDoorBf
set_option linter.unusedVariables false
set_option linter.unusedSimpArgs false
namespace Go.Proofs.YthoejmhpgabgdaaDoor
open Go.RowKit Nt Fm

set_option maxHeartbeats 2000000 in
theorem opp_any (vd : Value) (d : D) (k0 : Nat) (w : World) (hd : DV w vd d) (hdm : d.m < 2 ^ k0) (hk0 : k0 ≤ 400000) :
    Calls Tryd.prog 94 #[vd] w (RetD w (opp d)) := by
  obtain ⟨g, m, x⟩ := d
  obtain ⟨s, rfl, hs⟩ := hd
  simp only at *
  obtain ⟨ao, n, c, rfl, l1, l2, lz⟩ := nv_len hs
  have hcl := fun w1 h1 => clone_any (.slice ao n c) m k0 w1 h1 hdm (by omega)
  have hcase : (g = true ∧ opp ⟨g, m, x⟩ = ⟨false, m, x⟩) ∨ (g = false ∧ n = 0 ∧ opp ⟨g, m, x⟩ = ⟨false, m, x⟩) ∨ (g = false ∧ decide (0 < n) = true ∧ opp ⟨g, m, x⟩ = ⟨true, m, x⟩) := by
    unfold opp
    cases g
    · right
      rcases lz with ⟨h1, h2⟩ | ⟨h1, h2⟩
      · left; exact ⟨rfl, h2, by simp [h1]⟩
      · right; exact ⟨rfl, by simp; omega, by simp [h1]⟩
    · left; exact ⟨rfl, by simp⟩
  generalize opp ⟨g, m, x⟩ = S at *
  have HCL := Lib.hid hcl
  have HS := Lib.hid hs
  clear hcl hs hdm lz
  rcases hcase with ⟨rfl, rfl⟩ | ⟨rfl, rfl, rfl⟩ | ⟨rfl, hn, rfl⟩
  all_goals
    go_enter Tryd.func94, Tryd.ntmps94
    go_wp2_with fail
    refine (HCL.out _ (HS.out.below (bl_alloc2 _ _ _))).mono ?_
    rintro r w1 ⟨v, rfl, hv, hb⟩
    obtain ⟨a1, n1, c1, rfl⟩ := hv.shape
    have X1 := Lib.hid (((Box.new w _ _ _ _).alloc _).below hb)
    have Z1 := Lib.hid ((Box.new2 w _ _ _ _ _).below hb)
    have B1 := Lib.hid (bl_thru (bl_alloc2 w _ _) (Nat.le_refl _) hb)
    have HV := Lib.hid hv
    obtain ⟨q0, q1, q2, f0, f1, f2⟩ := X1.out.cells
    obtain ⟨p0, p1, p2, g0, g1, g2⟩ := Z1.out.cells
    clear hv hb
    go_wp2
    first
      | (refine bodyPost_ret (v := .agg #[.bool false, .slice a1 n1 c1, .int .i64 x]) ?_ rfl ?_; focus (simp [results, Tryd.results94, go_sem, p0, p1, p2]; done))
      | (refine bodyPost_ret (v := .agg #[.bool true, .slice a1 n1 c1, .int .i64 x]) ?_ rfl ?_; focus (simp [results, Tryd.results94, go_sem, p0, p1, p2]; done))
    exact ⟨_, rfl, ⟨.slice a1 n1 c1, rfl, (HV.out.setBox X1.out (noLimb_bool _) (noLimb_slice _ _ _) (noLimb_i64 _) _ _).setD (Z1.out.set (by omega) _)⟩, bl_set3 (B1.out.setCell (Nat.le_refl _) _) (by omega) _ _ _⟩
theorem opp_m (d : D) : (opp d).m = d.m := rfl
theorem opp_e (d : D) : (opp d).e = d.e := rfl

set_option maxRecDepth 100000 in
set_option maxHeartbeats 4000000 in
theorem compareD_any (vc vd : Value) (c d : D) (k0 : Nat) (w : World) (hT : Tab w) (hc : DV w vc c) (hd : DV w vd d) (hcm : c.m < 2 ^ k0) (hdm : d.m < 2 ^ k0) (hk0 : k0 ≤ 400000) (ec0 : -400000 ≤ c.e) (ec1 : c.e ≤ 400000) (ed0 : -400000 ≤ d.e) (ed1 : d.e ≤ 400000) :
    Calls Tryd.prog 89 #[vc, vd] w fun r w' => r = .returned (.int .i64 (cmp c d)) ∧ Below w.heap.size w w' := by
  have hop := fun w1 h1 => opp_any vd d k0 w1 h1 hdm hk0
  have hpl := fun vo w1 h0 h1 h2 => dplus_any vc vo c (opp d) k0 w1 h0 h1 h2 hcm hdm hk0 ec0 ec1 ed0 ed1
  have hsg := fun v w1 h1 => sign_any v (plus c (opp d)) w1 h1
  have hc' := hc
  have hd' := hd
  show Calls _ _ _ _ (fun r w' => r = .returned (.int .i64 (sign (plus c (opp d)))) ∧ Below w.heap.size w w')
  generalize plus c (opp d) = S at *
  generalize opp d = od at *
  generalize sign S = K at *
  obtain ⟨gc, mc, xc⟩ := c
  obtain ⟨gd, md, xd⟩ := d
  obtain ⟨sc, rfl, hsc⟩ := hc
  obtain ⟨sd, rfl, hsd⟩ := hd
  simp only at *
  obtain ⟨ac, nc, cc, rfl⟩ := hsc.shape
  obtain ⟨ad, nd, cd, rfl⟩ := hsd.shape
  have HT := Lib.hid hT
  have HC := Lib.hid hc'
  have HD := Lib.hid hd'
  have HOP := Lib.hid hop
  have HPL := Lib.hid hpl
  have HSG := Lib.hid hsg
  clear hT hsc hsd hcm hdm hc' hd' hop hpl hsg
  go_enter Tryd.func89, Tryd.ntmps89
  go_wp2_with fail
  have XC := Lib.hid (((Box.new w (.bool gc) (.slice ac nc cc) (.int .i64 xc) 52).alloc (.cells #[.bool gd, .slice ad nd cd, .int .i64 xd] 52)).drew)
  have B0 := Lib.hid (bl_alloc2 w (.cells #[.bool gc, .slice ac nc cc, .int .i64 xc] 52) (.cells #[.bool gd, .slice ad nd cd, .int .i64 xd] 52)).drew
  go_region_with (first
    | (go_at_call 94; refine (HOP.out _ (HD.out.below B0.out)).mono ?_; rintro r w1 ⟨v1, rfl, ⟨s1, rfl, hv1⟩, hb1⟩; obtain ⟨a1, n1, c1, rfl⟩ := hv1.shape; have HV1 := Lib.hid hv1; have B1 := Lib.hid (bl_thru B0.out (Nat.le_refl _) hb1); have X1 := Lib.hid (XC.out.below hb1); obtain ⟨q0, q1, q2, f0, f1, f2⟩ := X1.out.cells; clear hv1 hb1)
    | (go_at_call 93; refine (HPL.out _ _ (HT.out.below B1.out) (HC.out.below B1.out) ⟨_, rfl, HV1.out⟩).mono ?_; rintro r w2 ⟨v2, rfl, hv2, hb2⟩; have HV2 := Lib.hid hv2; have B2 := Lib.hid (bl_thru B1.out (Nat.le_refl _) hb2); clear hv2 hb2)
    | (go_at_call 119; refine (HSG.out _ _ HV2.out).mono ?_; rintro r w3 ⟨rfl, hb3⟩; have B3 := Lib.hid (bl_thru B2.out (Nat.le_refl _) hb3); clear hb3))
  all_goals
    go_wp2
    go_ret
    exact ⟨rfl, B3.out⟩
end Go.Proofs.YthoejmhpgabgdaaDoor
