/-
  THE WALK of dyad.Sub.
-/
import Derived.Test.YthoejmhpgabgdaaDoorBw
import Derived.Deep.RegionWith
set_option linter.unusedVariables false
set_option linter.unusedSimpArgs false
namespace Go.Proofs.YthoejmhpgabgdaaDoor
open Go.RowKit Nt Fm

set_option maxRecDepth 100000 in
set_option maxHeartbeats 4000000 in
theorem sub_any (v1 v2 : Value) (c1 c2 : Int) (d1 d2 : D) (w : World) (hT : Tab w) (h1 : RD w v1 c1 d1) (h2 : RD w v2 c2 d2) :
    Calls Tryd.prog 45 #[v1, v2] w (RetR w (opE c1 c2 (plus d1 (opp d2))) (opR c1 c2 (plus d1 (opp d2)))) := by
  have hck := fun w' hb => check2_any v1 v2 c1 c2 d1 d2 w' (RD.below h1 (w' := w') hb) (RD.below h2 hb)
  have h1' := h1
  have h2' := h2
  obtain ⟨g1, a1, n1, p1, x1, rfl, -⟩ := h1
  obtain ⟨g2, a2, n2, p2, x2, rfl, -⟩ := h2
  have CK := Lib.hid hck
  have HT := Lib.hid hT
  clear hck hT
  by_cases hc : ck2 c1 c2 = 0
  · obtain ⟨rfl, rfl⟩ := ck2_zero hc
    rw [(opE_zero _).1, (opE_zero _).2]
    have e : ck2 0 0 = 0 := rfl
    rw [e] at CK
    obtain ⟨k1, hk1, hm1⟩ := fit_k h1'.fit
    obtain ⟨k2, hk2, hm2⟩ := fit_k h2'.fit
    have f1 := h1'.fit
    have f2 := h2'.fit
    obtain ⟨k, hk, hm1', hm2'⟩ : ∃ k, k ≤ 40000 ∧ d1.m < 2 ^ k ∧ d2.m < 2 ^ k := ⟨k1 + k2, by omega, lt_pow hm1 (by omega), lt_pow hm2 (by omega)⟩
    have q1 := f1.2.2
    have q2 := f2.2.2
    have hopp := fun w' hh2 => opp_any (.agg #[.bool g2, .slice a2 n2 p2, .int .i64 x2]) d2 k w' hh2 hm2' (by omega)
    have hop := fun vo w' h0 hh1 hh2 => dplus_any (.agg #[.bool g1, .slice a1 n1 p1, .int .i64 x1]) vo d1 (opp d2) k w' h0 hh1 hh2 hm1' hm2' (by omega) (by omega) (by omega) (by rw [opp_e]; omega) (by rw [opp_e]; omega)
    have hbd := fun v w' hh => bounded_any v (plus d1 (opp d2)) w' hh
    generalize plus d1 (opp d2) = S at *
    generalize opp d2 = od at *
    have HOPP := Lib.hid hopp
    clear hopp
    generalize hR : (if fitE S = 0 then S else nz) = R at *
    generalize fitE S = E at *
    have D1 := Lib.hid h1'.dv
    have D2 := Lib.hid h2'.dv
    have HOP := Lib.hid hop
    have HBD := Lib.hid hbd
    clear hop hbd hm1 hm2 hm1' hm2' f1 f2 q1 q2 h1' h2' hc e hR
    go_enter Tryd.func45, Tryd.ntmps45
    go_wp2_with fail
    refine (CK.out _ (bl_alloc3 _ _ _ _)).mono ?_
    rintro r w1 ⟨rfl, hb⟩
    have B1 := Lib.hid (bl_thru (bl_alloc3 w _ _ _) (Nat.le_refl _) hb)
    have X1 := Lib.hid (((Box.new w _ _ _ _).alloc _ |>.alloc _).below hb)
    have Y1 := Lib.hid (((Box.new2 w _ _ _ _ _).alloc _).below hb)
    have Z1 := Lib.hid ((Box.new3 w _ _ _ _ _ _).below hb)
    obtain ⟨q0, q1, q2, f0, f1, f2⟩ := X1.out.cells
    obtain ⟨p0, p1', p2', g0, g1', g2'⟩ := Y1.out.cells
    clear hb
    have B1d := Lib.hid B1.out.drew
    go_wp2
    go_region_with (first
      | (go_at_call 94; refine (HOPP.out _ (D2.out.below B1d.out)).mono ?_; rintro r w4 ⟨v4, rfl, ⟨s4, rfl, hv⟩, hb⟩; obtain ⟨a4, n4, c4, rfl⟩ := hv.shape; have HV4 := Lib.hid hv; have B4 := Lib.hid (bl_thru B1d.out (Nat.le_refl _) hb); have X4 := Lib.hid (X1.out.drew.below hb); have Z4 := Lib.hid (Z1.out.drew.below hb); obtain ⟨q0, q1, q2, f0, f1, f2⟩ := X4.out.cells; clear hv hb)
      | (go_at_call 93; refine (HOP.out _ _ (HT.out.below B4.out) (D1.out.below B4.out) ⟨_, rfl, HV4.out⟩).mono ?_; rintro r w2 ⟨v2, rfl, hv, hb⟩; have B2 := Lib.hid (bl_thru B4.out (Nat.le_refl _) hb); have Z2 := Lib.hid (Z4.out.below hb); have HV2 := Lib.hid hv; clear hv hb)
      | (go_at_call 87; refine (HBD.out _ _ HV2.out).mono ?_; rintro r w3 ⟨a3, n3, c3, rfl, hv, hb⟩; have B3 := Lib.hid (bl_thru B2.out (Nat.le_refl _) hb); have Z3 := Lib.hid (Z2.out.below hb); have HV3 := Lib.hid hv; obtain ⟨s0, s1, s2, t0, t1, t2⟩ := Z3.out.cells; clear hv hb))
    all_goals
      go_wp2
      refine bodyPost_ret (v := .tuple #[.agg #[.bool R.neg, .slice a3 n3 c3, .int .i64 R.e], .int .i64 E]) (by simp [results, Tryd.results45, go_sem, s0, s1, s2]) rfl ?_
      exact ⟨a3, n3, c3, rfl, HV3.out.setD Z3.out, bl_set3 B3.out (by omega) _ _ _⟩
  · obtain ⟨e1, e2⟩ := opE_ck (plus d1 (opp d2)) hc
    rw [e1, e2]
    generalize ck2 c1 c2 = E at *
    have hE : (E != 0) = true := by rw [bne_iff_ne]; exact hc
    clear h1' h2' e1 e2 hc
    go_enter Tryd.func45, Tryd.ntmps45
    go_wp2_with fail
    refine (CK.out _ (bl_alloc3 _ _ _ _)).mono ?_
    rintro r w1 ⟨rfl, hb⟩
    have B1 := Lib.hid (bl_thru (bl_alloc3 w _ _ _) (Nat.le_refl _) hb)
    have Z1 := Lib.hid ((Box.new3 w _ _ _ _ _ _).below hb)
    obtain ⟨s0, s1, s2, t0, t1, t2⟩ := Z1.out.cells
    clear hb
    go_wp2
    refine bodyPost_ret (v := .tuple #[.agg #[.bool false, .slice none 0 0, .int .i64 0], .int .i64 E]) (by simp [results, Tryd.results45, go_sem, s0, s1, s2]) rfl ?_
    exact ⟨none, 0, 0, rfl, NV.nil _, bl_set3 B1.out (by omega) _ _ _⟩

end Go.Proofs.YthoejmhpgabgdaaDoor
