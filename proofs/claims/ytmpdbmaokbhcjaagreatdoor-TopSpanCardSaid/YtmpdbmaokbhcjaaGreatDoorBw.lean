/-
  SOME OF MY TEXTS in one: Op Ex Ex3. Each says what it proves.
-/
import Derived.Test.YtmpdbmaokbhcjaaGreatDoorPl
import Derived.Test.YtmpdbmaokbhcjaaGreatDoorSl
import Derived.Test.YtmpdbmaokbhcjaaGreatDoorBe
import Derived.Test.YtmpdbmaokbhcjaaGreatDoorTi
import Derived.Test.YtmpdbmaokbhcjaaGreatDoorNa
set_option linter.unusedVariables false
set_option linter.unusedSimpArgs false
/-
  THE WALKS of dyad.Opp, dyad.Compare.
-/
namespace Go.Proofs.YtmpdbmaokbhcjaaGreatDoor
open Go.RowKit Nt Fm

set_option maxHeartbeats 2000000 in
theorem opp_any (vd : Value) (d : D) (k0 : Nat) (w : World) (hd : DV w vd d) (hdm : d.m < 2 ^ k0) (hk0 : k0 ≤ 16000000000000) :
    Calls Tryz.prog 243 #[vd] w (RetD w (opp d)) := by
  obtain ⟨g, m, x⟩ := d
  obtain ⟨s, rfl, hs⟩ := hd
  simp only at *
  obtain ⟨ao, n, c, rfl, l1, l2, lz⟩ := nv_len hs
  have hcl := fun w1 h1 => clone_any (.slice ao n c) m k0 w1 h1 hdm (by omega)
  have hcase : (g = true ∧ opp ⟨g, m, x⟩ = ⟨false, m, x⟩) ∨ (g = false ∧ n = 0 ∧ opp ⟨g, m, x⟩ = ⟨false, m, x⟩) ∨ (g = false ∧ decide (0 < n) = true ∧ opp ⟨g, m, x⟩ = ⟨true, m, x⟩) := by
    unfold opp
    cases g
    · right
      rcases lz with ⟨h1, h2⟩ | ⟨h1, h2⟩
      · left; exact ⟨rfl, h2, by simp [h1]⟩
      · right; exact ⟨rfl, by simp; omega, by simp [h1]⟩
    · left; exact ⟨rfl, by simp⟩
  generalize opp ⟨g, m, x⟩ = S at *
  have HCL := Lib.hid hcl
  have HS := Lib.hid hs
  clear hcl hs hdm lz
  rcases hcase with ⟨rfl, rfl⟩ | ⟨rfl, rfl, rfl⟩ | ⟨rfl, hn, rfl⟩
  all_goals
    go_enter Tryz.func243, Tryz.ntmps243
    go_wp2_with fail
    refine (HCL.out _ (HS.out.below (bl_alloc2 _ _ _))).mono ?_
    rintro r w1 ⟨v, rfl, hv, hb⟩
    obtain ⟨a1, n1, c1, rfl⟩ := hv.shape
    have X1 := Lib.hid (((Box.new w _ _ _ _).alloc _).below hb)
    have Z1 := Lib.hid ((Box.new2 w _ _ _ _ _).below hb)
    have B1 := Lib.hid (bl_thru (bl_alloc2 w _ _) (Nat.le_refl _) hb)
    have HV := Lib.hid hv
    obtain ⟨q0, q1, q2, f0, f1, f2⟩ := X1.out.cells
    obtain ⟨p0, p1, p2, g0, g1, g2⟩ := Z1.out.cells
    clear hv hb
    go_wp2
    first
      | (refine bodyPost_ret (v := .agg #[.bool false, .slice a1 n1 c1, .int .i64 x]) ?_ rfl ?_; focus (simp [results, Tryz.results243, go_sem, p0, p1, p2]; done))
      | (refine bodyPost_ret (v := .agg #[.bool true, .slice a1 n1 c1, .int .i64 x]) ?_ rfl ?_; focus (simp [results, Tryz.results243, go_sem, p0, p1, p2]; done))
    exact ⟨_, rfl, ⟨.slice a1 n1 c1, rfl, (HV.out.setBox X1.out (noLimb_bool _) (noLimb_slice _ _ _) (noLimb_i64 _) _ _).setD (Z1.out.set (by omega) _)⟩, bl_set3 (B1.out.setCell (Nat.le_refl _) _) (by omega) _ _ _⟩
theorem opp_m (d : D) : (opp d).m = d.m := rfl
theorem opp_e (d : D) : (opp d).e = d.e := rfl

end Go.Proofs.YtmpdbmaokbhcjaaGreatDoor

/-
  THE WALKS of dyad.Add, Sub, Mul, Cmp.
-/
namespace Go.Proofs.YtmpdbmaokbhcjaaGreatDoor
open Go.RowKit Nt Fm

theorem fit_k {d : D} (h : Fit d) : ∃ k, k ≤ 20000 ∧ d.m < 2 ^ k := ⟨12800, by omega, h.2.1⟩
theorem opE_ck {c1 c2 : Int} (S : D) (h : ck2 c1 c2 ≠ 0) : opE c1 c2 S = ck2 c1 c2 ∧ opR c1 c2 S = nz := by
  have e : opE c1 c2 S = ck2 c1 c2 := by
    unfold ck2 at h
    unfold opE ck2
    split
    · rename_i h1; rw [if_pos h1] at h; rw [if_neg h]
    · rfl
  refine ⟨e, ?_⟩
  unfold opR; rw [e, if_neg h]
theorem ck2_zero {c1 c2 : Int} (h : ck2 c1 c2 = 0) : c1 = 0 ∧ c2 = 0 := by
  unfold ck2 at h
  split at h
  · exact ⟨by assumption, h⟩
  · contradiction
theorem opE_zero (S : D) : opE 0 0 S = fitE S ∧ opR 0 0 S = if fitE S = 0 then S else nz := by
  have e : opE 0 0 S = fitE S := by unfold opE; rw [if_pos rfl, if_pos rfl]
  exact ⟨e, by unfold opR; rw [e]⟩
theorem opR_fit {c1 c2 : Int} {S : D} (h : S.Nf) : Fit (opR c1 c2 S) := by
  unfold opR
  split
  · rename_i h1
    unfold opE at h1
    split at h1
    · split at h1
      · exact fitE_fit h h1
      · contradiction
    · contradiction
  · exact Fit.nz
theorem plus_nf (c d : D) : (plus c d).Nf := ofInt_nf _ _
theorem times_nf (c d : D) : (times c d).Nf := ofInt_nf _ _
theorem opp_fit {d : D} (h : Fit d) : Fit (opp d) := by
  obtain ⟨h1, h2, h3, h4⟩ := h
  refine ⟨?_, h2, h3, h4⟩
  rcases h1 with h1 | h1
  · left; rw [h1]; rfl
  · right; exact h1

set_option maxRecDepth 100000 in
set_option maxHeartbeats 4000000 in
theorem add_any (v1 v2 : Value) (c1 c2 : Int) (d1 d2 : D) (w : World) (hT : Tab w) (h1 : RD w v1 c1 d1) (h2 : RD w v2 c2 d2) :
    Calls Tryz.prog 16 #[v1, v2] w (RetR w (opE c1 c2 (plus d1 d2)) (opR c1 c2 (plus d1 d2))) := by
  have hck := fun w' hb => check2_any v1 v2 c1 c2 d1 d2 w' (RD.below h1 (w' := w') hb) (RD.below h2 hb)
  have h1' := h1
  have h2' := h2
  obtain ⟨g1, a1, n1, p1, x1, rfl, -⟩ := h1
  obtain ⟨g2, a2, n2, p2, x2, rfl, -⟩ := h2
  have CK := Lib.hid hck
  have HT := Lib.hid hT
  clear hck hT
  by_cases hc : ck2 c1 c2 = 0
  · obtain ⟨rfl, rfl⟩ := ck2_zero hc
    rw [(opE_zero _).1, (opE_zero _).2]
    have e : ck2 0 0 = 0 := rfl
    rw [e] at CK
    obtain ⟨k1, hk1, hm1⟩ := fit_k h1'.fit
    obtain ⟨k2, hk2, hm2⟩ := fit_k h2'.fit
    have f1 := h1'.fit
    have f2 := h2'.fit
    obtain ⟨k, hk, hm1', hm2'⟩ : ∃ k, k ≤ 40000 ∧ d1.m < 2 ^ k ∧ d2.m < 2 ^ k := ⟨k1 + k2, by omega, lt_pow hm1 (by omega), lt_pow hm2 (by omega)⟩
    have q1 := f1.2.2
    have q2 := f2.2.2
    have hop := fun w' h0 hh1 hh2 => dplus_any (.agg #[.bool g1, .slice a1 n1 p1, .int .i64 x1]) (.agg #[.bool g2, .slice a2 n2 p2, .int .i64 x2]) d1 d2 k w' h0 hh1 hh2 hm1' hm2' (by omega) (by omega) (by omega) (by omega) (by omega)
    have hbd := fun v w' hh => bounded_any v (plus d1 d2) w' hh
    generalize plus d1 d2 = S at *
    generalize hR : (if fitE S = 0 then S else nz) = R at *
    generalize fitE S = E at *
    have D1 := Lib.hid h1'.dv
    have D2 := Lib.hid h2'.dv
    have HOP := Lib.hid hop
    have HBD := Lib.hid hbd
    clear hop hbd hm1 hm2 hm1' hm2' f1 f2 q1 q2 h1' h2' hc e hR
    go_enter Tryz.func16, Tryz.ntmps16
    go_wp2_with fail
    refine (CK.out _ (bl_alloc3 _ _ _ _)).mono ?_
    rintro r w1 ⟨rfl, hb⟩
    have B1 := Lib.hid (bl_thru (bl_alloc3 w _ _ _) (Nat.le_refl _) hb)
    have X1 := Lib.hid (((Box.new w _ _ _ _).alloc _ |>.alloc _).below hb)
    have Y1 := Lib.hid (((Box.new2 w _ _ _ _ _).alloc _).below hb)
    have Z1 := Lib.hid ((Box.new3 w _ _ _ _ _ _).below hb)
    obtain ⟨q0, q1, q2, f0, f1, f2⟩ := X1.out.cells
    obtain ⟨p0, p1', p2', g0, g1', g2'⟩ := Y1.out.cells
    clear hb
    go_wp2_with fail
    refine (HOP.out _ (HT.out.below B1.out) (D1.out.below B1.out) (D2.out.below B1.out)).mono ?_
    rintro r w2 ⟨v2, rfl, hv, hb⟩
    have B2 := Lib.hid (bl_thru B1.out (Nat.le_refl _) hb)
    have Z2 := Lib.hid (Z1.out.below hb)
    have HV2 := Lib.hid hv
    clear hv hb
    go_wp2_with fail
    refine (HBD.out _ _ HV2.out).mono ?_
    rintro r w3 ⟨a3, n3, c3, rfl, hv, hb⟩
    have B3 := Lib.hid (bl_thru B2.out (Nat.le_refl _) hb)
    have Z3 := Lib.hid (Z2.out.below hb)
    have HV3 := Lib.hid hv
    obtain ⟨s0, s1, s2, t0, t1, t2⟩ := Z3.out.cells
    clear hv hb
    go_wp2
    refine bodyPost_ret (v := .tuple #[.agg #[.bool R.neg, .slice a3 n3 c3, .int .i64 R.e], .int .i64 E]) (by simp [results, Tryz.results16, go_sem, s0, s1, s2]) rfl ?_
    exact ⟨a3, n3, c3, rfl, HV3.out.setD Z3.out, bl_set3 B3.out (by omega) _ _ _⟩
  · obtain ⟨e1, e2⟩ := opE_ck (plus d1 d2) hc
    rw [e1, e2]
    generalize ck2 c1 c2 = E at *
    have hE : (E != 0) = true := by rw [bne_iff_ne]; exact hc
    clear h1' h2' e1 e2 hc
    go_enter Tryz.func16, Tryz.ntmps16
    go_wp2_with fail
    refine (CK.out _ (bl_alloc3 _ _ _ _)).mono ?_
    rintro r w1 ⟨rfl, hb⟩
    have B1 := Lib.hid (bl_thru (bl_alloc3 w _ _ _) (Nat.le_refl _) hb)
    have Z1 := Lib.hid ((Box.new3 w _ _ _ _ _ _).below hb)
    obtain ⟨s0, s1, s2, t0, t1, t2⟩ := Z1.out.cells
    clear hb
    go_wp2
    refine bodyPost_ret (v := .tuple #[.agg #[.bool false, .slice none 0 0, .int .i64 0], .int .i64 E]) (by simp [results, Tryz.results16, go_sem, s0, s1, s2]) rfl ?_
    exact ⟨none, 0, 0, rfl, NV.nil _, bl_set3 B1.out (by omega) _ _ _⟩

set_option maxRecDepth 100000 in
set_option maxHeartbeats 4000000 in
theorem mul_any (v1 v2 : Value) (c1 c2 : Int) (d1 d2 : D) (w : World) (hT : Tab w) (h1 : RD w v1 c1 d1) (h2 : RD w v2 c2 d2) :
    Calls Tryz.prog 17 #[v1, v2] w (RetR w (opE c1 c2 (times d1 d2)) (opR c1 c2 (times d1 d2))) := by
  have hck := fun w' hb => check2_any v1 v2 c1 c2 d1 d2 w' (RD.below h1 (w' := w') hb) (RD.below h2 hb)
  have h1' := h1
  have h2' := h2
  obtain ⟨g1, a1, n1, p1, x1, rfl, -⟩ := h1
  obtain ⟨g2, a2, n2, p2, x2, rfl, -⟩ := h2
  have CK := Lib.hid hck
  have HT := Lib.hid hT
  clear hck hT
  by_cases hc : ck2 c1 c2 = 0
  · obtain ⟨rfl, rfl⟩ := ck2_zero hc
    rw [(opE_zero _).1, (opE_zero _).2]
    have e : ck2 0 0 = 0 := rfl
    rw [e] at CK
    obtain ⟨k1, hk1, hm1⟩ := fit_k h1'.fit
    obtain ⟨k2, hk2, hm2⟩ := fit_k h2'.fit
    have f1 := h1'.fit
    have f2 := h2'.fit
    obtain ⟨k, hk, hm1', hm2'⟩ : ∃ k, k ≤ 40000 ∧ d1.m < 2 ^ k ∧ d2.m < 2 ^ k := ⟨k1 + k2, by omega, lt_pow hm1 (by omega), lt_pow hm2 (by omega)⟩
    have q1 := f1.2.2
    have q2 := f2.2.2
    have hop := fun w' h0 hh1 hh2 => dtimes_any (.agg #[.bool g1, .slice a1 n1 p1, .int .i64 x1]) (.agg #[.bool g2, .slice a2 n2 p2, .int .i64 x2]) d1 d2 k w' h0 hh1 hh2 hm1' hm2' (by omega) (by omega) (by omega) (by omega) (by omega)
    have hbd := fun v w' hh => bounded_any v (times d1 d2) w' hh
    generalize times d1 d2 = S at *
    generalize hR : (if fitE S = 0 then S else nz) = R at *
    generalize fitE S = E at *
    have D1 := Lib.hid h1'.dv
    have D2 := Lib.hid h2'.dv
    have HOP := Lib.hid hop
    have HBD := Lib.hid hbd
    clear hop hbd hm1 hm2 hm1' hm2' f1 f2 q1 q2 h1' h2' hc e hR
    go_enter Tryz.func17, Tryz.ntmps17
    go_wp2_with fail
    refine (CK.out _ (bl_alloc3 _ _ _ _)).mono ?_
    rintro r w1 ⟨rfl, hb⟩
    have B1 := Lib.hid (bl_thru (bl_alloc3 w _ _ _) (Nat.le_refl _) hb)
    have X1 := Lib.hid (((Box.new w _ _ _ _).alloc _ |>.alloc _).below hb)
    have Y1 := Lib.hid (((Box.new2 w _ _ _ _ _).alloc _).below hb)
    have Z1 := Lib.hid ((Box.new3 w _ _ _ _ _ _).below hb)
    obtain ⟨q0, q1, q2, f0, f1, f2⟩ := X1.out.cells
    obtain ⟨p0, p1', p2', g0, g1', g2'⟩ := Y1.out.cells
    clear hb
    go_wp2_with fail
    refine (HOP.out _ (HT.out.below B1.out) (D1.out.below B1.out) (D2.out.below B1.out)).mono ?_
    rintro r w2 ⟨v2, rfl, hv, hb⟩
    have B2 := Lib.hid (bl_thru B1.out (Nat.le_refl _) hb)
    have Z2 := Lib.hid (Z1.out.below hb)
    have HV2 := Lib.hid hv
    clear hv hb
    go_wp2_with fail
    refine (HBD.out _ _ HV2.out).mono ?_
    rintro r w3 ⟨a3, n3, c3, rfl, hv, hb⟩
    have B3 := Lib.hid (bl_thru B2.out (Nat.le_refl _) hb)
    have Z3 := Lib.hid (Z2.out.below hb)
    have HV3 := Lib.hid hv
    obtain ⟨s0, s1, s2, t0, t1, t2⟩ := Z3.out.cells
    clear hv hb
    go_wp2
    refine bodyPost_ret (v := .tuple #[.agg #[.bool R.neg, .slice a3 n3 c3, .int .i64 R.e], .int .i64 E]) (by simp [results, Tryz.results17, go_sem, s0, s1, s2]) rfl ?_
    exact ⟨a3, n3, c3, rfl, HV3.out.setD Z3.out, bl_set3 B3.out (by omega) _ _ _⟩
  · obtain ⟨e1, e2⟩ := opE_ck (times d1 d2) hc
    rw [e1, e2]
    generalize ck2 c1 c2 = E at *
    have hE : (E != 0) = true := by rw [bne_iff_ne]; exact hc
    clear h1' h2' e1 e2 hc
    go_enter Tryz.func17, Tryz.ntmps17
    go_wp2_with fail
    refine (CK.out _ (bl_alloc3 _ _ _ _)).mono ?_
    rintro r w1 ⟨rfl, hb⟩
    have B1 := Lib.hid (bl_thru (bl_alloc3 w _ _ _) (Nat.le_refl _) hb)
    have Z1 := Lib.hid ((Box.new3 w _ _ _ _ _ _).below hb)
    obtain ⟨s0, s1, s2, t0, t1, t2⟩ := Z1.out.cells
    clear hb
    go_wp2
    refine bodyPost_ret (v := .tuple #[.agg #[.bool false, .slice none 0 0, .int .i64 0], .int .i64 E]) (by simp [results, Tryz.results17, go_sem, s0, s1, s2]) rfl ?_
    exact ⟨none, 0, 0, rfl, NV.nil _, bl_set3 B1.out (by omega) _ _ _⟩

end Go.Proofs.YtmpdbmaokbhcjaaGreatDoor

/-
  THE WALKS of dyad.Cmp, Same, Shift, Make.
-/
namespace Go.Proofs.YtmpdbmaokbhcjaaGreatDoor
open Go.RowKit Nt Fm

def cmE (c1 c2 : Int) (d1 d2 : D) : Int := if ck2 c1 c2 = 0 then cmp d1 d2 else 0

/-- are all three fields the same? -/
def sameB (c d : D) : Bool := (c.neg == d.neg) && (c.e == d.e) && decide (c.m = d.m)
theorem sameB_iff {c d : D} : sameB c d = true ↔ c = d := by
  cases c; cases d; simp [sameB, and_assoc]
  exact fun _ => And.comm
theorem sameB_refl (d : D) : sameB d d = true := sameB_iff.2 rfl

def shE (c n : Int) (S : D) : Int := if c = 0 then (if n < -20000 ∨ 20000 < n then 1 else fitE S) else c
def shR (c n : Int) (S : D) : D := if shE c n S = 0 then S else nz
end Go.Proofs.YtmpdbmaokbhcjaaGreatDoor
