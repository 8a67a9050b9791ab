/-
  THE WALKS of expo.one, huge, tiny, top, number.
-/
import Derived.Test.YtmpdbmaokbhcjaaDoorUab
import Derived.BigQuiet
import Derived.Deep.QuietTactic
set_option linter.unusedVariables false
set_option linter.unusedSimpArgs false
namespace Go.Proofs.YtmpdbmaokbhcjaaDoor
open Go.RowKit Nt Fm

set_option maxHeartbeats 4000000 in
theorem eone_any (w : World) (hT : Tab w) : Calls Tryd.prog 51 #[] w (RetD w (norm false 1 0)) := by
  have O1 := Lib.hid (fun w' => natOf_any 1 (by omega) (by omega) w')
  have N1 := Lib.hid (fun va w' ht ha => dnorm_any false va 1 1 0 w' ht ha (by decide) (by omega) (by omega) (by omega))
  have Z0 := Lib.hid (GD.nil w)
  have B0 := Lib.hid ((Below.refl w.heap.size w).alloc (Nat.le_refl _) (.cells #[.bool false, .slice none 0 0, .int .i64 0] 24))
  obtain ⟨R, hR⟩ : ∃ R, R = norm false 1 0 := ⟨_, rfl⟩
  rw [← hR] at N1 ⊢
  have HT := Lib.hid hT
  clear hR hT
  go_enter Tryd.func51, Tryd.ntmps51
  go_wp2_with fail
  refine (O1.out _).mono ?_
  rintro r w1 ⟨v1, rfl, hv1, hb1⟩
  have B1 := Lib.hid (bl_thru B0.out (Nat.le_refl _) hb1)
  have Z1 := Lib.hid (Z0.out.below hb1)
  have V1 := Lib.hid hv1
  clear hv1 hb1 B0 Z0
  go_wp2_with fail
  refine (N1.out _ _ (HT.out.below B1.out) V1.out).mono ?_
  rintro r w2 ⟨v2, rfl, hu2, hb2⟩
  obtain ⟨e1, f1, g1, rfl, hv2⟩ := hu2.parts
  have B2 := Lib.hid (bl_thru B1.out (Nat.le_refl _) hb2)
  have Z2 := Lib.hid (Z1.out.below hb2)
  have V2 := Lib.hid hv2
  clear hu2 hv2 hb2 B1 Z1 V1
  obtain ⟨_, _, _, z0, z1, z2, z3, z4, z5⟩ := Z2.out.cells
  go_wp2_with fail
  clear z0 z1 z2 z3 z4 z5
  obtain ⟨r1, r2, r3, hr, hrn⟩ := Z2.out.put (e := R) V2.out
  have HR := Lib.hid hrn
  obtain ⟨s0, s1, s2, -, -, -⟩ := hr.cells
  clear hr hrn
  refine bodyPost_ret (v := .agg #[.bool R.neg, .slice r1 r2 r3, .int .i64 R.e]) (by simp [results, Tryd.results51, go_sem, s0, s1, s2]) rfl ?_
  exact ⟨_, rfl, ⟨_, rfl, HR.out⟩, bl_set3 B2.out (Nat.le_refl _) _ _ _⟩
set_option maxHeartbeats 4000000 in
theorem ehuge_any (neg : Bool) (w : World) : Calls Tryd.prog 54 #[.bool neg] w (RetD w ⟨neg, 1, 2000⟩) := by
  have O1 := Lib.hid (fun w' => natOf_any 1 (by omega) (by omega) w')
  have Z0 := Lib.hid (GD.nil w)
  have B0 := Lib.hid ((Below.refl w.heap.size w).alloc (Nat.le_refl _) (.cells #[.bool false, .slice none 0 0, .int .i64 0] 24))
  obtain ⟨R, hR⟩ : ∃ R : D, R = ⟨neg, 1, 2000⟩ := ⟨_, rfl⟩
  have h1 : R.neg = neg := by rw [hR]
  have h2 : R.m = 1 := by rw [hR]
  have h3 : R.e = 2000 := by rw [hR]
  rw [← hR]
  clear hR
  have HR := Lib.hid (show (R.neg = neg ∧ R.m = 1 ∧ R.e = 2000) ∧ True from ⟨⟨h1, h2, h3⟩, trivial⟩)
  clear h1 h2 h3
  go_enter Tryd.func54, Tryd.ntmps54
  go_wp2_with fail
  refine (O1.out _).mono ?_
  rintro r w1 ⟨v1, rfl, hv1, hb1⟩
  have B1 := Lib.hid (bl_thru B0.out (Nat.le_refl _) hb1)
  have Z1 := Lib.hid (Z0.out.below hb1)
  obtain ⟨e1, f1, g1, rfl⟩ := hv1.shape
  have V1 := Lib.hid (show NV w1 (.slice e1 f1 g1) R.m by rw [HR.out.1.2.1]; exact hv1)
  clear hv1 hb1 B0 Z0
  obtain ⟨_, _, _, z0, z1, z2, z3, z4, z5⟩ := Z1.out.cells
  go_wp2_with fail
  clear z0 z1 z2 z3 z4 z5
  obtain ⟨r1, r2, r3, hr, hrn⟩ := Z1.out.put (e := R) V1.out
  rw [HR.out.1.1, HR.out.1.2.2] at hr hrn
  have HN := Lib.hid hrn
  obtain ⟨s0, s1, s2, -, -, -⟩ := hr.cells
  clear hr hrn
  refine bodyPost_ret (v := .agg #[.bool neg, .slice r1 r2 r3, .int .i64 2000]) (by simp [results, Tryd.results54, go_sem, s0, s1, s2]) rfl ?_
  refine ⟨_, rfl, ⟨_, by rw [HR.out.1.1, HR.out.1.2.2], HN.out⟩, bl_set3 B1.out (Nat.le_refl _) _ _ _⟩
set_option maxHeartbeats 4000000 in
theorem etiny_any (w : World) : Calls Tryd.prog 53 #[] w (RetD w ⟨false, 1, -2000⟩) := by
  have O1 := Lib.hid (fun w' => natOf_any 1 (by omega) (by omega) w')
  have Z0 := Lib.hid (GD.nil w)
  have B0 := Lib.hid ((Below.refl w.heap.size w).alloc (Nat.le_refl _) (.cells #[.bool false, .slice none 0 0, .int .i64 0] 24))
  obtain ⟨R, hR⟩ : ∃ R : D, R = ⟨false, 1, -2000⟩ := ⟨_, rfl⟩
  have h1 : R.neg = false := by rw [hR]
  have h2 : R.m = 1 := by rw [hR]
  have h3 : R.e = -2000 := by rw [hR]
  rw [← hR]
  clear hR
  have HR := Lib.hid (show (R.neg = false ∧ R.m = 1 ∧ R.e = -2000) ∧ True from ⟨⟨h1, h2, h3⟩, trivial⟩)
  clear h1 h2 h3
  go_enter Tryd.func53, Tryd.ntmps53
  go_wp2_with fail
  refine (O1.out _).mono ?_
  rintro r w1 ⟨v1, rfl, hv1, hb1⟩
  have B1 := Lib.hid (bl_thru B0.out (Nat.le_refl _) hb1)
  have Z1 := Lib.hid (Z0.out.below hb1)
  obtain ⟨e1, f1, g1, rfl⟩ := hv1.shape
  have V1 := Lib.hid (show NV w1 (.slice e1 f1 g1) R.m by rw [HR.out.1.2.1]; exact hv1)
  clear hv1 hb1 B0 Z0
  obtain ⟨_, _, _, z0, z1, z2, z3, z4, z5⟩ := Z1.out.cells
  go_wp2_with fail
  clear z0 z1 z2 z3 z4 z5
  obtain ⟨r1, r2, r3, hr, hrn⟩ := Z1.out.put (e := R) V1.out
  rw [HR.out.1.1, HR.out.1.2.2] at hr hrn
  have HN := Lib.hid hrn
  obtain ⟨s0, s1, s2, -, -, -⟩ := hr.cells
  clear hr hrn
  refine bodyPost_ret (v := .agg #[.bool false, .slice r1 r2 r3, .int .i64 (-2000)]) (by simp [results, Tryd.results53, go_sem, s0, s1, s2]) rfl ?_
  refine ⟨_, rfl, ⟨_, by rw [HR.out.1.1, HR.out.1.2.2], HN.out⟩, bl_set3 B1.out (Nat.le_refl _) _ _ _⟩
/-- top -/
def topD (d : D) : Int := (blen d.m : Int) + d.e - 1
set_option maxHeartbeats 4000000 in
theorem etop_any (v : Value) (d : D) (w : World) (hd : DV w v d) (hm : d.m < 2 ^ 1280) (e0 : -20000 ≤ d.e) (e1 : d.e ≤ 20000) :
    Calls Tryd.prog 48 #[v] w fun r w' => r = .returned (.int .i64 (topD d)) ∧ Below w.heap.size w w' := by
  obtain ⟨a1, n1, c1, rfl, hv⟩ := hd.parts
  have LN := Lib.hid (fun w' hv => natLen_any (.slice a1 n1 c1) d.m 1280 w' hv hm (by omega))
  have hbl : blen d.m ≤ 1280 := blen_le2 hm
  have hL : topD d = (blen d.m : Int) + d.e - 1 := rfl
  rw [hL]
  clear hL hm
  generalize blen d.m = L at *
  have HV := Lib.hid hv
  have X0 := Lib.hid (Box.new w (.bool d.neg) (.slice a1 n1 c1) (.int .i64 d.e) 24)
  have B0 := Lib.hid ((Below.refl w.heap.size w).alloc (Nat.le_refl _) (.cells #[.bool d.neg, .slice a1 n1 c1, .int .i64 d.e] 24))
  clear hv
  go_enter Tryd.func48, Tryd.ntmps48
  go_wp2
  go_quiet ((go_at_call 77; exact quiet_first (LN.out _ (NV.drewN (NV.alloc HV.out _) _))))
  go_wp2
  go_ret
  exact ⟨rfl, below_to_drewN B0.out⟩
set_option maxHeartbeats 4000000 in
theorem xnum_any (v : Value) (d : D) (k0 : Nat) (mode : Int) (w : World) (hd : DV w v d) (hm : d.m < 2 ^ k0) (hk0 : k0 ≤ 16000000000000) (e0 : -16000000000000 ≤ d.e) (e1 : d.e ≤ 16000000000000) (hz : d.m = 0 → d.e ≤ 1000) (h0 : 0 ≤ mode) (h1 : mode ≤ 4) :
    Calls Tryd.prog 49 #[v, .int .i64 mode] w fun e w' => e = .returned (.tuple #[.int .u64 (numR d mode), .bool (numC d), .int .i64 0]) ∧ Below w.heap.size w w' := by
  obtain ⟨a1, n1, c1, rfl, hv⟩ := hd.parts
  have NU := Lib.hid (fun v w' hd => number_any v d k0 mode w' hd hm hk0 e0 e1 hz h0 h1)
  have HV := Lib.hid hv
  generalize numR d mode = A at *
  generalize numC d = C at *
  clear hv hm hz
  go_enter Tryd.func49, Tryd.ntmps49
  go_wp2_with fail
  refine (NU.out _ _ ⟨_, rfl, HV.out.alloc _⟩).mono ?_
  rintro r w1 ⟨rfl, hb1⟩
  have B1 := Lib.hid (bl_thru ((Below.refl w.heap.size w).alloc (Nat.le_refl _) (.cells #[.bool d.neg, .slice a1 n1 c1, .int .i64 d.e] 24)) (Nat.le_refl _) hb1)
  clear hb1
  go_wp2
  go_ret3
  exact ⟨rfl, B1.out⟩
end Go.Proofs.YtmpdbmaokbhcjaaDoor
