/-
  THE WALKS of dyadOf, dyadLives.
-/
import Derived.Test.YtmpdbmaokbhcjaaDoorBw
import Derived.Test.YtmpdbmaokbhcjaaDoorBh
import Derived.Test.YtmpdbmaokbhcjaaDoorBa
import Derived.Deep.RegionWith
set_option linter.unusedVariables false
set_option linter.unusedSimpArgs false
namespace Go.Proofs.YtmpdbmaokbhcjaaDoor
open Go.RowKit Nt Fm Fl

set_option maxHeartbeats 2000000 in
theorem dyadOf_any (x : Int) (h0 : 0 ≤ x) (h1 : x ≤ 18446744073709551615) (w : World) (hT : Tab w) :
    Calls Tryd.prog 40 #[.int .u64 x] w (RetD w (ofD x)) := by
  have hof := fun w' hT' => of_any x h0 h1 w' hT'
  generalize ofD x = d at *
  generalize ofE x = E at *
  have HOF := Lib.hid hof
  have HT := Lib.hid hT
  clear hof hT
  go_enter Tryd.func40, Tryd.ntmps40
  go_wp2_with fail
  refine (HOF.out _ (HT.out.alloc _)).mono ?_
  rintro r w1 ⟨v, rfl, ⟨s, rfl, hv⟩, hb⟩
  obtain ⟨ao, n, c, rfl⟩ := hv.shape
  have B1 := Lib.hid (bl_thru ((Below.refl w.heap.size w).alloc (Nat.le_refl _) _) (Nat.le_refl _) hb)
  have Z1 := Lib.hid ((Box.new w _ _ _ _).below hb)
  have HV := Lib.hid hv
  have hlt := B1.out.size
  obtain ⟨s0, s1, s2, t0, t1, t2⟩ := (Z1.out.alloc (.cells #[.bool d.neg, .slice ao n c, .int .i64 d.e] 24)).cells
  clear hv hb
  go_wp2
  refine bodyPost_ret (v := .agg #[.bool d.neg, .slice ao n c, .int .i64 d.e]) (by simp [results, Tryd.results40, go_sem, s0, s1, s2]) rfl ?_
  exact ⟨_, rfl, ⟨.slice ao n c, rfl, (HV.out.alloc _).setD (Z1.out.alloc _)⟩, bl_set3 (B1.out.alloc B1.out.size _) (Nat.le_refl _) _ _ _⟩

theorem one_nv (w : World) (x : Nat) (T : TypeId) (h0 : x ≠ 0) (h1 : x < 4294967296) : NV (w.alloc (.cells #[.int .u32 (x : Int)] T)) (.slice (some ⟨w.heap.size, 0, none⟩) 1 1) x := by
  refine ⟨[x], ⟨Lims.cons h1 Lims.nil, by simpa using h0⟩, by simp [val], Lims.cons h1 Lims.nil, some ⟨w.heap.size, 0, none⟩, 1, rfl, Nat.le_refl 1, by show 1 ≤ maxLen; unfold maxLen; omega, Or.inr ⟨w.heap.size, 0, rfl, by simp, ?_⟩⟩
  intro i hi
  match i, hi with
  | 0, _ => simp [go_sem]
theorem one_nv2 (w : World) (o : Obj) (x : Nat) (T : TypeId) (h0 : x ≠ 0) (h1 : x < 4294967296) : NV ((w.alloc o).alloc (.cells #[.int .u32 (x : Int)] T)) (.slice (some ⟨w.heap.size + 1, 0, none⟩) 1 1) x := by
  have h := one_nv (w.alloc o) x T h0 h1
  rw [size_alloc] at h; exact h
def dA : D := ⟨false, 3, -1⟩
def dB : D := ⟨false, 3, 0⟩
def dC : D := ⟨true, 3, -1⟩
theorem lives_facts : opE 0 0 (plus dA dA) = 0 ∧ opR 0 0 (plus dA dA) = dB ∧ opE 0 0 (times dA (ofD 13830554455654793216)) = 0 ∧ opR 0 0 (times dA (ofD 13830554455654793216)) = dC ∧ cmE 0 0 dC dB = -1 := by
  have p : plus dA dA = dB := by kernel_rfl
  have q : times dA (ofD 13830554455654793216) = dC := by kernel_rfl
  have r : cmp dC dB = -1 := by kernel_rfl
  have fB : Fit dB := ⟨Or.inr (by decide), @lt_pow 3 2 12800 (by decide) (by omega), by decide, by decide⟩
  have fC : Fit dC := ⟨Or.inr (by decide), @lt_pow 3 2 12800 (by decide) (by omega), by decide, by decide⟩
  rw [p, q]
  refine ⟨?_, ?_, ?_, ?_, ?_⟩
  · rw [(opE_zero _).1]; exact fitE_of fB
  · rw [(opE_zero _).2, if_pos (fitE_of fB)]
  · rw [(opE_zero _).1]; exact fitE_of fC
  · rw [(opE_zero _).2, if_pos (fitE_of fC)]
  · unfold cmE; rw [if_pos (by rfl)]; exact r
theorem fitA : Fit dA := ⟨Or.inr (by decide), @lt_pow 3 2 12800 (by decide) (by omega), by decide, by decide⟩
theorem fitB : Fit dB := ⟨Or.inr (by decide), @lt_pow 3 2 12800 (by decide) (by omega), by decide, by decide⟩
theorem fitC : Fit dC := ⟨Or.inr (by decide), @lt_pow 3 2 12800 (by decide) (by omega), by decide, by decide⟩
theorem valD_fit (x : Int) (h0 : 0 ≤ x) (h1 : x ≤ 18446744073709551615) : Fit (ofD x) := by
  unfold ofD
  split
  · obtain ⟨f1, f2, f3, f4, f5⟩ := valD_facts x h0 h1
    exact ⟨f1, @lt_pow _ 53 12800 f2 (by omega), by omega, by omega⟩
  · exact Fit.nz

set_option maxRecDepth 100000 in
set_option maxHeartbeats 8000000 in
theorem dyadLives_any (w : World) (hT : Tab w) :
    Calls Tryd.prog 12 #[] w fun e w' => e = .returned (.bool true) ∧ Below w.heap.size w w' := by
  obtain ⟨e1, e2, e3, e4, e5⟩ := lives_facts
  have hadd := fun v w' h0 h1 => add_any v v 0 0 dA dA w' h0 h1 h1
  have hmul := fun v u w' h0 h1 h2 => mul_any v u 0 0 dA (ofD 13830554455654793216) w' h0 h1 h2
  have hcmp := fun v u w' h0 h1 h2 => cmp_any v u 0 0 dC dB w' h0 h1 h2
  have hof := fun w' h => dyadOf_any 13830554455654793216 (by decide) (by decide) w' h
  have hs1 := fun v u w' h1 h2 => same_any v u dB dB w' h1 h2
  have hs2 := fun v u w' h1 h2 => same_any v u dC dC w' h1 h2
  rw [sameB_refl] at hs1 hs2
  rw [e1, e2] at hadd
  rw [e3, e4] at hmul
  rw [e5] at hcmp
  have hfit := valD_fit 13830554455654793216 (by decide) (by decide)
  generalize ofD 13830554455654793216 = o at *
  have HADD := Lib.hid hadd
  have HMUL := Lib.hid hmul
  have HCMP := Lib.hid hcmp
  have HOF := Lib.hid hof
  have HS1 := Lib.hid hs1
  have HS2 := Lib.hid hs2
  have HT := Lib.hid hT
  have HFIT := Lib.hid hfit
  have HN := Lib.hid (fun (w : World) T => one_nv w 3 T (by decide) (by decide))
  have k3 := ok3_mk
  clear hadd hmul hcmp hof hs1 hs2 hT hfit e1 e2 e3 e4 e5
  go_enter Tryd.func12, Tryd.ntmps12
  go_wp2_with fail
  refine (HADD.out _ _ ((HT.out.alloc _).alloc _) (rd_of (d := dA) ((HN.out w _).alloc _) fitA)).mono ?_
  rintro r w1 ⟨a1, n1, c1, rfl, hv, hb⟩
  have B1 := Lib.hid (bl_thru (bl_alloc2 w _ _) (Nat.le_refl _) hb)
  have X1 := Lib.hid ((Box.new2 w _ _ _ _ _).below hb)
  have VX1 := Lib.hid (((HN.out w _).alloc _).below hb)
  have VY1 := Lib.hid hv
  obtain ⟨q0, q1, q2, f0, f1, f2⟩ := X1.out.cells
  clear hv hb
  go_wp2
  have R1 := Lib.hid ((Below.refl w1.heap.size w1).alloc (Nat.le_refl _) (.cells #[.bool dB.neg, .slice a1 n1 c1, .int .i64 dB.e] 24))
  obtain ⟨V, hV⟩ : ∃ V, V = w1.alloc (.cells #[.bool dB.neg, .slice a1 n1 c1, .int .i64 dB.e] 24) := ⟨_, rfl⟩
  have BV := Lib.hid (B1.out.alloc B1.out.size (.cells #[.bool dB.neg, .slice a1 n1 c1, .int .i64 dB.e] 24))
  have XV := Lib.hid (X1.out.alloc (.cells #[.bool dB.neg, .slice a1 n1 c1, .int .i64 dB.e] 24))
  have YV := Lib.hid (Box.new w1 (.bool dB.neg) (.slice a1 n1 c1) (.int .i64 dB.e) 24)
  have VXV := Lib.hid (VX1.out.alloc (.cells #[.bool dB.neg, .slice a1 n1 c1, .int .i64 dB.e] 24))
  have VYV := Lib.hid (VY1.out.alloc (.cells #[.bool dB.neg, .slice a1 n1 c1, .int .i64 dB.e] 24))
  rw [← hV] at BV XV YV VXV VYV ⊢
  have hY := YV.out.lt
  have hXlt := XV.out.lt
  clear hV R1
  obtain ⟨q0, q1, q2, f0, f1, f2⟩ := XV.out.cells
  go_region_with (first
    | (go_at_call 40; refine (HOF.out _ (HT.out.below (by have := BV.out; go_grown))).mono ?_; rintro r w2 ⟨v2, rfl, ⟨s2, rfl, hv⟩, hb⟩; obtain ⟨a2, n2, c2, rfl⟩ := hv.shape; have VO2 := Lib.hid hv; have R2 := Lib.hid (show Below V.heap.size V w2 from bl_thru (by go_grown) (Nat.le_refl _) hb)
       try have Z2 := Lib.hid (Box.below (Box.drew (Box.new V (.bool false) (.slice none 0 0) (.int .i64 0) 24)) hb)
       have R2s : V.heap.size ≤ w2.heap.size := R2.out.size
       have X2 := XV.out.below R2.out; have X2l := X2.lt
       obtain ⟨q0, q1, q2, f0, f1, f2⟩ := X2.cells; clear hv hb X2)
    | (go_at_call 39; refine (HMUL.out _ _ _ (HT.out.below (by have := BV.out.trans (R2.out.mono BV.out.size); go_grown)) (rd_of (d := dA) (VXV.out.below (by have := R2.out; go_grown)) fitA) (rd_of (VO2.out.below (by go_grown)) HFIT.out)).mono ?_; rintro r w3 ⟨a3, n3, c3, rfl, hv, hb⟩; have VZ3 := Lib.hid hv; have R3 := Lib.hid (show Below V.heap.size V w3 from bl_thru (by have := R2.out; go_grown) (Nat.le_refl _) hb)
       first
         | (have Z3 := Lib.hid (Box.below (Box.new w2 (.bool false) (.slice none 0 0) (.int .i64 0) 24) hb)
            have Z3l := Z3.out.lt
            obtain ⟨p0, p1, p2, g0, g1, g2⟩ := Z3.out.cells)
         | (have Z3 := Lib.hid (Box.below Z2.out hb)
            have Z3l := Z3.out.lt
            obtain ⟨p0, p1, p2, g0, g1, g2⟩ := Z3.out.cells)
         | skip
       clear hv hb))
  all_goals
    have R3s : V.heap.size ≤ w3.heap.size := R3.out.size
    have Y3 := Lib.hid (YV.out.below R3.out)
    obtain ⟨y0, y1, y2, y3, y4, y5⟩ := Y3.out.cells
    have hYl := Y3.out.lt
    have VY3 := Lib.hid (VYV.out.below R3.out)
    have B3 := Lib.hid (BV.out.trans (R3.out.mono BV.out.size))
    go_wp2_with fail
    first
      | ((with_reducible refine (HCMP.out _ _ (w3.alloc _) ?_ ?_ ?_).mono ?_)
         · exact HT.out.below (B3.out.alloc B3.out.size _)
         · exact rd_of (d := dC) (VZ3.out.alloc _) fitC
         · exact rd_of (d := dB) (VY3.out.alloc _) fitB
         rintro r w4 ⟨rfl, hb⟩
         have B4 := Lib.hid (bl_thru (B3.out.alloc B3.out.size _) (Nat.le_refl _) hb)
         have Y4 := Lib.hid ((Y3.out.alloc _).below hb)
         have Z4 := Lib.hid ((Box.new w3 _ _ _ _).below hb)
         have VY4 := Lib.hid ((VY3.out.alloc _).below hb)
         have VZ4 := Lib.hid ((VZ3.out.alloc _).below hb))
      | ((with_reducible refine (HCMP.out _ _ (((w3.setCell _ _).setCell _ _).setCell _ _) ?_ ?_ ?_).mono ?_)
         · exact HT.out.below (bl_set3 B3.out (by have := BV.out.size; omega) _ _ _)
         · exact rd_of (d := dC) (VZ3.out.setD Z3.out) fitC
         · exact rd_of (d := dB) (VY3.out.setD Z3.out) fitB
         rintro r w4 ⟨rfl, hb⟩
         have B4 := Lib.hid (bl_thru (bl_set3 B3.out (by have := BV.out.size; omega) _ _ _) (Nat.le_refl _) hb)
         have Y4 := Lib.hid ((((Y3.out.set (by omega) _).set (by omega) _).set (by omega) _).below hb)
         have Z4 := Lib.hid ((Z3.out.set3 _ _ _).below hb)
         have VY4 := Lib.hid ((VY3.out.setD Z3.out).below hb)
         have VZ4 := Lib.hid ((VZ3.out.setD Z3.out).below hb))
    clear hb
    obtain ⟨y0, y1, y2, y3, y4, y5⟩ := Y4.out.cells
    have hYl := Y4.out.lt
    have hZl := Z4.out.lt
    go_wp2_with (go_at_call 18; refine (ok_new3 _ _ _ _ _ rfl).mono ?_; rintro e w' ⟨rfl, rfl⟩)
    refine (HS1.out _ _ _ ⟨_, rfl, (VY4.out.alloc _).alloc _⟩ ⟨_, rfl, one_nv2 _ _ 3 _ (by decide) (by decide)⟩).mono ?_
    rintro r w5 ⟨rfl, hb⟩
    have B5 := Lib.hid (bl_thru ((B4.out.alloc B4.out.size _).alloc (by have := B4.out.size; simp; omega) _) (Nat.le_refl _) hb)
    have Z5 := Lib.hid (((Z4.out.alloc _).alloc _).below hb)
    have VZ5 := Lib.hid (((VZ4.out.alloc _).alloc _).below hb)
    obtain ⟨z0, z1, z2, z3, z4, z5⟩ := Z5.out.cells
    clear hb
    go_wp2_with fail
    refine (HS2.out _ _ _ ⟨_, rfl, VZ5.out.alloc _⟩ ⟨_, rfl, one_nv _ 3 _ (by decide) (by decide)⟩).mono ?_
    rintro r w6 ⟨rfl, hb⟩
    have B6 := Lib.hid (bl_thru (B5.out.alloc B5.out.size _) (Nat.le_refl _) hb)
    clear hb
    go_wp2
    go_ret
    exact ⟨rfl, B6.out⟩
end Go.Proofs.YtmpdbmaokbhcjaaDoor
