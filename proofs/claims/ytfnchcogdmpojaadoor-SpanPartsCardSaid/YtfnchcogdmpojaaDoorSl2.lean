/-
  THE WALK of ulpkeep.spanLives.
-/
import Derived.Test.YtfnchcogdmpojaaDoorMg
import Derived.Test.YtfnchcogdmpojaaDoorSd2
import Derived.Test.YtfnchcogdmpojaaDoorBa
set_option linter.unusedVariables false
set_option linter.unusedSimpArgs false
namespace Go.Proofs.YtfnchcogdmpojaaDoor
open Go.RowKit Nt Fm Fl

theorem spLives_facts : saLo 4607182418800017408 4611686018427387904 4607182418800017408 4611686018427387904 = 4611686018427387904 ∧ saHi 4607182418800017408 4611686018427387904 4607182418800017408 4611686018427387904 = 4616189618054758400 ∧ spE2 4607182418800017408 4611686018427387904 4607182418800017408 4611686018427387904 = 0 ∧
    mlLo 4607182418800017408 4611686018427387904 13830554455654793216 4607182418800017408 = 13835058055282163712 ∧ mlHi 4607182418800017408 4611686018427387904 13830554455654793216 4607182418800017408 = 4611686018427387904 ∧ spE2 4607182418800017408 4611686018427387904 13830554455654793216 4607182418800017408 = 0 ∧
    HasB 4607182418800017408 4611686018427387904 4607182418800017409 = true ∧ HasB 4607182418800017408 4611686018427387904 0 = false := by
  decide +kernel
set_option maxRecDepth 100000 in
set_option maxHeartbeats 8000000 in
theorem spanLives_any (w : World) (hT : Tab w) :
    Calls Tryd.prog 13 #[] w fun e w' => e = .returned (.bool true) ∧ Below w.heap.size w w' := by
  obtain ⟨f1, f2, f3, f4, f5, f6, f7, f8⟩ := spLives_facts
  have AD := Lib.hid (fun w' h => spAdd_any 4607182418800017408 4611686018427387904 4607182418800017408 4611686018427387904 (by decide) (by decide) (by decide) (by decide) (by decide) (by decide) (by decide) (by decide) w' h)
  have MU := Lib.hid (fun w' h => spMul_any 4607182418800017408 4611686018427387904 13830554455654793216 4607182418800017408 (by decide) (by decide) (by decide) (by decide) (by decide) (by decide) (by decide) (by decide) w' h)
  have H1 := Lib.hid (fun w' => spHas_any 4607182418800017408 4611686018427387904 4607182418800017409 (by decide) (by decide) (by decide) (by decide) (by decide) (by decide) w')
  have H2 := Lib.hid (fun w' => spHas_any 4607182418800017408 4611686018427387904 0 (by decide) (by decide) (by decide) (by decide) (by decide) (by decide) w')
  rw [f1, f2, f3] at AD
  rw [f4, f5, f6] at MU
  rw [f7] at H1
  rw [f8] at H2
  clear f1 f2 f3 f4 f5 f6 f7 f8
  have HT := Lib.hid hT
  clear hT
  go_enter Tryd.func13, Tryd.ntmps13
  go_wp2_with fail
  refine (AD.out _ (HT.out.below (by go_grown))).mono ?_
  rintro e w1 ⟨rfl, hb⟩
  have X1 := Lib.hid ((Bx2.new w (.int .u64 4607182418800017408) (.int .u64 4611686018427387904) 24).below hb)
  have B1 := Lib.hid (bl_thru ((Below.refl w.heap.size w).alloc (Nat.le_refl _) (.cells #[.int .u64 4607182418800017408, .int .u64 4611686018427387904] 24)) (Nat.le_refl _) hb)
  clear hb
  have b1 := B1.out.size
  obtain ⟨x0, x1, -, -⟩ := (X1.out.alloc (.cells #[.int .u64 4611686018427387904, .int .u64 4616189618054758400] 24)).cells
  go_wp2_with fail
  refine (MU.out _ (HT.out.below (B1.out.alloc b1 _))).mono ?_
  rintro e w2 ⟨rfl, hb⟩
  have X2 := Lib.hid ((X1.out.alloc (.cells #[.int .u64 4611686018427387904, .int .u64 4616189618054758400] 24)).below hb)
  have S2 := Lib.hid ((Bx2.new w1 (.int .u64 4611686018427387904) (.int .u64 4616189618054758400) 24).below hb)
  have B2 := Lib.hid (bl_thru (B1.out.alloc b1 (.cells #[.int .u64 4611686018427387904, .int .u64 4616189618054758400] 24)) (Nat.le_refl _) hb)
  clear hb x0 x1
  have b2 := B2.out.size
  obtain ⟨x0, x1, -, -⟩ := ((X2.out.alloc (.cells #[.int .u64 13835058055282163712, .int .u64 4611686018427387904] 24)).alloc (.cells #[.int .i64 0, .int .i64 0] 25)).cells
  obtain ⟨s0, s1, -, -⟩ := ((S2.out.alloc (.cells #[.int .u64 13835058055282163712, .int .u64 4611686018427387904] 24)).alloc (.cells #[.int .i64 0, .int .i64 0] 25)).cells
  obtain ⟨p0, p1, -, -⟩ := ((Bx2.new w2 (.int .u64 13835058055282163712) (.int .u64 4611686018427387904) 24).alloc (.cells #[.int .i64 0, .int .i64 0] 25)).cells
  go_wp2_with (go_at_call 15; refine (ok_new2 _ _ _ _ (by simp)).mono ?_; rintro e w' ⟨rfl, rfl⟩)
  refine (H1.out _).mono ?_
  rintro e w3 ⟨rfl, hb⟩
  have X3 := Lib.hid (((X2.out.alloc (.cells #[.int .u64 13835058055282163712, .int .u64 4611686018427387904] 24)).alloc (.cells #[.int .i64 0, .int .i64 0] 25)).below hb)
  have B3 := Lib.hid (bl_thru ((B2.out.alloc b2 (.cells #[.int .u64 13835058055282163712, .int .u64 4611686018427387904] 24)).alloc (by rw [size_alloc]; omega) (.cells #[.int .i64 0, .int .i64 0] 25)) (Nat.le_refl _) hb)
  clear hb x0 x1 s0 s1 p0 p1
  obtain ⟨x0, x1, -, -⟩ := X3.out.cells
  go_wp2_with fail
  refine (H2.out _).mono ?_
  rintro e w4 ⟨rfl, hb⟩
  have B4 := Lib.hid (bl_thru B3.out (Nat.le_refl _) hb)
  clear hb
  go_wp2
  go_ret
  exact ⟨rfl, B4.out⟩
end Go.Proofs.YtfnchcogdmpojaaDoor
