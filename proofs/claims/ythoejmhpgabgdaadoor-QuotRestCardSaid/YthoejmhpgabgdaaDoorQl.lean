/-
  THE WALK of quotLives.
-/
import Derived.Test.YthoejmhpgabgdaaDoorRm
set_option linter.unusedVariables false
set_option linter.unusedSimpArgs false
namespace Go.Proofs.YthoejmhpgabgdaaDoor
open Go.RowKit Nt Fm Fl

theorem sq_two : sqV 4611686018427387904 0 = 4609047870845172685 ∧ sqC 4611686018427387904 0 = true := by
  have h1 : (valD 4611686018427387904).m * 2 ^ rk (valD 4611686018427387904).e = 2 ^ 161 := by kernel_rfl
  have h2 : isq (2 ^ 161) = 1709679290002018430137083 := isq_of ⟨by decide +kernel, by decide +kernel⟩
  have h3 : sqD 4611686018427387904 = rtD 1709679290002018430137083 1 1 := by
    unfold sqD; rw [h1, h2]; kernel_rfl
  constructor
  · unfold sqV sqV0; rw [h3]; kernel_rfl
  · unfold sqC sqC0; rw [h3]; kernel_rfl
theorem qlives_facts : dvV 4607182418800017408 4613937818241073152 0 = 4599676419421066581 ∧ dvC 4607182418800017408 4613937818241073152 0 = true ∧ adE 0 = 0 ∧ remV 4611686018427387904 4613937818241073152 = 13830554455654793216 :=
  ⟨by kernel_rfl, by kernel_rfl, by kernel_rfl, by kernel_rfl⟩
set_option maxRecDepth 100000 in
set_option maxHeartbeats 2000000 in
theorem quotLives_any (w : World) (hT : Tab w) :
    Calls Tryd.prog 17 #[] w fun e w' => e = .returned (.bool true) ∧ Below w.heap.size w w' := by
  obtain ⟨e1, e2, e3, e4⟩ := qlives_facts
  obtain ⟨e5, e6⟩ := sq_two
  have h1 := fun w' h => qdiv_any 4607182418800017408 4613937818241073152 0 (by decide) (by decide) (by decide) (by decide) w' h
  have h2 := fun w' h => qsqrt_any 4611686018427387904 0 (by decide) (by decide) w' h
  have h3 := fun w' h => qrem_any 4611686018427387904 4613937818241073152 (by decide) (by decide) (by decide) (by decide) w' h
  rw [e1, e2, e3] at h1
  rw [e5, e6, e3] at h2
  rw [e4] at h3
  have H1 := Lib.hid h1
  have H2 := Lib.hid h2
  have H3 := Lib.hid h3
  have HT := Lib.hid hT
  have k2 := ok2_mk
  clear h1 h2 h3 hT e1 e2 e3 e4 e5 e6
  go_enter Tryd.func17, Tryd.ntmps17
  go_wp2_with fail
  refine (H1.out _ HT.out).mono ?_
  rintro r w1 ⟨rfl, hb⟩
  have B1 := Lib.hid hb
  clear hb
  go_wp2_with fail
  refine (H2.out _ (HT.out.below B1.out)).mono ?_
  rintro r w2 ⟨rfl, hb⟩
  have B2 := Lib.hid (bl_thru B1.out (Nat.le_refl _) hb)
  clear hb
  go_wp2_with (go_at_call 18; refine (ok_new2 _ _ _ _ rfl).mono ?_; rintro e w' ⟨rfl, rfl⟩)
  refine (H3.out _ (HT.out.below (B2.out.alloc B2.out.size _))).mono ?_
  rintro r w3 ⟨rfl, hb⟩
  have B3 := Lib.hid (bl_thru (B2.out.alloc B2.out.size _) (Nat.le_refl _) hb)
  clear hb
  go_wp2
  go_ret
  exact ⟨rfl, B3.out⟩
end Go.Proofs.YthoejmhpgabgdaaDoor
