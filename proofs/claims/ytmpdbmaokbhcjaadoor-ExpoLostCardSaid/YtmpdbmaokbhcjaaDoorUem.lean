/-
  SOME OF MY TEXTS in one: Ue Um Un Uf. Each says what it proves.
-/
import Derived.Test.YtmpdbmaokbhcjaaDoorUab
set_option linter.unusedVariables false
set_option linter.unusedSimpArgs false
/-
  THE WALK of expo.near at expo.Exp$1.
-/
namespace Go.Proofs.YtmpdbmaokbhcjaaDoor
open Go.RowKit Nt Fm Fl
open Ea (PB)

set_option maxRecDepth 100000 in
set_option maxHeartbeats 8000000 in
theorem nearE_any (c : Cut) (c0 : Nat) (d : D) (mode : Int) (w : World) (hT : Tab w) (hd : GD w c0 d) (m0 : 0 ≤ mode) (m1 : mode ≤ 4)
    (hcl : ∀ (p : Nat) (w' : World), 256 ≤ p → p ≤ 2 * PB → Tab w' → GD w' c0 d → Calls Tryd.prog 56 #[.int .i64 (p : Int), .pointer (some ⟨c0, 0, none⟩)] w' fun r w'' => ∃ C E, RetD2 w' C E r w'' ∧ BR c p C E) :
    Calls Tryd.prog 55 #[.int .i64 mode, .func (.func 56) #[] #[.pointer (some ⟨c0, 0, none⟩)]] w fun r w' => ∃ a, Rn c mode a ∧ r = .returned (.tuple #[.int .u64 a, .bool true, .int .i64 0]) ∧ Below w.heap.size w w' := by
  have hlt : c0 < w.heap.size := hd.lt
  have hPB : PB = 4398500000000 := rfl
  have CL := Lib.hid hcl
  have HT := Lib.hid hT
  have HD := Lib.hid hd
  have B0 := Lib.hid (Below.refl w.heap.size w)
  clear hcl hT hd
  obtain ⟨B, hB⟩ : ∃ B : Nat, B = 2 * PB := ⟨_, rfl⟩
  have hB2 : B = 8797000000000 := by rw [hB]; rfl
  rw [← hB] at CL
  have hPB2 : PB + PB = B := by omega
  clear hB
  go_enter Tryd.func55, Tryd.ntmps55
  go_wp2_with fail
  go_loopw [7] (fun i wr => ∃ Q : Nat, i = .int .i64 (Q : Int) ∧ 256 ≤ Q ∧ Q ≤ B ∧ Hid (GD wr c0 d) ∧ Hid (Below w.heap.size w wr))
    (fun i _ => B + 1 - (intOf i).toNat)
  case atStart => exact ⟨256, rfl, Nat.le_refl _, by omega, HD, B0⟩
  case round =>
    obtain ⟨Q, rfl, q1, q2, gD, hbel⟩ := hrel
    clear HD B0
    go_wp2_with fail
    refine (CL.out Q _ q1 q2 (HT.out.below hbel.out) gD.out).mono ?_
    rintro r w1 ⟨C, E, ⟨u1, u2, rfl, hu1, hu2, hb1⟩, hbr⟩
    obtain ⟨K, k1, k2, k3, k4, k5, k6, k7, k8, k9, k10, k11, k12⟩ := hbr
    have NUC := Lib.hid (fun v w' hd => number_any v C K mode w' hd k2 k1 k4 k5 k8 m0 m1)
    have NUE := Lib.hid (fun v w' hd => number_any v E K mode w' hd k3 k1 k6 k7 k9 m0 m1)
    have RES : Hid (numR C mode = numR E mode → numC C = true → numC E = true → Rn c mode (numR C mode)) := Lib.hid (fun e1 e2 e3 => ⟨C, E, k10, k11, rfl, e1.symm, e2, e3⟩)
    have MET : Hid (PB ≤ Q → numR C mode = numR E mode ∧ numC C = true ∧ numC E = true) := Lib.hid (fun h => k12 h mode)
    clear k1 k2 k3 k4 k5 k6 k7 k8 k9 k10 k11 k12
    obtain ⟨e1, f1, g1, rfl, hv1⟩ := hu1.parts
    obtain ⟨e2, f2, g2, rfl, hv2⟩ := hu2.parts
    have B1 := bl_thru hbel.out (Nat.le_refl _) hb1
    have D1 := gD.out.below hb1
    obtain ⟨V1, hV1⟩ : ∃ V, V = ((w1.alloc (.cells #[.bool C.neg, .slice e1 f1 g1, .int .i64 C.e] 24)).alloc (.cells #[.bool E.neg, .slice e2 f2 g2, .int .i64 E.e] 24)) := ⟨_, rfl⟩
    have gD1 := Lib.hid (show GD V1 c0 d from by rw [hV1]; exact (D1.alloc _).alloc _)
    have BB1 := Lib.hid (show Below w.heap.size w V1 from by rw [hV1]; exact (B1.alloc B1.size _).alloc (by have := B1.size; simp; omega) _)
    have XE := Lib.hid (show Box V1 (w1.heap.size + 1) 24 (.bool E.neg) (.slice e2 f2 g2) (.int .i64 E.e) from by rw [hV1]; exact Box.new2 w1 _ _ _ _ _)
    have NC := Lib.hid (show NV V1 (.slice e1 f1 g1) C.m from by rw [hV1]; exact (hv1.alloc _).alloc _)
    have NE := Lib.hid (show NV V1 (.slice e2 f2 g2) E.m from by rw [hV1]; exact (hv2.alloc _).alloc _)
    obtain ⟨b8, hb8⟩ : ∃ b8, b8 = w1.heap.size := ⟨_, rfl⟩
    rw [← hb8] at XE
    generalize numR C mode = A at *
    generalize numR E mode = F at *
    generalize numC C = cC at *
    generalize numC E = cE at *
    clear hu1 hu2 hb1 hv1 hv2 B1 D1 gD hbel CL
    go_wp2_with fail
    rw [← hV1, ← hb8]
    clear hV1 hb8
    refine (NUC.out _ _ ⟨_, rfl, NC.out⟩).mono ?_
    rintro r w2 ⟨rfl, hb2⟩
    have BB2 := Lib.hid (bl_thru BB1.out (Nat.le_refl _) hb2)
    have gD2 := Lib.hid (gD1.out.below hb2)
    have XE2 := Lib.hid (XE.out.below hb2)
    have NE2 := Lib.hid (NE.out.below hb2)
    obtain ⟨j0, j1, j2, -, -, -⟩ := XE2.out.cells
    clear hb2 gD1 BB1 XE NC NE NUC
    go_wp2_with fail
    clear j0 j1 j2
    refine (NUE.out _ _ ⟨_, rfl, NE2.out⟩).mono ?_
    rintro r w3 ⟨rfl, hb3⟩
    have BB3 := Lib.hid (bl_thru BB2.out (Nat.le_refl _) hb3)
    have gD3 := Lib.hid (gD2.out.below hb3)
    clear hb3 gD2 BB2 XE2 NE2 NUE
    have hcase : (A = F ∧ cC = true ∧ cE = true) ∨ (Q < PB ∧ ((A == F) = false ∨ (A = F ∧ (cC = false ∨ (cC = true ∧ cE = false))))) := by
      by_cases hz : A = F ∧ cC = true ∧ cE = true
      · exact Or.inl hz
      · right
        refine ⟨Nat.lt_of_not_le fun h => hz (MET.out h), ?_⟩
        by_cases ha : A = F
        · right; refine ⟨ha, ?_⟩
          cases cC
          · exact Or.inl rfl
          · right; refine ⟨rfl, ?_⟩
            cases cE
            · rfl
            · exact absurd ⟨ha, rfl, rfl⟩ hz
        · left; rw [beq_eq_false_iff_ne]; exact ha
    rcases hcase with ⟨rfl, rfl, rfl⟩ | ⟨hQlt, h | ⟨rfl, rfl | ⟨rfl, rfl⟩⟩⟩
    · have hr := Lib.hid (RES.out rfl rfl rfl)
      clear RES MET
      go_wp2_with fail
      go_ret3
      exact ⟨_, hr.out, rfl, BB3.out⟩
    all_goals
      clear RES MET
      go_wp2_with fail
      go_roundw
      case rel => exact ⟨Q * 2, by simp, by omega, by omega, gD3, BB3⟩
      case measure => simp [intOf]; omega
end Go.Proofs.YtmpdbmaokbhcjaaDoor

/-
  THE WALK of expo.near at expo.Expm1$1.
-/
namespace Go.Proofs.YtmpdbmaokbhcjaaDoor
open Go.RowKit Nt Fm Fl
open Ea (PB)

set_option maxRecDepth 100000 in
set_option maxHeartbeats 8000000 in
theorem nearM_any (c : Cut) (c0 : Nat) (d : D) (mode : Int) (w : World) (hT : Tab w) (hd : GD w c0 d) (m0 : 0 ≤ mode) (m1 : mode ≤ 4)
    (hcl : ∀ (p : Nat) (w' : World), 256 ≤ p → p ≤ 2 * PB → Tab w' → GD w' c0 d → Calls Tryd.prog 60 #[.int .i64 (p : Int), .pointer (some ⟨c0, 0, none⟩)] w' fun r w'' => ∃ C E, RetD2 w' C E r w'' ∧ BR c p C E) :
    Calls Tryd.prog 55 #[.int .i64 mode, .func (.func 60) #[] #[.pointer (some ⟨c0, 0, none⟩)]] w fun r w' => ∃ a, Rn c mode a ∧ r = .returned (.tuple #[.int .u64 a, .bool true, .int .i64 0]) ∧ Below w.heap.size w w' := by
  have hlt : c0 < w.heap.size := hd.lt
  have hPB : PB = 4398500000000 := rfl
  have CL := Lib.hid hcl
  have HT := Lib.hid hT
  have HD := Lib.hid hd
  have B0 := Lib.hid (Below.refl w.heap.size w)
  clear hcl hT hd
  obtain ⟨B, hB⟩ : ∃ B : Nat, B = 2 * PB := ⟨_, rfl⟩
  have hB2 : B = 8797000000000 := by rw [hB]; rfl
  rw [← hB] at CL
  have hPB2 : PB + PB = B := by omega
  clear hB
  go_enter Tryd.func55, Tryd.ntmps55
  go_wp2_with fail
  go_loopw [7] (fun i wr => ∃ Q : Nat, i = .int .i64 (Q : Int) ∧ 256 ≤ Q ∧ Q ≤ B ∧ Hid (GD wr c0 d) ∧ Hid (Below w.heap.size w wr))
    (fun i _ => B + 1 - (intOf i).toNat)
  case atStart => exact ⟨256, rfl, Nat.le_refl _, by omega, HD, B0⟩
  case round =>
    obtain ⟨Q, rfl, q1, q2, gD, hbel⟩ := hrel
    clear HD B0
    go_wp2_with fail
    refine (CL.out Q _ q1 q2 (HT.out.below hbel.out) gD.out).mono ?_
    rintro r w1 ⟨C, E, ⟨u1, u2, rfl, hu1, hu2, hb1⟩, hbr⟩
    obtain ⟨K, k1, k2, k3, k4, k5, k6, k7, k8, k9, k10, k11, k12⟩ := hbr
    have NUC := Lib.hid (fun v w' hd => number_any v C K mode w' hd k2 k1 k4 k5 k8 m0 m1)
    have NUE := Lib.hid (fun v w' hd => number_any v E K mode w' hd k3 k1 k6 k7 k9 m0 m1)
    have RES : Hid (numR C mode = numR E mode → numC C = true → numC E = true → Rn c mode (numR C mode)) := Lib.hid (fun e1 e2 e3 => ⟨C, E, k10, k11, rfl, e1.symm, e2, e3⟩)
    have MET : Hid (PB ≤ Q → numR C mode = numR E mode ∧ numC C = true ∧ numC E = true) := Lib.hid (fun h => k12 h mode)
    clear k1 k2 k3 k4 k5 k6 k7 k8 k9 k10 k11 k12
    obtain ⟨e1, f1, g1, rfl, hv1⟩ := hu1.parts
    obtain ⟨e2, f2, g2, rfl, hv2⟩ := hu2.parts
    have B1 := bl_thru hbel.out (Nat.le_refl _) hb1
    have D1 := gD.out.below hb1
    obtain ⟨V1, hV1⟩ : ∃ V, V = ((w1.alloc (.cells #[.bool C.neg, .slice e1 f1 g1, .int .i64 C.e] 24)).alloc (.cells #[.bool E.neg, .slice e2 f2 g2, .int .i64 E.e] 24)) := ⟨_, rfl⟩
    have gD1 := Lib.hid (show GD V1 c0 d from by rw [hV1]; exact (D1.alloc _).alloc _)
    have BB1 := Lib.hid (show Below w.heap.size w V1 from by rw [hV1]; exact (B1.alloc B1.size _).alloc (by have := B1.size; simp; omega) _)
    have XE := Lib.hid (show Box V1 (w1.heap.size + 1) 24 (.bool E.neg) (.slice e2 f2 g2) (.int .i64 E.e) from by rw [hV1]; exact Box.new2 w1 _ _ _ _ _)
    have NC := Lib.hid (show NV V1 (.slice e1 f1 g1) C.m from by rw [hV1]; exact (hv1.alloc _).alloc _)
    have NE := Lib.hid (show NV V1 (.slice e2 f2 g2) E.m from by rw [hV1]; exact (hv2.alloc _).alloc _)
    obtain ⟨b8, hb8⟩ : ∃ b8, b8 = w1.heap.size := ⟨_, rfl⟩
    rw [← hb8] at XE
    generalize numR C mode = A at *
    generalize numR E mode = F at *
    generalize numC C = cC at *
    generalize numC E = cE at *
    clear hu1 hu2 hb1 hv1 hv2 B1 D1 gD hbel CL
    go_wp2_with fail
    rw [← hV1, ← hb8]
    clear hV1 hb8
    refine (NUC.out _ _ ⟨_, rfl, NC.out⟩).mono ?_
    rintro r w2 ⟨rfl, hb2⟩
    have BB2 := Lib.hid (bl_thru BB1.out (Nat.le_refl _) hb2)
    have gD2 := Lib.hid (gD1.out.below hb2)
    have XE2 := Lib.hid (XE.out.below hb2)
    have NE2 := Lib.hid (NE.out.below hb2)
    obtain ⟨j0, j1, j2, -, -, -⟩ := XE2.out.cells
    clear hb2 gD1 BB1 XE NC NE NUC
    go_wp2_with fail
    clear j0 j1 j2
    refine (NUE.out _ _ ⟨_, rfl, NE2.out⟩).mono ?_
    rintro r w3 ⟨rfl, hb3⟩
    have BB3 := Lib.hid (bl_thru BB2.out (Nat.le_refl _) hb3)
    have gD3 := Lib.hid (gD2.out.below hb3)
    clear hb3 gD2 BB2 XE2 NE2 NUE
    have hcase : (A = F ∧ cC = true ∧ cE = true) ∨ (Q < PB ∧ ((A == F) = false ∨ (A = F ∧ (cC = false ∨ (cC = true ∧ cE = false))))) := by
      by_cases hz : A = F ∧ cC = true ∧ cE = true
      · exact Or.inl hz
      · right
        refine ⟨Nat.lt_of_not_le fun h => hz (MET.out h), ?_⟩
        by_cases ha : A = F
        · right; refine ⟨ha, ?_⟩
          cases cC
          · exact Or.inl rfl
          · right; refine ⟨rfl, ?_⟩
            cases cE
            · rfl
            · exact absurd ⟨ha, rfl, rfl⟩ hz
        · left; rw [beq_eq_false_iff_ne]; exact ha
    rcases hcase with ⟨rfl, rfl, rfl⟩ | ⟨hQlt, h | ⟨rfl, rfl | ⟨rfl, rfl⟩⟩⟩
    · have hr := Lib.hid (RES.out rfl rfl rfl)
      clear RES MET
      go_wp2_with fail
      go_ret3
      exact ⟨_, hr.out, rfl, BB3.out⟩
    all_goals
      clear RES MET
      go_wp2_with fail
      go_roundw
      case rel => exact ⟨Q * 2, by simp, by omega, by omega, gD3, BB3⟩
      case measure => simp [intOf]; omega
end Go.Proofs.YtmpdbmaokbhcjaaDoor

/-
  THE WALK of expo.near at expo.logarithm$1.
-/
namespace Go.Proofs.YtmpdbmaokbhcjaaDoor
open Go.RowKit Nt Fm Fl
open Ea (PB)

set_option maxRecDepth 100000 in
set_option maxHeartbeats 8000000 in
theorem nearL_any (c : Cut) (c0 : Nat) (d : D) (mode : Int) (w : World) (hT : Tab w) (hd : GD w c0 d) (m0 : 0 ≤ mode) (m1 : mode ≤ 4)
    (hcl : ∀ (p : Nat) (w' : World), 256 ≤ p → p ≤ 2 * PB → Tab w' → GD w' c0 d → Calls Tryd.prog 92 #[.int .i64 (p : Int), .pointer (some ⟨c0, 0, none⟩)] w' fun r w'' => ∃ C E, RetD2 w' C E r w'' ∧ BR c p C E) :
    Calls Tryd.prog 55 #[.int .i64 mode, .func (.func 92) #[] #[.pointer (some ⟨c0, 0, none⟩)]] w fun r w' => ∃ a, Rn c mode a ∧ r = .returned (.tuple #[.int .u64 a, .bool true, .int .i64 0]) ∧ Below w.heap.size w w' := by
  have hlt : c0 < w.heap.size := hd.lt
  have hPB : PB = 4398500000000 := rfl
  have CL := Lib.hid hcl
  have HT := Lib.hid hT
  have HD := Lib.hid hd
  have B0 := Lib.hid (Below.refl w.heap.size w)
  clear hcl hT hd
  obtain ⟨B, hB⟩ : ∃ B : Nat, B = 2 * PB := ⟨_, rfl⟩
  have hB2 : B = 8797000000000 := by rw [hB]; rfl
  rw [← hB] at CL
  have hPB2 : PB + PB = B := by omega
  clear hB
  go_enter Tryd.func55, Tryd.ntmps55
  go_wp2_with fail
  go_loopw [7] (fun i wr => ∃ Q : Nat, i = .int .i64 (Q : Int) ∧ 256 ≤ Q ∧ Q ≤ B ∧ Hid (GD wr c0 d) ∧ Hid (Below w.heap.size w wr))
    (fun i _ => B + 1 - (intOf i).toNat)
  case atStart => exact ⟨256, rfl, Nat.le_refl _, by omega, HD, B0⟩
  case round =>
    obtain ⟨Q, rfl, q1, q2, gD, hbel⟩ := hrel
    clear HD B0
    go_wp2_with fail
    refine (CL.out Q _ q1 q2 (HT.out.below hbel.out) gD.out).mono ?_
    rintro r w1 ⟨C, E, ⟨u1, u2, rfl, hu1, hu2, hb1⟩, hbr⟩
    obtain ⟨K, k1, k2, k3, k4, k5, k6, k7, k8, k9, k10, k11, k12⟩ := hbr
    have NUC := Lib.hid (fun v w' hd => number_any v C K mode w' hd k2 k1 k4 k5 k8 m0 m1)
    have NUE := Lib.hid (fun v w' hd => number_any v E K mode w' hd k3 k1 k6 k7 k9 m0 m1)
    have RES : Hid (numR C mode = numR E mode → numC C = true → numC E = true → Rn c mode (numR C mode)) := Lib.hid (fun e1 e2 e3 => ⟨C, E, k10, k11, rfl, e1.symm, e2, e3⟩)
    have MET : Hid (PB ≤ Q → numR C mode = numR E mode ∧ numC C = true ∧ numC E = true) := Lib.hid (fun h => k12 h mode)
    clear k1 k2 k3 k4 k5 k6 k7 k8 k9 k10 k11 k12
    obtain ⟨e1, f1, g1, rfl, hv1⟩ := hu1.parts
    obtain ⟨e2, f2, g2, rfl, hv2⟩ := hu2.parts
    have B1 := bl_thru hbel.out (Nat.le_refl _) hb1
    have D1 := gD.out.below hb1
    obtain ⟨V1, hV1⟩ : ∃ V, V = ((w1.alloc (.cells #[.bool C.neg, .slice e1 f1 g1, .int .i64 C.e] 24)).alloc (.cells #[.bool E.neg, .slice e2 f2 g2, .int .i64 E.e] 24)) := ⟨_, rfl⟩
    have gD1 := Lib.hid (show GD V1 c0 d from by rw [hV1]; exact (D1.alloc _).alloc _)
    have BB1 := Lib.hid (show Below w.heap.size w V1 from by rw [hV1]; exact (B1.alloc B1.size _).alloc (by have := B1.size; simp; omega) _)
    have XE := Lib.hid (show Box V1 (w1.heap.size + 1) 24 (.bool E.neg) (.slice e2 f2 g2) (.int .i64 E.e) from by rw [hV1]; exact Box.new2 w1 _ _ _ _ _)
    have NC := Lib.hid (show NV V1 (.slice e1 f1 g1) C.m from by rw [hV1]; exact (hv1.alloc _).alloc _)
    have NE := Lib.hid (show NV V1 (.slice e2 f2 g2) E.m from by rw [hV1]; exact (hv2.alloc _).alloc _)
    obtain ⟨b8, hb8⟩ : ∃ b8, b8 = w1.heap.size := ⟨_, rfl⟩
    rw [← hb8] at XE
    generalize numR C mode = A at *
    generalize numR E mode = F at *
    generalize numC C = cC at *
    generalize numC E = cE at *
    clear hu1 hu2 hb1 hv1 hv2 B1 D1 gD hbel CL
    go_wp2_with fail
    rw [← hV1, ← hb8]
    clear hV1 hb8
    refine (NUC.out _ _ ⟨_, rfl, NC.out⟩).mono ?_
    rintro r w2 ⟨rfl, hb2⟩
    have BB2 := Lib.hid (bl_thru BB1.out (Nat.le_refl _) hb2)
    have gD2 := Lib.hid (gD1.out.below hb2)
    have XE2 := Lib.hid (XE.out.below hb2)
    have NE2 := Lib.hid (NE.out.below hb2)
    obtain ⟨j0, j1, j2, -, -, -⟩ := XE2.out.cells
    clear hb2 gD1 BB1 XE NC NE NUC
    go_wp2_with fail
    clear j0 j1 j2
    refine (NUE.out _ _ ⟨_, rfl, NE2.out⟩).mono ?_
    rintro r w3 ⟨rfl, hb3⟩
    have BB3 := Lib.hid (bl_thru BB2.out (Nat.le_refl _) hb3)
    have gD3 := Lib.hid (gD2.out.below hb3)
    clear hb3 gD2 BB2 XE2 NE2 NUE
    have hcase : (A = F ∧ cC = true ∧ cE = true) ∨ (Q < PB ∧ ((A == F) = false ∨ (A = F ∧ (cC = false ∨ (cC = true ∧ cE = false))))) := by
      by_cases hz : A = F ∧ cC = true ∧ cE = true
      · exact Or.inl hz
      · right
        refine ⟨Nat.lt_of_not_le fun h => hz (MET.out h), ?_⟩
        by_cases ha : A = F
        · right; refine ⟨ha, ?_⟩
          cases cC
          · exact Or.inl rfl
          · right; refine ⟨rfl, ?_⟩
            cases cE
            · rfl
            · exact absurd ⟨ha, rfl, rfl⟩ hz
        · left; rw [beq_eq_false_iff_ne]; exact ha
    rcases hcase with ⟨rfl, rfl, rfl⟩ | ⟨hQlt, h | ⟨rfl, rfl | ⟨rfl, rfl⟩⟩⟩
    · have hr := Lib.hid (RES.out rfl rfl rfl)
      clear RES MET
      go_wp2_with fail
      go_ret3
      exact ⟨_, hr.out, rfl, BB3.out⟩
    all_goals
      clear RES MET
      go_wp2_with fail
      go_roundw
      case rel => exact ⟨Q * 2, by simp, by omega, by omega, gD3, BB3⟩
      case measure => simp [intOf]; omega
end Go.Proofs.YtmpdbmaokbhcjaaDoor

/-
  THE WALKS of the closures of expo.Exp and expo.logarithm.
-/
namespace Go.Proofs.YtmpdbmaokbhcjaaDoor
open Go.RowKit Nt Fm
open Ea (Pr growP negP qP pwP atP tw PB)

set_option maxRecDepth 100000 in
set_option maxHeartbeats 8000000 in
theorem cloE_any (c0 : Nat) (d : D) (s p : Nat) (w : World) (hT : Tab w) (hd : GD w c0 d) (hm0 : d.m ≠ 0) (hm : d.m < 2 ^ 1280) (he : -19000 ≤ d.e) (he1 : d.e ≤ 20000) (hx : (d.m : Rat) * tw d.e ≤ 2048)
    (hs : (s : Int) = max 0 (blen d.m + d.e + 16)) (hs1 : s ≤ 27) (q0 : 256 ≤ p) (q1 : p ≤ 2 * PB) :
    Calls Tryd.prog 56 #[.int .i64 (p : Int), .pointer (some ⟨c0, 0, none⟩)] w fun r w'' => ∃ C E, RetD2 w C E r w'' ∧ BR (cutE (rv d)) p C E := by
  have hPB : PB = 4398500000000 := rfl
  obtain ⟨a1, n1, c1, hBx, hNv⟩ := hd
  have EB := Lib.hid (fun P w' (hP : P = ((p + 1600 : Nat) : Int)) ht hv => expBounds_any (.agg #[.bool d.neg, .slice a1 n1 c1, .int .i64 d.e]) d 1280 (p + 1600) s P w' ht ⟨_, rfl, hv⟩ hP hm (by omega) (by omega) (by omega) (by omega) (by omega) hs hs1)
  have BRE := Lib.hid (fun k (hk : k ≤ p + 1600) hend => brE (p := p) (Q := p + 1600) (k := k) hm0 hm he hx hs hs1 (by omega) (by omega) (by omega) hk hend)
  have q2 : p ≤ 9000000000000 := by omega
  have HB := Lib.hid hBx
  have HN := Lib.hid hNv
  have HT := Lib.hid hT
  have hlt : c0 < w.heap.size := hBx.lt
  have L1 := Lib.hid ((GD.nil w).alloc (.cells #[.bool false, .slice none 0 0, .int .i64 0] 24))
  have M1 := Lib.hid (GD.nil2 w (.cells #[.bool false, .slice none 0 0, .int .i64 0] 24))
  have X1 := Lib.hid ((HB.out.alloc (.cells #[.bool false, .slice none 0 0, .int .i64 0] 24)).alloc (.cells #[.bool false, .slice none 0 0, .int .i64 0] 24))
  obtain ⟨z90, z91, z92, -, -, -⟩ := X1.out.cells
  clear hBx hNv hT hm hs hx hm0 he he1
  go_enter Tryd.func56, Tryd.ntmps56
  go_wp2_with fail
  refine (EB.out ((p : Int) + 1600) _ (by omega) (HT.out.below (bl_alloc2 _ _ _)) (HN.out.below (bl_alloc2 _ _ _))).mono ?_
  rintro r w1 ⟨k, hk, hend, u1, u2, rfl, hu1, hu2, hb1⟩
  obtain ⟨C, hC⟩ : ∃ C, C = norm false (ebP d.neg d.m d.e (p + 1600) k s).l (-((p + 1600 : Nat) : Int)) := ⟨_, rfl⟩
  obtain ⟨E, hE⟩ : ∃ E, E = norm false (ebP d.neg d.m d.e (p + 1600) k s).h (-((p + 1600 : Nat) : Int)) := ⟨_, rfl⟩
  rw [← hC] at hu1
  rw [← hE] at hu2
  obtain ⟨e1, f1, g1, rfl, hv1⟩ := hu1.parts
  obtain ⟨e2, f2, g2, rfl, hv2⟩ := hu2.parts
  have hbr := BRE.out k hk hend
  rw [← hC, ← hE] at hbr
  have HK := Lib.hid hbr
  have B1 := Lib.hid (bl_thru (bl_alloc2 w _ _) (Nat.le_refl _) hb1)
  have L2 := Lib.hid (L1.out.below hb1)
  have M2 := Lib.hid (M1.out.below hb1)
  have N1 := Lib.hid hv1
  have N2 := Lib.hid hv2
  clear hu1 hu2 hv1 hv2 hb1 hk hend hC hE z90 z91 z92 L1 M1 X1 HB HN hbr BRE EB
  obtain ⟨_, _, _, z0, z1, z2, z3, z4, z5⟩ := L2.out.cells
  obtain ⟨_, _, _, y0, y1, y2, y3, y4, y5⟩ := L2.out.two M2.out (by omega) (.bool C.neg) (.slice e1 f1 g1) (.int .i64 C.e)
  go_wp2_with fail
  clear z0 z1 z2 z3 z4 z5 y0 y1 y2 y3 y4 y5
  obtain ⟨h1, h2, h3, h4, h5, h6⟩ := fin_cc (V := w) B1.out L2.out M2.out (by omega) (Nat.le_refl _) (by omega) N1.out N2.out
  obtain ⟨W, hW⟩ : ∃ W, W = ((((((w1.setCell ⟨w.heap.size, 0, none⟩ (.bool C.neg)).setCell ⟨w.heap.size, 1, none⟩ (.slice e1 f1 g1)).setCell ⟨w.heap.size, 2, none⟩ (.int .i64 C.e)).setCell ⟨w.heap.size + 1, 0, none⟩ (.bool E.neg)).setCell ⟨w.heap.size + 1, 1, none⟩ (.slice e2 f2 g2)).setCell ⟨w.heap.size + 1, 2, none⟩ (.int .i64 E.e)) := ⟨_, rfl⟩
  rw [← hW] at h4 h5 h6 ⊢
  clear hW
  obtain ⟨i1, i2, i3, hi, hin⟩ := h5
  obtain ⟨j1, j2, j3, hj, hjn⟩ := h6
  have HIN := Lib.hid hin
  have HJN := Lib.hid hjn
  have BW := Lib.hid h4
  obtain ⟨s0, s1, s2, -, -, -⟩ := hi.cells
  obtain ⟨r0, r1, r2, -, -, -⟩ := hj.cells
  clear hi hj hin hjn h4
  refine bodyPost_ret (v := .tuple #[.agg #[.bool C.neg, .slice i1 i2 i3, .int .i64 C.e], .agg #[.bool E.neg, .slice j1 j2 j3, .int .i64 E.e]]) (by simp [results, Tryd.results56, go_sem, s0, s1, s2, r0, r1, r2]) rfl ?_
  exact ⟨C, E, ⟨_, _, rfl, ⟨_, rfl, HIN.out⟩, ⟨_, rfl, HJN.out⟩, BW.out⟩, HK.out⟩
set_option maxRecDepth 100000 in
set_option maxHeartbeats 8000000 in
theorem cloL_any (c0 : Nat) (d : D) (p : Nat) (w : World) (hT : Tab w) (hd : GD w c0 d) (h0 : 0 < rv d) (hm : d.m < 2 ^ 1280) (he : -3000 ≤ d.e) (he1 : d.e ≤ 3000) (h1 : rv d ≠ 1) (q0 : 256 ≤ p) (q1 : p ≤ 2 * PB) :
    Calls Tryd.prog 92 #[.int .i64 (p : Int), .pointer (some ⟨c0, 0, none⟩)] w fun r w'' => ∃ C E, RetD2 w C E r w'' ∧ BR (cutL (rv d)) p C E := by
  have hPB : PB = 4398500000000 := rfl
  obtain ⟨-, hm0⟩ := rv_gt h0
  obtain ⟨a1, n1, c1, hBx, hNv⟩ := hd
  have EB := Lib.hid (fun w' ht hv => logBounds_any (.agg #[.bool d.neg, .slice a1 n1 c1, .int .i64 d.e]) d.neg d.m 1280 p d.e p w' ht ⟨_, rfl, hv⟩ rfl hm hm0 (by omega) (by omega) (by omega) (by omega) (by omega))
  have BRL := Lib.hid (fun k j (hk : k ≤ p) (hj : j ≤ p) hend hend2 => brL (d := d) (p := p) (k := k) (j := j) h0 hm he he1 h1 (by omega) (by omega) hk hj hend hend2)
  have HB := Lib.hid hBx
  have HN := Lib.hid hNv
  have HT := Lib.hid hT
  have hlt : c0 < w.heap.size := hBx.lt
  have L1 := Lib.hid ((GD.nil w).alloc (.cells #[.bool false, .slice none 0 0, .int .i64 0] 24))
  have M1 := Lib.hid (GD.nil2 w (.cells #[.bool false, .slice none 0 0, .int .i64 0] 24))
  have X1 := Lib.hid ((HB.out.alloc (.cells #[.bool false, .slice none 0 0, .int .i64 0] 24)).alloc (.cells #[.bool false, .slice none 0 0, .int .i64 0] 24))
  obtain ⟨z90, z91, z92, -, -, -⟩ := X1.out.cells
  clear hBx hNv hT hm hm0 h0 h1 he he1
  go_enter Tryd.func92, Tryd.ntmps92
  go_wp2_with fail
  refine (EB.out _ (HT.out.below (bl_alloc2 _ _ _)) (HN.out.below (bl_alloc2 _ _ _))).mono ?_
  rintro r w1 ⟨k, j, hk, hj', hend, hend2, u1, u2, rfl, hu1, hu2, hb1⟩
  obtain ⟨C, hC⟩ : ∃ C, C = lbL d.m d.e p k j := ⟨_, rfl⟩
  obtain ⟨E, hE⟩ : ∃ E, E = lbH d.m d.e p k j := ⟨_, rfl⟩
  rw [← hC] at hu1
  rw [← hE] at hu2
  obtain ⟨e1, f1, g1, rfl, hv1⟩ := hu1.parts
  obtain ⟨e2, f2, g2, rfl, hv2⟩ := hu2.parts
  have hbr := BRL.out k j hk hj' hend hend2
  rw [← hC, ← hE] at hbr
  have HK := Lib.hid hbr
  have B1 := Lib.hid (bl_thru (bl_alloc2 w _ _) (Nat.le_refl _) hb1)
  have L2 := Lib.hid (L1.out.below hb1)
  have M2 := Lib.hid (M1.out.below hb1)
  have N1 := Lib.hid hv1
  have N2 := Lib.hid hv2
  clear hu1 hu2 hv1 hv2 hb1 hk hj' hend hend2 hC hE z90 z91 z92 L1 M1 X1 HB HN hbr BRL EB
  obtain ⟨_, _, _, z0, z1, z2, z3, z4, z5⟩ := L2.out.cells
  obtain ⟨_, _, _, y0, y1, y2, y3, y4, y5⟩ := L2.out.two M2.out (by omega) (.bool C.neg) (.slice e1 f1 g1) (.int .i64 C.e)
  go_wp2_with fail
  clear z0 z1 z2 z3 z4 z5 y0 y1 y2 y3 y4 y5
  obtain ⟨h1, h2, h3, h4, h5, h6⟩ := fin_cc (V := w) B1.out L2.out M2.out (by omega) (Nat.le_refl _) (by omega) N1.out N2.out
  obtain ⟨W, hW⟩ : ∃ W, W = ((((((w1.setCell ⟨w.heap.size, 0, none⟩ (.bool C.neg)).setCell ⟨w.heap.size, 1, none⟩ (.slice e1 f1 g1)).setCell ⟨w.heap.size, 2, none⟩ (.int .i64 C.e)).setCell ⟨w.heap.size + 1, 0, none⟩ (.bool E.neg)).setCell ⟨w.heap.size + 1, 1, none⟩ (.slice e2 f2 g2)).setCell ⟨w.heap.size + 1, 2, none⟩ (.int .i64 E.e)) := ⟨_, rfl⟩
  rw [← hW] at h4 h5 h6 ⊢
  clear hW
  obtain ⟨i1, i2, i3, hi, hin⟩ := h5
  obtain ⟨j1, j2, j3, hj, hjn⟩ := h6
  have HIN := Lib.hid hin
  have HJN := Lib.hid hjn
  have BW := Lib.hid h4
  obtain ⟨s0, s1, s2, -, -, -⟩ := hi.cells
  obtain ⟨r0, r1, r2, -, -, -⟩ := hj.cells
  clear hi hj hin hjn h4
  refine bodyPost_ret (v := .tuple #[.agg #[.bool C.neg, .slice i1 i2 i3, .int .i64 C.e], .agg #[.bool E.neg, .slice j1 j2 j3, .int .i64 E.e]]) (by simp [results, Tryd.results92, go_sem, s0, s1, s2, r0, r1, r2]) rfl ?_
  exact ⟨C, E, ⟨_, _, rfl, ⟨_, rfl, HIN.out⟩, ⟨_, rfl, HJN.out⟩, BW.out⟩, HK.out⟩
end Go.Proofs.YtmpdbmaokbhcjaaDoor
