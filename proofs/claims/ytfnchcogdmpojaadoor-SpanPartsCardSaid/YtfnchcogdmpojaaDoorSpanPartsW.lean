/-
  THE WALK of the law SpanParts.
-/
import Derived.Test.YtfnchcogdmpojaaDoorSl2
import Derived.Test.YtfnchcogdmpojaaDoorSe
set_option linter.unusedVariables false
set_option linter.unusedSimpArgs false
namespace Go.Proofs.YtfnchcogdmpojaaDoor
open Go.RowKit Nt Fm Fl

set_option maxRecDepth 100000 in
set_option maxHeartbeats 16000000 in
theorem walkSpanParts (a a' : Int) (a0 : 0 ≤ a) (a1 : a ≤ 18446744073709551615) (a0' : 0 ≤ a') (a1' : a' ≤ 18446744073709551615) (b b' : Int) (b0 : 0 ≤ b) (b1 : b ≤ 18446744073709551615) (b0' : 0 ≤ b') (b1' : b' ≤ 18446744073709551615) (c c' : Int) (c0 : 0 ≤ c) (c1 : c ≤ 18446744073709551615) (c0' : 0 ≤ c') (c1' : c' ≤ 18446744073709551615) (w : World) (hT : Tab w) :
    Calls Tryd.prog 4 #[.agg #[.int .u64 a, .int .u64 a'], .agg #[.int .u64 b, .int .u64 b'], .agg #[.int .u64 c, .int .u64 c']] w fun e w' => e = .returned (.bool true) ∧ Below w.heap.size w w' := by
  have L := Lib.hid (fun h1 h2 s1 s2 s3 s4 s5 s6 => spanParts_b ⟨a0, a1⟩ ⟨a0', a1'⟩ ⟨b0, b1⟩ ⟨b0', b1'⟩ ⟨c0, c1⟩ ⟨c0', c1'⟩ h1 h2 s1 s2 s3 s4 s5 s6)
  obtain ⟨g1, g2⟩ := sa_swap b b' a a'
  obtain ⟨g3, g4⟩ := ml_swap ⟨b0, b1⟩ ⟨b0', b1'⟩ ⟨a0, a1⟩ ⟨a0', a1'⟩
  have g5 := spE2_swap b b' a a'
  have F1 := Lib.hid (fun w' h => spAdd_any a a' b b' a0 a1 a0' a1' b0 b1 b0' b1' w' h)
  have F2 := Lib.hid (fun w' h => spAdd_any b b' a a' b0 b1 b0' b1' a0 a1 a0' a1' w' h)
  have F3 := Lib.hid (fun w' h => spMul_any a a' b b' a0 a1 a0' a1' b0 b1 b0' b1' w' h)
  have F4 := Lib.hid (fun w' h => spMul_any b b' a a' b0 b1 b0' b1' a0 a1 a0' a1' w' h)
  rw [g1, g2, g5] at F2
  rw [g3, g4, g5] at F4
  clear g1 g2 g3 g4 g5
  have K0 := Lib.hid (fun w' => spCheck_any c c' c0 c1 c0' c1' w')
  have F5 := Lib.hid (fun w' h => spAdd_any b b' c c' b0 b1 b0' b1' c0 c1 c0' c1' w' h)
  obtain ⟨⟨⟨p0, p1⟩, ⟨p2, p3⟩⟩, -⟩ := spanHolds_c ⟨b0, b1⟩ ⟨b0', b1'⟩ ⟨c0, c1⟩ ⟨c0', c1'⟩
  obtain ⟨-, -, ⟨⟨q0, q1⟩, ⟨q2, q3⟩⟩, -⟩ := spanHolds_c ⟨a0, a1⟩ ⟨a0', a1'⟩ ⟨b0, b1⟩ ⟨b0', b1'⟩
  obtain ⟨-, -, ⟨⟨r0, r1⟩, ⟨r2, r3⟩⟩, -⟩ := spanHolds_c ⟨a0, a1⟩ ⟨a0', a1'⟩ ⟨c0, c1⟩ ⟨c0', c1'⟩
  obtain ⟨-, -, ⟨⟨x0, x1⟩, ⟨x2, x3⟩⟩, -⟩ := spanHolds_c ⟨a0, a1⟩ ⟨a0', a1'⟩ ⟨p0, p1⟩ ⟨p2, p3⟩
  obtain ⟨⟨⟨y0, y1⟩, ⟨y2, y3⟩⟩, -⟩ := spanHolds_c ⟨q0, q1⟩ ⟨q2, q3⟩ ⟨r0, r1⟩ ⟨r2, r3⟩
  have F6 := Lib.hid (fun w' h => spMul_any a a' (saLo b b' c c') (saHi b b' c c') a0 a1 a0' a1' p0 p1 p2 p3 w' h)
  have F7 := Lib.hid (fun w' h => spMul_any a a' c c' a0 a1 a0' a1' c0 c1 c0' c1' w' h)
  have F8 := Lib.hid (fun w' h => spAdd_any (mlLo a a' b b') (mlHi a a' b b') (mlLo a a' c c') (mlHi a a' c c') q0 q1 q2 q3 r0 r1 r2 r3 w' h)
  have F9 := Lib.hid (fun w' => spWithin_any (mlLo a a' (saLo b b' c c') (saHi b b' c c')) (mlHi a a' (saLo b b' c c') (saHi b b' c c')) (saLo (mlLo a a' b b') (mlHi a a' b b') (mlLo a a' c c') (mlHi a a' c c')) (saHi (mlLo a a' b b') (mlHi a a' b b') (mlLo a a' c c') (mlHi a a' c c')) x0 x1 x2 x3 y0 y1 y2 y3 w')
  clear p0 p1 p2 p3 q0 q1 q2 q3 r0 r1 r2 r3 x0 x1 x2 x3 y0 y1 y2 y3
  have M0 := Lib.hid (fun w' h => smallW_any a a0 a1 w' h)
  have M1 := Lib.hid (fun w' h => smallW_any a' a0' a1' w' h)
  have M2 := Lib.hid (fun w' h => smallW_any b b0 b1 w' h)
  have M3 := Lib.hid (fun w' h => smallW_any b' b0' b1' w' h)
  have M4 := Lib.hid (fun w' h => smallW_any c c0 c1 w' h)
  have M5 := Lib.hid (fun w' h => smallW_any c' c0' c1' w' h)
  have j0 : ∀ w : World, (Instr.index 38 (.agg #[.int .u64 a, .int .u64 a', .int .u64 b, .int .u64 b', .int .u64 c, .int .u64 c']) (.int .i64 0)).run Tryd.prog w = .ok (.int .u64 a) w := fun _ => by kernel_rfl
  have j1 : ∀ w : World, (Instr.index 38 (.agg #[.int .u64 a, .int .u64 a', .int .u64 b, .int .u64 b', .int .u64 c, .int .u64 c']) (.int .i64 1)).run Tryd.prog w = .ok (.int .u64 a') w := fun _ => by kernel_rfl
  have j2 : ∀ w : World, (Instr.index 38 (.agg #[.int .u64 a, .int .u64 a', .int .u64 b, .int .u64 b', .int .u64 c, .int .u64 c']) (.int .i64 2)).run Tryd.prog w = .ok (.int .u64 b) w := fun _ => by kernel_rfl
  have j3 : ∀ w : World, (Instr.index 38 (.agg #[.int .u64 a, .int .u64 a', .int .u64 b, .int .u64 b', .int .u64 c, .int .u64 c']) (.int .i64 3)).run Tryd.prog w = .ok (.int .u64 b') w := fun _ => by kernel_rfl
  have j4 : ∀ w : World, (Instr.index 38 (.agg #[.int .u64 a, .int .u64 a', .int .u64 b, .int .u64 b', .int .u64 c, .int .u64 c']) (.int .i64 4)).run Tryd.prog w = .ok (.int .u64 c) w := fun _ => by kernel_rfl
  have j5 : ∀ w : World, (Instr.index 38 (.agg #[.int .u64 a, .int .u64 a', .int .u64 b, .int .u64 b', .int .u64 c, .int .u64 c']) (.int .i64 5)).run Tryd.prog w = .ok (.int .u64 c') w := fun _ => by kernel_rfl
  have HT := Lib.hid hT
  clear hT
  generalize wiB (mlLo a a' (saLo b b' c c') (saHi b b' c c')) (mlHi a a' (saLo b b' c c') (saHi b b' c c')) (saLo (mlLo a a' b b') (mlHi a a' b b') (mlLo a a' c c') (mlHi a a' c c')) (saHi (mlLo a a' b b') (mlHi a a' b b') (mlLo a a' c c') (mlHi a a' c c')) = wi at *
  generalize spE2 (mlLo a a' (saLo b b' c c') (saHi b b' c c')) (mlHi a a' (saLo b b' c c') (saHi b b' c c')) (saLo (mlLo a a' b b') (mlHi a a' b b') (mlLo a a' c c') (mlHi a a' c c')) (saHi (mlLo a a' b b') (mlHi a a' b b') (mlLo a a' c c') (mlHi a a' c c')) = e5 at *
  generalize saLo (mlLo a a' b b') (mlHi a a' b b') (mlLo a a' c c') (mlHi a a' c c') = yl at *
  generalize saHi (mlLo a a' b b') (mlHi a a' b b') (mlLo a a' c c') (mlHi a a' c c') = yh at *
  generalize spE2 (mlLo a a' b b') (mlHi a a' b b') (mlLo a a' c c') (mlHi a a' c c') = e4 at *
  generalize mlLo a a' (saLo b b' c c') (saHi b b' c c') = xl at *
  generalize mlHi a a' (saLo b b' c c') (saHi b b' c c') = xh at *
  generalize spE2 a a' (saLo b b' c c') (saHi b b' c c') = e2 at *
  generalize mlLo a a' c c' = al at *
  generalize mlHi a a' c c' = ah at *
  generalize mlLo a a' b b' = pl at *
  generalize mlHi a a' b b' = ph at *
  generalize saLo b b' c c' = bl at *
  generalize saHi b b' c c' = bh at *
  generalize saLo a a' b b' = sl at *
  generalize saHi a a' b b' = sh at *
  generalize spE2 a a' b b' = E at *
  generalize spE2 b b' c c' = e1 at *
  generalize spE2 a a' c c' = e3 at *
  generalize spE c c' = Ec at *
  generalize smB a = m0 at *
  generalize smB a' = m1 at *
  generalize smB b = m2 at *
  generalize smB b' = m3 at *
  generalize smB c = m4 at *
  generalize smB c' = m5 at *
  have hcase : (E != 0) = true ∨ (E = 0 ∧ ((Ec != 0) = true ∨ Ec = 0)) := by
    by_cases h : E = 0
    · right; refine ⟨h, ?_⟩
      by_cases h2 : Ec = 0
      · exact Or.inr h2
      · left; rw [bne_iff_ne]; exact h2
    · left; rw [bne_iff_ne]; exact h
  rcases hcase with kE | ⟨rfl, kE | rfl⟩
  · clear L j0 j1 j2 j3 j4 j5
    go_enter Tryd.func4, Tryd.ntmps4
    go_wp2_with fail
    refine (F1.out _ (HT.out.below (by go_grown))).mono ?_
    rintro r w1 ⟨rfl, hb⟩
    have S : Below w.heap.size w w1 := bl_thru (by go_grown) (Nat.le_refl _) hb
    have B := Lib.hid S
    have X_a := Lib.hid ((((Bx2.new w _ _ _).alloc _).alloc _).below hb)
    have X_b := Lib.hid (((Bx2.new2 w _ _ _ _).alloc _).below hb)
    have X_c := Lib.hid ((Bx2.new3 w _ _ _ _ _).below hb)
    clear hb S
    obtain ⟨c0_a, c1_a, -, -⟩ := X_a.out.cells
    have l_a := X_a.out.lt
    obtain ⟨c0_b, c1_b, -, -⟩ := X_b.out.cells
    have l_b := X_b.out.lt
    go_wp2_with fail
    refine (F2.out _ (HT.out.below (by have := B.out; have := B.out.size; go_grown))).mono ?_
    rintro r w2 ⟨rfl, hb⟩
    have S : Below w1.heap.size w1 w2 := bl_thru (by go_grown) (Nat.le_refl _) hb
    replace B := Lib.hid (bl_thru B.out (Nat.le_refl _) S)
    replace X_a := Lib.hid (X_a.out.below S)
    replace X_b := Lib.hid (X_b.out.below S)
    replace X_c := Lib.hid (X_c.out.below S)
    have X_s := Lib.hid ((Bx2.new w1 _ _ _).below hb)
    clear hb S c0_a c1_a l_a c0_b c1_b l_b
    obtain ⟨c0_a, c1_a, -, -⟩ := X_a.out.cells
    have l_a := X_a.out.lt
    obtain ⟨c0_b, c1_b, -, -⟩ := X_b.out.cells
    have l_b := X_b.out.lt
    go_wp2_with fail
    refine (F3.out _ (HT.out.below (by have := B.out; have := B.out.size; go_grown))).mono ?_
    rintro r w3 ⟨rfl, hb⟩
    have S : Below w2.heap.size w2 w3 := bl_thru (by go_grown) (Nat.le_refl _) hb
    replace B := Lib.hid (bl_thru B.out (Nat.le_refl _) S)
    replace X_a := Lib.hid (X_a.out.below S)
    replace X_b := Lib.hid (X_b.out.below S)
    replace X_c := Lib.hid (X_c.out.below S)
    replace X_s := Lib.hid (X_s.out.below S)
    have X_t := Lib.hid ((Bx2.new w2 _ _ _).below hb)
    clear hb S c0_a c1_a l_a c0_b c1_b l_b
    obtain ⟨c0_a, c1_a, -, -⟩ := X_a.out.cells
    have l_a := X_a.out.lt
    obtain ⟨c0_b, c1_b, -, -⟩ := X_b.out.cells
    have l_b := X_b.out.lt
    go_wp2_with fail
    refine (F4.out _ (HT.out.below (by have := B.out; have := B.out.size; go_grown))).mono ?_
    rintro r w4 ⟨rfl, hb⟩
    have S : Below w3.heap.size w3 w4 := bl_thru (by go_grown) (Nat.le_refl _) hb
    replace B := Lib.hid (bl_thru B.out (Nat.le_refl _) S)
    replace X_a := Lib.hid (X_a.out.below S)
    replace X_b := Lib.hid (X_b.out.below S)
    replace X_c := Lib.hid (X_c.out.below S)
    replace X_s := Lib.hid (X_s.out.below S)
    replace X_t := Lib.hid (X_t.out.below S)
    have X_p := Lib.hid ((Bx2.new w3 _ _ _).below hb)
    clear hb S c0_a c1_a l_a c0_b c1_b l_b
    go_wp2_with fail
    refine (spanLives_any _ (HT.out.below (by have := B.out; have := B.out.size; go_grown))).mono ?_
    rintro r w5 ⟨rfl, hb⟩
    have S : Below w4.heap.size w4 w5 := bl_thru (by go_grown) (Nat.le_refl _) hb
    replace B := Lib.hid (bl_thru B.out (Nat.le_refl _) S)
    replace X_a := Lib.hid (X_a.out.below S)
    replace X_b := Lib.hid (X_b.out.below S)
    replace X_c := Lib.hid (X_c.out.below S)
    replace X_s := Lib.hid (X_s.out.below S)
    replace X_t := Lib.hid (X_t.out.below S)
    replace X_p := Lib.hid (X_p.out.below S)
    have X_q := Lib.hid ((Bx2.new w4 _ _ _).below hb)
    clear hb S
    obtain ⟨c0_s, c1_s, -, -⟩ := X_s.out.cells
    have l_s := X_s.out.lt
    obtain ⟨c0_t, c1_t, -, -⟩ := X_t.out.cells
    have l_t := X_t.out.lt
    obtain ⟨c0_p, c1_p, -, -⟩ := X_p.out.cells
    have l_p := X_p.out.lt
    obtain ⟨c0_q, c1_q, -, -⟩ := X_q.out.cells
    have l_q := X_q.out.lt
    go_wp2
    go_ret
    exact ⟨rfl, B.out⟩
  · clear L j0 j1 j2 j3 j4 j5
    go_enter Tryd.func4, Tryd.ntmps4
    go_wp2_with fail
    refine (F1.out _ (HT.out.below (by go_grown))).mono ?_
    rintro r w1 ⟨rfl, hb⟩
    have S : Below w.heap.size w w1 := bl_thru (by go_grown) (Nat.le_refl _) hb
    have B := Lib.hid S
    have X_a := Lib.hid ((((Bx2.new w _ _ _).alloc _).alloc _).below hb)
    have X_b := Lib.hid (((Bx2.new2 w _ _ _ _).alloc _).below hb)
    have X_c := Lib.hid ((Bx2.new3 w _ _ _ _ _).below hb)
    clear hb S
    obtain ⟨c0_a, c1_a, -, -⟩ := X_a.out.cells
    have l_a := X_a.out.lt
    obtain ⟨c0_b, c1_b, -, -⟩ := X_b.out.cells
    have l_b := X_b.out.lt
    go_wp2_with fail
    refine (F2.out _ (HT.out.below (by have := B.out; have := B.out.size; go_grown))).mono ?_
    rintro r w2 ⟨rfl, hb⟩
    have S : Below w1.heap.size w1 w2 := bl_thru (by go_grown) (Nat.le_refl _) hb
    replace B := Lib.hid (bl_thru B.out (Nat.le_refl _) S)
    replace X_a := Lib.hid (X_a.out.below S)
    replace X_b := Lib.hid (X_b.out.below S)
    replace X_c := Lib.hid (X_c.out.below S)
    have X_s := Lib.hid ((Bx2.new w1 _ _ _).below hb)
    clear hb S c0_a c1_a l_a c0_b c1_b l_b
    obtain ⟨c0_a, c1_a, -, -⟩ := X_a.out.cells
    have l_a := X_a.out.lt
    obtain ⟨c0_b, c1_b, -, -⟩ := X_b.out.cells
    have l_b := X_b.out.lt
    go_wp2_with fail
    refine (F3.out _ (HT.out.below (by have := B.out; have := B.out.size; go_grown))).mono ?_
    rintro r w3 ⟨rfl, hb⟩
    have S : Below w2.heap.size w2 w3 := bl_thru (by go_grown) (Nat.le_refl _) hb
    replace B := Lib.hid (bl_thru B.out (Nat.le_refl _) S)
    replace X_a := Lib.hid (X_a.out.below S)
    replace X_b := Lib.hid (X_b.out.below S)
    replace X_c := Lib.hid (X_c.out.below S)
    replace X_s := Lib.hid (X_s.out.below S)
    have X_t := Lib.hid ((Bx2.new w2 _ _ _).below hb)
    clear hb S c0_a c1_a l_a c0_b c1_b l_b
    obtain ⟨c0_a, c1_a, -, -⟩ := X_a.out.cells
    have l_a := X_a.out.lt
    obtain ⟨c0_b, c1_b, -, -⟩ := X_b.out.cells
    have l_b := X_b.out.lt
    go_wp2_with fail
    refine (F4.out _ (HT.out.below (by have := B.out; have := B.out.size; go_grown))).mono ?_
    rintro r w4 ⟨rfl, hb⟩
    have S : Below w3.heap.size w3 w4 := bl_thru (by go_grown) (Nat.le_refl _) hb
    replace B := Lib.hid (bl_thru B.out (Nat.le_refl _) S)
    replace X_a := Lib.hid (X_a.out.below S)
    replace X_b := Lib.hid (X_b.out.below S)
    replace X_c := Lib.hid (X_c.out.below S)
    replace X_s := Lib.hid (X_s.out.below S)
    replace X_t := Lib.hid (X_t.out.below S)
    have X_p := Lib.hid ((Bx2.new w3 _ _ _).below hb)
    clear hb S c0_a c1_a l_a c0_b c1_b l_b
    go_wp2_with fail
    refine (spanLives_any _ (HT.out.below (by have := B.out; have := B.out.size; go_grown))).mono ?_
    rintro r w5 ⟨rfl, hb⟩
    have S : Below w4.heap.size w4 w5 := bl_thru (by go_grown) (Nat.le_refl _) hb
    replace B := Lib.hid (bl_thru B.out (Nat.le_refl _) S)
    replace X_a := Lib.hid (X_a.out.below S)
    replace X_b := Lib.hid (X_b.out.below S)
    replace X_c := Lib.hid (X_c.out.below S)
    replace X_s := Lib.hid (X_s.out.below S)
    replace X_t := Lib.hid (X_t.out.below S)
    replace X_p := Lib.hid (X_p.out.below S)
    have X_q := Lib.hid ((Bx2.new w4 _ _ _).below hb)
    clear hb S
    obtain ⟨c0_s, c1_s, -, -⟩ := X_s.out.cells
    have l_s := X_s.out.lt
    obtain ⟨c0_t, c1_t, -, -⟩ := X_t.out.cells
    have l_t := X_t.out.lt
    obtain ⟨c0_p, c1_p, -, -⟩ := X_p.out.cells
    have l_p := X_p.out.lt
    obtain ⟨c0_q, c1_q, -, -⟩ := X_q.out.cells
    have l_q := X_q.out.lt
    obtain ⟨c0_c, c1_c, -, -⟩ := X_c.out.cells
    have l_c := X_c.out.lt
    go_wp2_with fail
    refine (K0.out _).mono ?_
    rintro r w6 ⟨rfl, hb⟩
    have S : Below w5.heap.size w5 w6 := hb
    replace B := Lib.hid (bl_thru B.out (Nat.le_refl _) S)
    clear X_a
    clear X_b
    clear X_c
    clear X_s
    clear X_t
    clear X_p
    clear X_q
    clear hb S c0_s c1_s l_s c0_t c1_t l_t c0_p c1_p l_p c0_q c1_q l_q c0_c c1_c l_c
    go_wp2
    go_ret
    exact ⟨rfl, B.out⟩
  · have L2 := Lib.hid (L.out rfl rfl)
    clear L
    go_enter Tryd.func4, Tryd.ntmps4
    go_wp2_with fail
    refine (F1.out _ (HT.out.below (by go_grown))).mono ?_
    rintro r w1 ⟨rfl, hb⟩
    have S : Below w.heap.size w w1 := bl_thru (by go_grown) (Nat.le_refl _) hb
    have B := Lib.hid S
    have X_a := Lib.hid ((((Bx2.new w _ _ _).alloc _).alloc _).below hb)
    have X_b := Lib.hid (((Bx2.new2 w _ _ _ _).alloc _).below hb)
    have X_c := Lib.hid ((Bx2.new3 w _ _ _ _ _).below hb)
    clear hb S
    obtain ⟨c0_a, c1_a, -, -⟩ := X_a.out.cells
    have l_a := X_a.out.lt
    obtain ⟨c0_b, c1_b, -, -⟩ := X_b.out.cells
    have l_b := X_b.out.lt
    go_wp2_with fail
    refine (F2.out _ (HT.out.below (by have := B.out; have := B.out.size; go_grown))).mono ?_
    rintro r w2 ⟨rfl, hb⟩
    have S : Below w1.heap.size w1 w2 := bl_thru (by go_grown) (Nat.le_refl _) hb
    replace B := Lib.hid (bl_thru B.out (Nat.le_refl _) S)
    replace X_a := Lib.hid (X_a.out.below S)
    replace X_b := Lib.hid (X_b.out.below S)
    replace X_c := Lib.hid (X_c.out.below S)
    have X_s := Lib.hid ((Bx2.new w1 _ _ _).below hb)
    clear hb S c0_a c1_a l_a c0_b c1_b l_b
    obtain ⟨c0_a, c1_a, -, -⟩ := X_a.out.cells
    have l_a := X_a.out.lt
    obtain ⟨c0_b, c1_b, -, -⟩ := X_b.out.cells
    have l_b := X_b.out.lt
    go_wp2_with fail
    refine (F3.out _ (HT.out.below (by have := B.out; have := B.out.size; go_grown))).mono ?_
    rintro r w3 ⟨rfl, hb⟩
    have S : Below w2.heap.size w2 w3 := bl_thru (by go_grown) (Nat.le_refl _) hb
    replace B := Lib.hid (bl_thru B.out (Nat.le_refl _) S)
    replace X_a := Lib.hid (X_a.out.below S)
    replace X_b := Lib.hid (X_b.out.below S)
    replace X_c := Lib.hid (X_c.out.below S)
    replace X_s := Lib.hid (X_s.out.below S)
    have X_t := Lib.hid ((Bx2.new w2 _ _ _).below hb)
    clear hb S c0_a c1_a l_a c0_b c1_b l_b
    obtain ⟨c0_a, c1_a, -, -⟩ := X_a.out.cells
    have l_a := X_a.out.lt
    obtain ⟨c0_b, c1_b, -, -⟩ := X_b.out.cells
    have l_b := X_b.out.lt
    go_wp2_with fail
    refine (F4.out _ (HT.out.below (by have := B.out; have := B.out.size; go_grown))).mono ?_
    rintro r w4 ⟨rfl, hb⟩
    have S : Below w3.heap.size w3 w4 := bl_thru (by go_grown) (Nat.le_refl _) hb
    replace B := Lib.hid (bl_thru B.out (Nat.le_refl _) S)
    replace X_a := Lib.hid (X_a.out.below S)
    replace X_b := Lib.hid (X_b.out.below S)
    replace X_c := Lib.hid (X_c.out.below S)
    replace X_s := Lib.hid (X_s.out.below S)
    replace X_t := Lib.hid (X_t.out.below S)
    have X_p := Lib.hid ((Bx2.new w3 _ _ _).below hb)
    clear hb S c0_a c1_a l_a c0_b c1_b l_b
    go_wp2_with fail
    refine (spanLives_any _ (HT.out.below (by have := B.out; have := B.out.size; go_grown))).mono ?_
    rintro r w5 ⟨rfl, hb⟩
    have S : Below w4.heap.size w4 w5 := bl_thru (by go_grown) (Nat.le_refl _) hb
    replace B := Lib.hid (bl_thru B.out (Nat.le_refl _) S)
    replace X_a := Lib.hid (X_a.out.below S)
    replace X_b := Lib.hid (X_b.out.below S)
    replace X_c := Lib.hid (X_c.out.below S)
    replace X_s := Lib.hid (X_s.out.below S)
    replace X_t := Lib.hid (X_t.out.below S)
    replace X_p := Lib.hid (X_p.out.below S)
    have X_q := Lib.hid ((Bx2.new w4 _ _ _).below hb)
    clear hb S
    obtain ⟨c0_s, c1_s, -, -⟩ := X_s.out.cells
    have l_s := X_s.out.lt
    obtain ⟨c0_t, c1_t, -, -⟩ := X_t.out.cells
    have l_t := X_t.out.lt
    obtain ⟨c0_p, c1_p, -, -⟩ := X_p.out.cells
    have l_p := X_p.out.lt
    obtain ⟨c0_q, c1_q, -, -⟩ := X_q.out.cells
    have l_q := X_q.out.lt
    obtain ⟨c0_c, c1_c, -, -⟩ := X_c.out.cells
    have l_c := X_c.out.lt
    go_wp2_with fail
    refine (K0.out _).mono ?_
    rintro r w6 ⟨rfl, hb⟩
    have S : Below w5.heap.size w5 w6 := hb
    replace B := Lib.hid (bl_thru B.out (Nat.le_refl _) S)
    replace X_a := Lib.hid (X_a.out.below S)
    replace X_b := Lib.hid (X_b.out.below S)
    replace X_c := Lib.hid (X_c.out.below S)
    clear X_s
    clear X_t
    replace X_p := Lib.hid (X_p.out.below S)
    clear X_q
    clear hb S c0_s c1_s l_s c0_t c1_t l_t c0_p c1_p l_p c0_q c1_q l_q c0_c c1_c l_c
    obtain ⟨c0_a, c1_a, -, -⟩ := X_a.out.cells
    have l_a := X_a.out.lt
    obtain ⟨c0_b, c1_b, -, -⟩ := X_b.out.cells
    have l_b := X_b.out.lt
    obtain ⟨c0_c, c1_c, -, -⟩ := X_c.out.cells
    have l_c := X_c.out.lt
    go_wp2
    clear c0_a c1_a l_a c0_b c1_b l_b c0_c c1_c l_c
    go_loopw [94] (fun i wr => ∃ k : Nat, k ≤ 6 ∧ i = .int .i64 k ∧ Hid ((1 ≤ k → m0 = true) ∧ (2 ≤ k → m1 = true) ∧ (3 ≤ k → m2 = true) ∧ (4 ≤ k → m3 = true) ∧ (5 ≤ k → m4 = true) ∧ (6 ≤ k → m5 = true)) ∧ Hid (Bx2 wr w.heap.size 24 (.int .u64 a) (.int .u64 a')) ∧ Hid (Bx2 wr (w.heap.size + 1) 24 (.int .u64 b) (.int .u64 b')) ∧ Hid (Bx2 wr (w.heap.size + 1 + 1) 24 (.int .u64 c) (.int .u64 c')) ∧ Hid (Bx2 wr w3.heap.size 24 (.int .u64 pl) (.int .u64 ph)) ∧ Hid (Below w.heap.size w wr)) (fun i _ => 6 - (intOf i).toNat)
    case atStart => exact ⟨0, by omega, rfl, Lib.hid ⟨by omega, by omega, by omega, by omega, by omega, by omega⟩, X_a, X_b, X_c, X_p, B⟩
    case round =>
      clear X_a X_b X_c X_p B
      obtain ⟨k, hk, rfl, HM, X_a, X_b, X_c, X_p, B⟩ := hrel
      have hk6 : k = 0 ∨ k = 1 ∨ k = 2 ∨ k = 3 ∨ k = 4 ∨ k = 5 ∨ k = 6 := by omega
      rcases hk6 with rfl | rfl | rfl | rfl | rfl | rfl | rfl
      · have hm := HM.out
        clear HM
        cases hq : m0
        · rw [hq] at M0
          clear hm hq
          go_wp2_with fail
          refine (M0.out _ (HT.out.below B.out)).mono ?_
          rintro r w11 ⟨rfl, hb⟩
          have S : Below wr.heap.size wr w11 := hb
          replace B := Lib.hid (bl_thru B.out (Nat.le_refl _) S)
          clear X_a
          clear X_b
          clear X_c
          clear X_p
          clear hb S
          go_wp2
          go_ret
          exact ⟨rfl, B.out⟩
        · rw [hq] at M0
          have HQ := Lib.hid hq
          have HM := Lib.hid hm
          clear hm hq
          go_wp2_with fail
          refine (M0.out _ (HT.out.below B.out)).mono ?_
          rintro r w11 ⟨rfl, hb⟩
          have S : Below wr.heap.size wr w11 := hb
          replace B := Lib.hid (bl_thru B.out (Nat.le_refl _) S)
          replace X_a := Lib.hid (X_a.out.below S)
          replace X_b := Lib.hid (X_b.out.below S)
          replace X_c := Lib.hid (X_c.out.below S)
          replace X_p := Lib.hid (X_p.out.below S)
          clear hb S
          go_wp2
          go_roundw
          case rel => exact ⟨1, by omega, by go_num, Lib.hid ⟨fun _ => (by first | exact HQ.out | trivial), fun h => absurd h (by decide), fun h => absurd h (by decide), fun h => absurd h (by decide), fun h => absurd h (by decide), fun h => absurd h (by decide)⟩, X_a, X_b, X_c, X_p, B⟩
          case measure => simp [intOf]
      · have hm := HM.out
        clear HM
        cases hq : m1
        · rw [hq] at M1
          clear hm hq
          go_wp2_with fail
          refine (M1.out _ (HT.out.below B.out)).mono ?_
          rintro r w11 ⟨rfl, hb⟩
          have S : Below wr.heap.size wr w11 := hb
          replace B := Lib.hid (bl_thru B.out (Nat.le_refl _) S)
          clear X_a
          clear X_b
          clear X_c
          clear X_p
          clear hb S
          go_wp2
          go_ret
          exact ⟨rfl, B.out⟩
        · rw [hq] at M1
          have HQ := Lib.hid hq
          have HM := Lib.hid hm
          clear hm hq
          go_wp2_with fail
          refine (M1.out _ (HT.out.below B.out)).mono ?_
          rintro r w11 ⟨rfl, hb⟩
          have S : Below wr.heap.size wr w11 := hb
          replace B := Lib.hid (bl_thru B.out (Nat.le_refl _) S)
          replace X_a := Lib.hid (X_a.out.below S)
          replace X_b := Lib.hid (X_b.out.below S)
          replace X_c := Lib.hid (X_c.out.below S)
          replace X_p := Lib.hid (X_p.out.below S)
          clear hb S
          go_wp2
          go_roundw
          case rel => exact ⟨2, by omega, by go_num, Lib.hid ⟨fun _ => HM.out.1 (by omega), fun _ => (by first | exact HQ.out | trivial), fun h => absurd h (by decide), fun h => absurd h (by decide), fun h => absurd h (by decide), fun h => absurd h (by decide)⟩, X_a, X_b, X_c, X_p, B⟩
          case measure => simp [intOf]
      · have hm := HM.out
        clear HM
        cases hq : m2
        · rw [hq] at M2
          clear hm hq
          go_wp2_with fail
          refine (M2.out _ (HT.out.below B.out)).mono ?_
          rintro r w11 ⟨rfl, hb⟩
          have S : Below wr.heap.size wr w11 := hb
          replace B := Lib.hid (bl_thru B.out (Nat.le_refl _) S)
          clear X_a
          clear X_b
          clear X_c
          clear X_p
          clear hb S
          go_wp2
          go_ret
          exact ⟨rfl, B.out⟩
        · rw [hq] at M2
          have HQ := Lib.hid hq
          have HM := Lib.hid hm
          clear hm hq
          go_wp2_with fail
          refine (M2.out _ (HT.out.below B.out)).mono ?_
          rintro r w11 ⟨rfl, hb⟩
          have S : Below wr.heap.size wr w11 := hb
          replace B := Lib.hid (bl_thru B.out (Nat.le_refl _) S)
          replace X_a := Lib.hid (X_a.out.below S)
          replace X_b := Lib.hid (X_b.out.below S)
          replace X_c := Lib.hid (X_c.out.below S)
          replace X_p := Lib.hid (X_p.out.below S)
          clear hb S
          go_wp2
          go_roundw
          case rel => exact ⟨3, by omega, by go_num, Lib.hid ⟨fun _ => HM.out.1 (by omega), fun _ => HM.out.2.1 (by omega), fun _ => (by first | exact HQ.out | trivial), fun h => absurd h (by decide), fun h => absurd h (by decide), fun h => absurd h (by decide)⟩, X_a, X_b, X_c, X_p, B⟩
          case measure => simp [intOf]
      · have hm := HM.out
        clear HM
        cases hq : m3
        · rw [hq] at M3
          clear hm hq
          go_wp2_with fail
          refine (M3.out _ (HT.out.below B.out)).mono ?_
          rintro r w11 ⟨rfl, hb⟩
          have S : Below wr.heap.size wr w11 := hb
          replace B := Lib.hid (bl_thru B.out (Nat.le_refl _) S)
          clear X_a
          clear X_b
          clear X_c
          clear X_p
          clear hb S
          go_wp2
          go_ret
          exact ⟨rfl, B.out⟩
        · rw [hq] at M3
          have HQ := Lib.hid hq
          have HM := Lib.hid hm
          clear hm hq
          go_wp2_with fail
          refine (M3.out _ (HT.out.below B.out)).mono ?_
          rintro r w11 ⟨rfl, hb⟩
          have S : Below wr.heap.size wr w11 := hb
          replace B := Lib.hid (bl_thru B.out (Nat.le_refl _) S)
          replace X_a := Lib.hid (X_a.out.below S)
          replace X_b := Lib.hid (X_b.out.below S)
          replace X_c := Lib.hid (X_c.out.below S)
          replace X_p := Lib.hid (X_p.out.below S)
          clear hb S
          go_wp2
          go_roundw
          case rel => exact ⟨4, by omega, by go_num, Lib.hid ⟨fun _ => HM.out.1 (by omega), fun _ => HM.out.2.1 (by omega), fun _ => HM.out.2.2.1 (by omega), fun _ => (by first | exact HQ.out | trivial), fun h => absurd h (by decide), fun h => absurd h (by decide)⟩, X_a, X_b, X_c, X_p, B⟩
          case measure => simp [intOf]
      · have hm := HM.out
        clear HM
        cases hq : m4
        · rw [hq] at M4
          clear hm hq
          go_wp2_with fail
          refine (M4.out _ (HT.out.below B.out)).mono ?_
          rintro r w11 ⟨rfl, hb⟩
          have S : Below wr.heap.size wr w11 := hb
          replace B := Lib.hid (bl_thru B.out (Nat.le_refl _) S)
          clear X_a
          clear X_b
          clear X_c
          clear X_p
          clear hb S
          go_wp2
          go_ret
          exact ⟨rfl, B.out⟩
        · rw [hq] at M4
          have HQ := Lib.hid hq
          have HM := Lib.hid hm
          clear hm hq
          go_wp2_with fail
          refine (M4.out _ (HT.out.below B.out)).mono ?_
          rintro r w11 ⟨rfl, hb⟩
          have S : Below wr.heap.size wr w11 := hb
          replace B := Lib.hid (bl_thru B.out (Nat.le_refl _) S)
          replace X_a := Lib.hid (X_a.out.below S)
          replace X_b := Lib.hid (X_b.out.below S)
          replace X_c := Lib.hid (X_c.out.below S)
          replace X_p := Lib.hid (X_p.out.below S)
          clear hb S
          go_wp2
          go_roundw
          case rel => exact ⟨5, by omega, by go_num, Lib.hid ⟨fun _ => HM.out.1 (by omega), fun _ => HM.out.2.1 (by omega), fun _ => HM.out.2.2.1 (by omega), fun _ => HM.out.2.2.2.1 (by omega), fun _ => (by first | exact HQ.out | trivial), fun h => absurd h (by decide)⟩, X_a, X_b, X_c, X_p, B⟩
          case measure => simp [intOf]
      · have hm := HM.out
        clear HM
        cases hq : m5
        · rw [hq] at M5
          clear hm hq
          go_wp2_with fail
          refine (M5.out _ (HT.out.below B.out)).mono ?_
          rintro r w11 ⟨rfl, hb⟩
          have S : Below wr.heap.size wr w11 := hb
          replace B := Lib.hid (bl_thru B.out (Nat.le_refl _) S)
          clear X_a
          clear X_b
          clear X_c
          clear X_p
          clear hb S
          go_wp2
          go_ret
          exact ⟨rfl, B.out⟩
        · rw [hq] at M5
          have HQ := Lib.hid hq
          have HM := Lib.hid hm
          clear hm hq
          go_wp2_with fail
          refine (M5.out _ (HT.out.below B.out)).mono ?_
          rintro r w11 ⟨rfl, hb⟩
          have S : Below wr.heap.size wr w11 := hb
          replace B := Lib.hid (bl_thru B.out (Nat.le_refl _) S)
          replace X_a := Lib.hid (X_a.out.below S)
          replace X_b := Lib.hid (X_b.out.below S)
          replace X_c := Lib.hid (X_c.out.below S)
          replace X_p := Lib.hid (X_p.out.below S)
          clear hb S
          go_wp2
          go_roundw
          case rel => exact ⟨6, by omega, by go_num, Lib.hid ⟨fun _ => HM.out.1 (by omega), fun _ => HM.out.2.1 (by omega), fun _ => HM.out.2.2.1 (by omega), fun _ => HM.out.2.2.2.1 (by omega), fun _ => HM.out.2.2.2.2.1 (by omega), fun _ => (by first | exact HQ.out | trivial)⟩, X_a, X_b, X_c, X_p, B⟩
          case measure => simp [intOf]
      · obtain ⟨t1, t2, t3, t4, t5, t6⟩ := HM.out
        obtain ⟨rfl, rfl, rfl, rfl, rfl, rfl⟩ := L2.out (t1 (by omega)) (t2 (by omega)) (t3 (by omega)) (t4 (by omega)) (t5 (by omega)) (t6 (by omega))
        clear L2 HM t1 t2 t3 t4 t5 t6 j0 j1 j2 j3 j4 j5
        obtain ⟨c0_b, c1_b, -, -⟩ := X_b.out.cells
        have l_b := X_b.out.lt
        obtain ⟨c0_c, c1_c, -, -⟩ := X_c.out.cells
        have l_c := X_c.out.lt
        go_wp2_with fail
        refine (F5.out _ (HT.out.below B.out)).mono ?_
        rintro r w11 ⟨rfl, hb⟩
        have S : Below wr.heap.size wr w11 := hb
        replace B := Lib.hid (bl_thru B.out (Nat.le_refl _) S)
        replace X_a := Lib.hid (X_a.out.below S)
        replace X_b := Lib.hid (X_b.out.below S)
        replace X_c := Lib.hid (X_c.out.below S)
        replace X_p := Lib.hid (X_p.out.below S)
        clear hb S c0_b c1_b l_b c0_c c1_c l_c
        obtain ⟨c0_a, c1_a, -, -⟩ := X_a.out.cells
        have l_a := X_a.out.lt
        go_wp2_with fail
        refine (F6.out _ (HT.out.below (by have := B.out; have := B.out.size; go_grown))).mono ?_
        rintro r w12 ⟨rfl, hb⟩
        have S : Below w11.heap.size w11 w12 := bl_thru (by go_grown) (Nat.le_refl _) hb
        replace B := Lib.hid (bl_thru B.out (Nat.le_refl _) S)
        replace X_a := Lib.hid (X_a.out.below S)
        replace X_b := Lib.hid (X_b.out.below S)
        replace X_c := Lib.hid (X_c.out.below S)
        replace X_p := Lib.hid (X_p.out.below S)
        have X_d := Lib.hid ((Bx2.new w11 _ _ _).below hb)
        clear hb S c0_a c1_a l_a
        obtain ⟨c0_a, c1_a, -, -⟩ := X_a.out.cells
        have l_a := X_a.out.lt
        obtain ⟨c0_c, c1_c, -, -⟩ := X_c.out.cells
        have l_c := X_c.out.lt
        go_wp2_with fail
        refine (F7.out _ (HT.out.below (by have := B.out; have := B.out.size; go_grown))).mono ?_
        rintro r w13 ⟨rfl, hb⟩
        have S : Below w12.heap.size w12 w13 := bl_thru (by go_grown) (Nat.le_refl _) hb
        replace B := Lib.hid (bl_thru B.out (Nat.le_refl _) S)
        replace X_a := Lib.hid (X_a.out.below S)
        replace X_b := Lib.hid (X_b.out.below S)
        replace X_c := Lib.hid (X_c.out.below S)
        replace X_p := Lib.hid (X_p.out.below S)
        replace X_d := Lib.hid (X_d.out.below S)
        have X_x := Lib.hid ((Bx2.new w12 _ _ _).below hb)
        clear hb S c0_a c1_a l_a c0_c c1_c l_c
        obtain ⟨c0_p, c1_p, -, -⟩ := X_p.out.cells
        have l_p := X_p.out.lt
        go_wp2_with fail
        refine (F8.out _ (HT.out.below (by have := B.out; have := B.out.size; go_grown))).mono ?_
        rintro r w14 ⟨rfl, hb⟩
        have S : Below w13.heap.size w13 w14 := bl_thru (by go_grown) (Nat.le_refl _) hb
        replace B := Lib.hid (bl_thru B.out (Nat.le_refl _) S)
        replace X_a := Lib.hid (X_a.out.below S)
        replace X_b := Lib.hid (X_b.out.below S)
        replace X_c := Lib.hid (X_c.out.below S)
        replace X_p := Lib.hid (X_p.out.below S)
        replace X_d := Lib.hid (X_d.out.below S)
        replace X_x := Lib.hid (X_x.out.below S)
        have X_e := Lib.hid ((Bx2.new w13 _ _ _).below hb)
        clear hb S c0_p c1_p l_p
        obtain ⟨c0_x, c1_x, -, -⟩ := X_x.out.cells
        have l_x := X_x.out.lt
        go_wp2_with fail
        refine (F9.out _).mono ?_
        rintro r w15 ⟨rfl, hb⟩
        have S : Below w14.heap.size w14 w15 := bl_thru (by go_grown) (Nat.le_refl _) hb
        replace B := Lib.hid (bl_thru B.out (Nat.le_refl _) S)
        clear X_a
        clear X_b
        clear X_c
        clear X_p
        clear X_d
        clear X_x
        clear X_e
        clear hb S c0_x c1_x l_x
        go_wp2_with (go_at_call 15; refine (ok_new5 _ _ _ _ _  _ _ rfl).mono ?_; rintro e w' ⟨rfl, rfl⟩)
        go_ret
        exact ⟨rfl, (by have := B.out; have := B.out.size; go_grown)⟩
end Go.Proofs.YtfnchcogdmpojaaDoor
