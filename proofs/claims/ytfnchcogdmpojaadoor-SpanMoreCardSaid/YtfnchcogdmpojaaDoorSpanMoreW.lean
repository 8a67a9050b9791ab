/-
  THE WALK of the law SpanMore.
-/
import Derived.Test.YtfnchcogdmpojaaDoorSl2
import Derived.Test.YtfnchcogdmpojaaDoorSk
set_option linter.unusedVariables false
set_option linter.unusedSimpArgs false
namespace Go.Proofs.YtfnchcogdmpojaaDoor
open Go.RowKit Nt Fm Fl

set_option maxRecDepth 100000 in
set_option maxHeartbeats 16000000 in
theorem walkSpanMore (a a' : Int) (a0 : 0 ≤ a) (a1 : a ≤ 18446744073709551615) (a0' : 0 ≤ a') (a1' : a' ≤ 18446744073709551615) (b b' : Int) (b0 : 0 ≤ b) (b1 : b ≤ 18446744073709551615) (b0' : 0 ≤ b') (b1' : b' ≤ 18446744073709551615) (c c' : Int) (c0 : 0 ≤ c) (c1 : c ≤ 18446744073709551615) (c0' : 0 ≤ c') (c1' : c' ≤ 18446744073709551615) (w : World) (hT : Tab w) :
    Calls Tryd.prog 6 #[.agg #[.int .u64 a, .int .u64 a'], .agg #[.int .u64 b, .int .u64 b'], .agg #[.int .u64 c, .int .u64 c']] w fun e w' => e = .returned (.bool true) ∧ Below w.heap.size w w' := by
  have L := Lib.hid (fun h1 h2 h3 => spanMore_a ⟨a0, a1⟩ ⟨a0', a1'⟩ ⟨b0, b1⟩ ⟨b0', b1'⟩ ⟨c0, c1⟩ ⟨c0', c1'⟩ h1 h2 h3)
  have W0 := Lib.hid (fun w' => spWithin_any a a' b b' a0 a1 a0' a1' b0 b1 b0' b1' w')
  have K0 := Lib.hid (fun w' => spCheck_any c c' c0 c1 c0' c1' w')
  obtain ⟨⟨⟨p0, p1⟩, ⟨p2, p3⟩⟩, ⟨⟨p4, p5⟩, ⟨p6, p7⟩⟩, ⟨⟨p8, p9⟩, ⟨q0, q1⟩⟩, -⟩ := spanHolds_c ⟨a0, a1⟩ ⟨a0', a1'⟩ ⟨c0, c1⟩ ⟨c0', c1'⟩
  obtain ⟨⟨⟨r0, r1⟩, ⟨r2, r3⟩⟩, ⟨⟨r4, r5⟩, ⟨r6, r7⟩⟩, ⟨⟨r8, r9⟩, ⟨s0, s1⟩⟩, -⟩ := spanHolds_c ⟨b0, b1⟩ ⟨b0', b1'⟩ ⟨c0, c1⟩ ⟨c0', c1'⟩
  obtain ⟨⟨⟨t0, t1⟩, ⟨t2, t3⟩⟩, -⟩ := spanJoins_u ⟨a0, a1⟩ ⟨a0', a1'⟩ ⟨c0, c1⟩ ⟨c0', c1'⟩
  obtain ⟨⟨⟨t4, t5⟩, ⟨t6, t7⟩⟩, -⟩ := spanJoins_u ⟨b0, b1⟩ ⟨b0', b1'⟩ ⟨c0, c1⟩ ⟨c0', c1'⟩
  obtain ⟨-, -, -, ⟨⟨u0, u1⟩, ⟨u2, u3⟩⟩⟩ := spanHolds_c ⟨c0, c1⟩ ⟨c0', c1'⟩ ⟨a0, a1⟩ ⟨a0', a1'⟩
  obtain ⟨-, -, -, ⟨⟨u4, u5⟩, ⟨u6, u7⟩⟩⟩ := spanHolds_c ⟨c0, c1⟩ ⟨c0', c1'⟩ ⟨b0, b1⟩ ⟨b0', b1'⟩
  have F0a := Lib.hid (fun w' h => spAdd_any a a' c c' a0 a1 a0' a1' c0 c1 c0' c1' w' h)
  have F0b := Lib.hid (fun w' h => spAdd_any b b' c c' b0 b1 b0' b1' c0 c1 c0' c1' w' h)
  have W1 := Lib.hid (fun w' => spWithin_any (saLo a a' c c') (saHi a a' c c') (saLo b b' c c') (saHi b b' c c') p0 p1 p2 p3 r0 r1 r2 r3 w')
  have F1a := Lib.hid (fun w' h => spSub_any a a' c c' a0 a1 a0' a1' c0 c1 c0' c1' w' h)
  have F1b := Lib.hid (fun w' h => spSub_any b b' c c' b0 b1 b0' b1' c0 c1 c0' c1' w' h)
  have W2 := Lib.hid (fun w' => spWithin_any (suLo a a' c c') (suHi a a' c c') (suLo b b' c c') (suHi b b' c c') p4 p5 p6 p7 r4 r5 r6 r7 w')
  have F2a := Lib.hid (fun w' h => spMul_any a a' c c' a0 a1 a0' a1' c0 c1 c0' c1' w' h)
  have F2b := Lib.hid (fun w' h => spMul_any b b' c c' b0 b1 b0' b1' c0 c1 c0' c1' w' h)
  have W3 := Lib.hid (fun w' => spWithin_any (mlLo a a' c c') (mlHi a a' c c') (mlLo b b' c c') (mlHi b b' c c') p8 p9 q0 q1 r8 r9 s0 s1 w')
  have F3a := Lib.hid (fun w'  => spHull_any a a' c c' a0 a1 a0' a1' c0 c1 c0' c1' w' )
  have F3b := Lib.hid (fun w'  => spHull_any b b' c c' b0 b1 b0' b1' c0 c1 c0' c1' w' )
  have W4 := Lib.hid (fun w' => spWithin_any (huLo a a' c c') (huHi a a' c c') (huLo b b' c c') (huHi b b' c c') t0 t1 t2 t3 t4 t5 t6 t7 w')
  have Da := Lib.hid (fun w' h => spDiv_any c c' a a' c0 c1 c0' c1' a0 a1 a0' a1' w' h)
  have Db := Lib.hid (fun w' h => spDiv_any c c' b b' c0 c1 c0' c1' b0 b1 b0' b1' w' h)
  have W5 := Lib.hid (fun w' => spWithin_any (diLo c c' a a') (diHi c c' a a') (diLo c c' b b') (diHi c c' b b') u0 u1 u2 u3 u4 u5 u6 u7 w')
  clear p0 p1 p2 p3 p4 p5 p6 p7 p8 p9 q0 q1 r0 r1 r2 r3 r4 r5 r6 r7 r8 r9 s0 s1 t0 t1 t2 t3 t4 t5 t6 t7 u0 u1 u2 u3 u4 u5 u6 u7
  have HT := Lib.hid hT
  clear hT
  generalize spE2 (saLo a a' c c') (saHi a a' c c') (saLo b b' c c') (saHi b b' c c') = x0 at *
  generalize wiB (saLo a a' c c') (saHi a a' c c') (saLo b b' c c') (saHi b b' c c') = i0 at *
  generalize spE2 (suLo a a' c c') (suHi a a' c c') (suLo b b' c c') (suHi b b' c c') = x1 at *
  generalize wiB (suLo a a' c c') (suHi a a' c c') (suLo b b' c c') (suHi b b' c c') = i1 at *
  generalize spE2 (mlLo a a' c c') (mlHi a a' c c') (mlLo b b' c c') (mlHi b b' c c') = x2 at *
  generalize wiB (mlLo a a' c c') (mlHi a a' c c') (mlLo b b' c c') (mlHi b b' c c') = i2 at *
  generalize spE2 (huLo a a' c c') (huHi a a' c c') (huLo b b' c c') (huHi b b' c c') = x3 at *
  generalize wiB (huLo a a' c c') (huHi a a' c c') (huLo b b' c c') (huHi b b' c c') = i3 at *
  generalize spE2 (diLo c c' a a') (diHi c c' a a') (diLo c c' b b') (diHi c c' b b') = x4 at *
  generalize wiB (diLo c c' a a') (diHi c c' a a') (diLo c c' b b') (diHi c c' b b') = i4 at *
  generalize saLo a a' c c' = l0a at *
  generalize saHi a a' c c' = h0a at *
  generalize saLo b b' c c' = l0b at *
  generalize saHi b b' c c' = h0b at *
  generalize suLo a a' c c' = l1a at *
  generalize suHi a a' c c' = h1a at *
  generalize suLo b b' c c' = l1b at *
  generalize suHi b b' c c' = h1b at *
  generalize mlLo a a' c c' = l2a at *
  generalize mlHi a a' c c' = h2a at *
  generalize mlLo b b' c c' = l2b at *
  generalize mlHi b b' c c' = h2b at *
  generalize huLo a a' c c' = l3a at *
  generalize huHi a a' c c' = h3a at *
  generalize huLo b b' c c' = l3b at *
  generalize huHi b b' c c' = h3b at *
  generalize diLo c c' a a' = l4a at *
  generalize diHi c c' a a' = h4a at *
  generalize diE c c' a a' = da at *
  generalize diLo c c' b b' = l4b at *
  generalize diHi c c' b b' = h4b at *
  generalize diE c c' b b' = db at *
  generalize spE2 a a' b b' = E at *
  generalize wiB a a' b b' = wi at *
  generalize spE c c' = Ec at *
  generalize spE2 a a' c c' = ea at *
  generalize spE2 b b' c c' = eb at *
  generalize suE a a' c c' = sa at *
  generalize suE b b' c c' = sb at *
  have hcase : (E != 0) = true ∨ (E = 0 ∧ (wi = false ∨ (wi = true ∧ ((Ec != 0) = true ∨ Ec = 0)))) := by
    by_cases h : E = 0
    · right; refine ⟨h, ?_⟩
      cases wi
      · exact Or.inl rfl
      · right; refine ⟨rfl, ?_⟩
        by_cases h2 : Ec = 0
        · exact Or.inr h2
        · left; rw [bne_iff_ne]; exact h2
    · left; rw [bne_iff_ne]; exact h
  rcases hcase with kE | ⟨rfl, rfl | ⟨rfl, kE | rfl⟩⟩
  · clear L
    go_enter Tryd.func6, Tryd.ntmps6
    go_wp2_with fail
    refine (W0.out _).mono ?_
    rintro r w1 ⟨rfl, hb⟩
    have S : Below w.heap.size w w1 := bl_thru (by go_grown) (Nat.le_refl _) hb
    have B := Lib.hid S
    have X_a := Lib.hid ((((Bx2.new w _ _ _).alloc _).alloc _).below hb)
    have X_b := Lib.hid (((Bx2.new2 w _ _ _ _).alloc _).below hb)
    have X_c := Lib.hid ((Bx2.new3 w _ _ _ _ _).below hb)
    clear hb S
    go_wp2_with fail
    refine (spanLives_any _ (HT.out.below B.out)).mono ?_
    rintro r w2 ⟨rfl, hb⟩
    have S : Below w1.heap.size w1 w2 := hb
    replace B := Lib.hid (bl_thru B.out (Nat.le_refl _) S)
    replace X_a := Lib.hid (X_a.out.below S)
    replace X_b := Lib.hid (X_b.out.below S)
    replace X_c := Lib.hid (X_c.out.below S)
    clear hb S
    go_wp2_with fail
    refine (spanLives_any _ (HT.out.below B.out)).mono ?_
    rintro r w3 ⟨rfl, hb⟩
    have S : Below w2.heap.size w2 w3 := hb
    replace B := Lib.hid (bl_thru B.out (Nat.le_refl _) S)
    clear X_a
    clear X_b
    clear X_c
    clear hb S
    go_wp2
    go_ret
    exact ⟨rfl, B.out⟩
  · clear L
    go_enter Tryd.func6, Tryd.ntmps6
    go_wp2_with fail
    refine (W0.out _).mono ?_
    rintro r w1 ⟨rfl, hb⟩
    have S : Below w.heap.size w w1 := bl_thru (by go_grown) (Nat.le_refl _) hb
    have B := Lib.hid S
    have X_a := Lib.hid ((((Bx2.new w _ _ _).alloc _).alloc _).below hb)
    have X_b := Lib.hid (((Bx2.new2 w _ _ _ _).alloc _).below hb)
    have X_c := Lib.hid ((Bx2.new3 w _ _ _ _ _).below hb)
    clear hb S
    go_wp2_with fail
    refine (spanLives_any _ (HT.out.below B.out)).mono ?_
    rintro r w2 ⟨rfl, hb⟩
    have S : Below w1.heap.size w1 w2 := hb
    replace B := Lib.hid (bl_thru B.out (Nat.le_refl _) S)
    replace X_a := Lib.hid (X_a.out.below S)
    replace X_b := Lib.hid (X_b.out.below S)
    replace X_c := Lib.hid (X_c.out.below S)
    clear hb S
    go_wp2_with fail
    refine (spanLives_any _ (HT.out.below B.out)).mono ?_
    rintro r w3 ⟨rfl, hb⟩
    have S : Below w2.heap.size w2 w3 := hb
    replace B := Lib.hid (bl_thru B.out (Nat.le_refl _) S)
    clear X_a
    clear X_b
    clear X_c
    clear hb S
    go_wp2
    go_ret
    exact ⟨rfl, B.out⟩
  · clear L
    go_enter Tryd.func6, Tryd.ntmps6
    go_wp2_with fail
    refine (W0.out _).mono ?_
    rintro r w1 ⟨rfl, hb⟩
    have S : Below w.heap.size w w1 := bl_thru (by go_grown) (Nat.le_refl _) hb
    have B := Lib.hid S
    have X_a := Lib.hid ((((Bx2.new w _ _ _).alloc _).alloc _).below hb)
    have X_b := Lib.hid (((Bx2.new2 w _ _ _ _).alloc _).below hb)
    have X_c := Lib.hid ((Bx2.new3 w _ _ _ _ _).below hb)
    clear hb S
    go_wp2_with fail
    refine (spanLives_any _ (HT.out.below B.out)).mono ?_
    rintro r w2 ⟨rfl, hb⟩
    have S : Below w1.heap.size w1 w2 := hb
    replace B := Lib.hid (bl_thru B.out (Nat.le_refl _) S)
    replace X_a := Lib.hid (X_a.out.below S)
    replace X_b := Lib.hid (X_b.out.below S)
    replace X_c := Lib.hid (X_c.out.below S)
    clear hb S
    obtain ⟨c0_c, c1_c, -, -⟩ := X_c.out.cells
    have l_c := X_c.out.lt
    go_wp2_with fail
    refine (K0.out _).mono ?_
    rintro r w3 ⟨rfl, hb⟩
    have S : Below w2.heap.size w2 w3 := hb
    replace B := Lib.hid (bl_thru B.out (Nat.le_refl _) S)
    replace X_a := Lib.hid (X_a.out.below S)
    replace X_b := Lib.hid (X_b.out.below S)
    replace X_c := Lib.hid (X_c.out.below S)
    clear hb S c0_c c1_c l_c
    go_wp2_with fail
    refine (spanLives_any _ (HT.out.below B.out)).mono ?_
    rintro r w4 ⟨rfl, hb⟩
    have S : Below w3.heap.size w3 w4 := hb
    replace B := Lib.hid (bl_thru B.out (Nat.le_refl _) S)
    clear X_a
    clear X_b
    clear X_c
    clear hb S
    go_wp2
    go_ret
    exact ⟨rfl, B.out⟩
  · obtain ⟨⟨rfl, rfl, rfl, rfl⟩, ⟨rfl, rfl⟩, ⟨rfl, rfl⟩, ⟨rfl, rfl⟩, ⟨rfl, rfl⟩, hD⟩ := L.out rfl rfl rfl
    have LD := Lib.hid hD
    clear L hD
    have j0 : ∀ w : World, (Instr.index 44 (.agg #[.func (.func 17) #[] #[], .func (.func 22) #[] #[], .func (.func 18) #[] #[], .func (.func 11) #[] #[]]) (.int .i64 0)).run Tryd.prog w = .ok (.func (.func 17) #[] #[]) w := fun _ => by kernel_rfl
    have j1 : ∀ w : World, (Instr.index 44 (.agg #[.func (.func 17) #[] #[], .func (.func 22) #[] #[], .func (.func 18) #[] #[], .func (.func 11) #[] #[]]) (.int .i64 1)).run Tryd.prog w = .ok (.func (.func 22) #[] #[]) w := fun _ => by kernel_rfl
    have j2 : ∀ w : World, (Instr.index 44 (.agg #[.func (.func 17) #[] #[], .func (.func 22) #[] #[], .func (.func 18) #[] #[], .func (.func 11) #[] #[]]) (.int .i64 2)).run Tryd.prog w = .ok (.func (.func 18) #[] #[]) w := fun _ => by kernel_rfl
    have j3 : ∀ w : World, (Instr.index 44 (.agg #[.func (.func 17) #[] #[], .func (.func 22) #[] #[], .func (.func 18) #[] #[], .func (.func 11) #[] #[]]) (.int .i64 3)).run Tryd.prog w = .ok (.func (.func 11) #[] #[]) w := fun _ => by kernel_rfl
    go_enter Tryd.func6, Tryd.ntmps6
    go_wp2_with fail
    refine (W0.out _).mono ?_
    rintro r w1 ⟨rfl, hb⟩
    have S : Below w.heap.size w w1 := bl_thru (by go_grown) (Nat.le_refl _) hb
    have B := Lib.hid S
    have X_a := Lib.hid ((((Bx2.new w _ _ _).alloc _).alloc _).below hb)
    have X_b := Lib.hid (((Bx2.new2 w _ _ _ _).alloc _).below hb)
    have X_c := Lib.hid ((Bx2.new3 w _ _ _ _ _).below hb)
    clear hb S
    go_wp2_with fail
    refine (spanLives_any _ (HT.out.below B.out)).mono ?_
    rintro r w2 ⟨rfl, hb⟩
    have S : Below w1.heap.size w1 w2 := hb
    replace B := Lib.hid (bl_thru B.out (Nat.le_refl _) S)
    replace X_a := Lib.hid (X_a.out.below S)
    replace X_b := Lib.hid (X_b.out.below S)
    replace X_c := Lib.hid (X_c.out.below S)
    clear hb S
    obtain ⟨c0_c, c1_c, -, -⟩ := X_c.out.cells
    have l_c := X_c.out.lt
    go_wp2_with fail
    refine (K0.out _).mono ?_
    rintro r w3 ⟨rfl, hb⟩
    have S : Below w2.heap.size w2 w3 := hb
    replace B := Lib.hid (bl_thru B.out (Nat.le_refl _) S)
    replace X_a := Lib.hid (X_a.out.below S)
    replace X_b := Lib.hid (X_b.out.below S)
    replace X_c := Lib.hid (X_c.out.below S)
    clear hb S c0_c c1_c l_c
    go_wp2
    go_loopw [46] (fun i wr => ∃ k : Nat, k ≤ 4 ∧ i = .int .i64 k ∧ Hid (Bx2 wr w.heap.size 24 (.int .u64 a) (.int .u64 a')) ∧ Hid (Bx2 wr (w.heap.size + 1) 24 (.int .u64 b) (.int .u64 b')) ∧ Hid (Bx2 wr (w.heap.size + 1 + 1) 24 (.int .u64 c) (.int .u64 c')) ∧ Hid (Below w.heap.size w wr)) (fun i _ => 4 - (intOf i).toNat)
    case atStart => exact ⟨0, by omega, rfl, X_a, X_b, X_c, B⟩
    case round =>
      clear X_a X_b X_c B
      obtain ⟨k, hk, rfl, X_a, X_b, X_c, B⟩ := hrel
      have hk4 : k = 0 ∨ k = 1 ∨ k = 2 ∨ k = 3 ∨ k = 4 := by omega
      rcases hk4 with rfl | rfl | rfl | rfl | rfl
      · obtain ⟨c0_a, c1_a, -, -⟩ := X_a.out.cells
        have l_a := X_a.out.lt
        obtain ⟨c0_b, c1_b, -, -⟩ := X_b.out.cells
        have l_b := X_b.out.lt
        obtain ⟨c0_c, c1_c, -, -⟩ := X_c.out.cells
        have l_c := X_c.out.lt
        go_wp2_with fail
        refine (F0a.out _ (HT.out.below B.out)).mono ?_
        rintro r w11 ⟨rfl, hb⟩
        have S : Below wr.heap.size wr w11 := hb
        replace B := Lib.hid (bl_thru B.out (Nat.le_refl _) S)
        replace X_a := Lib.hid (X_a.out.below S)
        replace X_b := Lib.hid (X_b.out.below S)
        replace X_c := Lib.hid (X_c.out.below S)
        clear hb S c0_a c1_a l_a c0_b c1_b l_b c0_c c1_c l_c
        obtain ⟨c0_b, c1_b, -, -⟩ := X_b.out.cells
        have l_b := X_b.out.lt
        obtain ⟨c0_c, c1_c, -, -⟩ := X_c.out.cells
        have l_c := X_c.out.lt
        go_wp2_with fail
        refine (F0b.out _ (HT.out.below (by have := B.out; have := B.out.size; go_grown))).mono ?_
        rintro r w12 ⟨rfl, hb⟩
        have S : Below w11.heap.size w11 w12 := bl_thru (by go_grown) (Nat.le_refl _) hb
        replace B := Lib.hid (bl_thru B.out (Nat.le_refl _) S)
        replace X_a := Lib.hid (X_a.out.below S)
        replace X_b := Lib.hid (X_b.out.below S)
        replace X_c := Lib.hid (X_c.out.below S)
        have X_x := Lib.hid ((Bx2.new w11 _ _ _).below hb)
        clear hb S c0_b c1_b l_b c0_c c1_c l_c
        obtain ⟨c0_x, c1_x, -, -⟩ := X_x.out.cells
        have l_x := X_x.out.lt
        go_wp2_with fail
        refine (W1.out _).mono ?_
        rintro r w13 ⟨rfl, hb⟩
        have S : Below w12.heap.size w12 w13 := bl_thru (by go_grown) (Nat.le_refl _) hb
        replace B := Lib.hid (bl_thru B.out (Nat.le_refl _) S)
        replace X_a := Lib.hid (X_a.out.below S)
        replace X_b := Lib.hid (X_b.out.below S)
        replace X_c := Lib.hid (X_c.out.below S)
        clear X_x
        clear hb S c0_x c1_x l_x
        go_wp2_with (go_at_call 15; refine (ok_new3 _ _ _  _ _ rfl).mono ?_; rintro e w' ⟨rfl, rfl⟩)
        go_roundw
        case rel => exact ⟨1, by omega, by go_num, Lib.hid (X_a.out.alloc _), Lib.hid (X_b.out.alloc _), Lib.hid (X_c.out.alloc _), Lib.hid (B.out.alloc B.out.size _)⟩
        case measure => simp [intOf]
      · obtain ⟨c0_a, c1_a, -, -⟩ := X_a.out.cells
        have l_a := X_a.out.lt
        obtain ⟨c0_b, c1_b, -, -⟩ := X_b.out.cells
        have l_b := X_b.out.lt
        obtain ⟨c0_c, c1_c, -, -⟩ := X_c.out.cells
        have l_c := X_c.out.lt
        go_wp2_with fail
        refine (F1a.out _ (HT.out.below B.out)).mono ?_
        rintro r w11 ⟨rfl, hb⟩
        have S : Below wr.heap.size wr w11 := hb
        replace B := Lib.hid (bl_thru B.out (Nat.le_refl _) S)
        replace X_a := Lib.hid (X_a.out.below S)
        replace X_b := Lib.hid (X_b.out.below S)
        replace X_c := Lib.hid (X_c.out.below S)
        clear hb S c0_a c1_a l_a c0_b c1_b l_b c0_c c1_c l_c
        obtain ⟨c0_b, c1_b, -, -⟩ := X_b.out.cells
        have l_b := X_b.out.lt
        obtain ⟨c0_c, c1_c, -, -⟩ := X_c.out.cells
        have l_c := X_c.out.lt
        go_wp2_with fail
        refine (F1b.out _ (HT.out.below (by have := B.out; have := B.out.size; go_grown))).mono ?_
        rintro r w12 ⟨rfl, hb⟩
        have S : Below w11.heap.size w11 w12 := bl_thru (by go_grown) (Nat.le_refl _) hb
        replace B := Lib.hid (bl_thru B.out (Nat.le_refl _) S)
        replace X_a := Lib.hid (X_a.out.below S)
        replace X_b := Lib.hid (X_b.out.below S)
        replace X_c := Lib.hid (X_c.out.below S)
        have X_x := Lib.hid ((Bx2.new w11 _ _ _).below hb)
        clear hb S c0_b c1_b l_b c0_c c1_c l_c
        obtain ⟨c0_x, c1_x, -, -⟩ := X_x.out.cells
        have l_x := X_x.out.lt
        go_wp2_with fail
        refine (W2.out _).mono ?_
        rintro r w13 ⟨rfl, hb⟩
        have S : Below w12.heap.size w12 w13 := bl_thru (by go_grown) (Nat.le_refl _) hb
        replace B := Lib.hid (bl_thru B.out (Nat.le_refl _) S)
        replace X_a := Lib.hid (X_a.out.below S)
        replace X_b := Lib.hid (X_b.out.below S)
        replace X_c := Lib.hid (X_c.out.below S)
        clear X_x
        clear hb S c0_x c1_x l_x
        go_wp2_with (go_at_call 15; refine (ok_new3 _ _ _  _ _ rfl).mono ?_; rintro e w' ⟨rfl, rfl⟩)
        go_roundw
        case rel => exact ⟨2, by omega, by go_num, Lib.hid (X_a.out.alloc _), Lib.hid (X_b.out.alloc _), Lib.hid (X_c.out.alloc _), Lib.hid (B.out.alloc B.out.size _)⟩
        case measure => simp [intOf]
      · obtain ⟨c0_a, c1_a, -, -⟩ := X_a.out.cells
        have l_a := X_a.out.lt
        obtain ⟨c0_b, c1_b, -, -⟩ := X_b.out.cells
        have l_b := X_b.out.lt
        obtain ⟨c0_c, c1_c, -, -⟩ := X_c.out.cells
        have l_c := X_c.out.lt
        go_wp2_with fail
        refine (F2a.out _ (HT.out.below B.out)).mono ?_
        rintro r w11 ⟨rfl, hb⟩
        have S : Below wr.heap.size wr w11 := hb
        replace B := Lib.hid (bl_thru B.out (Nat.le_refl _) S)
        replace X_a := Lib.hid (X_a.out.below S)
        replace X_b := Lib.hid (X_b.out.below S)
        replace X_c := Lib.hid (X_c.out.below S)
        clear hb S c0_a c1_a l_a c0_b c1_b l_b c0_c c1_c l_c
        obtain ⟨c0_b, c1_b, -, -⟩ := X_b.out.cells
        have l_b := X_b.out.lt
        obtain ⟨c0_c, c1_c, -, -⟩ := X_c.out.cells
        have l_c := X_c.out.lt
        go_wp2_with fail
        refine (F2b.out _ (HT.out.below (by have := B.out; have := B.out.size; go_grown))).mono ?_
        rintro r w12 ⟨rfl, hb⟩
        have S : Below w11.heap.size w11 w12 := bl_thru (by go_grown) (Nat.le_refl _) hb
        replace B := Lib.hid (bl_thru B.out (Nat.le_refl _) S)
        replace X_a := Lib.hid (X_a.out.below S)
        replace X_b := Lib.hid (X_b.out.below S)
        replace X_c := Lib.hid (X_c.out.below S)
        have X_x := Lib.hid ((Bx2.new w11 _ _ _).below hb)
        clear hb S c0_b c1_b l_b c0_c c1_c l_c
        obtain ⟨c0_x, c1_x, -, -⟩ := X_x.out.cells
        have l_x := X_x.out.lt
        go_wp2_with fail
        refine (W3.out _).mono ?_
        rintro r w13 ⟨rfl, hb⟩
        have S : Below w12.heap.size w12 w13 := bl_thru (by go_grown) (Nat.le_refl _) hb
        replace B := Lib.hid (bl_thru B.out (Nat.le_refl _) S)
        replace X_a := Lib.hid (X_a.out.below S)
        replace X_b := Lib.hid (X_b.out.below S)
        replace X_c := Lib.hid (X_c.out.below S)
        clear X_x
        clear hb S c0_x c1_x l_x
        go_wp2_with (go_at_call 15; refine (ok_new3 _ _ _  _ _ rfl).mono ?_; rintro e w' ⟨rfl, rfl⟩)
        go_roundw
        case rel => exact ⟨3, by omega, by go_num, Lib.hid (X_a.out.alloc _), Lib.hid (X_b.out.alloc _), Lib.hid (X_c.out.alloc _), Lib.hid (B.out.alloc B.out.size _)⟩
        case measure => simp [intOf]
      · obtain ⟨c0_a, c1_a, -, -⟩ := X_a.out.cells
        have l_a := X_a.out.lt
        obtain ⟨c0_b, c1_b, -, -⟩ := X_b.out.cells
        have l_b := X_b.out.lt
        obtain ⟨c0_c, c1_c, -, -⟩ := X_c.out.cells
        have l_c := X_c.out.lt
        go_wp2_with fail
        refine (F3a.out _).mono ?_
        rintro r w11 ⟨rfl, hb⟩
        have S : Below wr.heap.size wr w11 := hb
        replace B := Lib.hid (bl_thru B.out (Nat.le_refl _) S)
        replace X_a := Lib.hid (X_a.out.below S)
        replace X_b := Lib.hid (X_b.out.below S)
        replace X_c := Lib.hid (X_c.out.below S)
        clear hb S c0_a c1_a l_a c0_b c1_b l_b c0_c c1_c l_c
        obtain ⟨c0_b, c1_b, -, -⟩ := X_b.out.cells
        have l_b := X_b.out.lt
        obtain ⟨c0_c, c1_c, -, -⟩ := X_c.out.cells
        have l_c := X_c.out.lt
        go_wp2_with fail
        refine (F3b.out _).mono ?_
        rintro r w12 ⟨rfl, hb⟩
        have S : Below w11.heap.size w11 w12 := bl_thru (by go_grown) (Nat.le_refl _) hb
        replace B := Lib.hid (bl_thru B.out (Nat.le_refl _) S)
        replace X_a := Lib.hid (X_a.out.below S)
        replace X_b := Lib.hid (X_b.out.below S)
        replace X_c := Lib.hid (X_c.out.below S)
        have X_x := Lib.hid ((Bx2.new w11 _ _ _).below hb)
        clear hb S c0_b c1_b l_b c0_c c1_c l_c
        obtain ⟨c0_x, c1_x, -, -⟩ := X_x.out.cells
        have l_x := X_x.out.lt
        go_wp2_with fail
        refine (W4.out _).mono ?_
        rintro r w13 ⟨rfl, hb⟩
        have S : Below w12.heap.size w12 w13 := bl_thru (by go_grown) (Nat.le_refl _) hb
        replace B := Lib.hid (bl_thru B.out (Nat.le_refl _) S)
        replace X_a := Lib.hid (X_a.out.below S)
        replace X_b := Lib.hid (X_b.out.below S)
        replace X_c := Lib.hid (X_c.out.below S)
        clear X_x
        clear hb S c0_x c1_x l_x
        go_wp2_with (go_at_call 15; refine (ok_new3 _ _ _  _ _ rfl).mono ?_; rintro e w' ⟨rfl, rfl⟩)
        go_roundw
        case rel => exact ⟨4, by omega, by go_num, Lib.hid (X_a.out.alloc _), Lib.hid (X_b.out.alloc _), Lib.hid (X_c.out.alloc _), Lib.hid (B.out.alloc B.out.size _)⟩
        case measure => simp [intOf]
      · clear j0 j1 j2 j3
        obtain ⟨c0_c, c1_c, -, -⟩ := X_c.out.cells
        have l_c := X_c.out.lt
        obtain ⟨c0_a, c1_a, -, -⟩ := X_a.out.cells
        have l_a := X_a.out.lt
        go_wp2_with fail
        refine (Da.out _ (HT.out.below B.out)).mono ?_
        rintro r w11 ⟨rfl, hb⟩
        have S : Below wr.heap.size wr w11 := hb
        replace B := Lib.hid (bl_thru B.out (Nat.le_refl _) S)
        replace X_a := Lib.hid (X_a.out.below S)
        replace X_b := Lib.hid (X_b.out.below S)
        replace X_c := Lib.hid (X_c.out.below S)
        clear hb S c0_c c1_c l_c c0_a c1_a l_a
        obtain ⟨c0_c, c1_c, -, -⟩ := X_c.out.cells
        have l_c := X_c.out.lt
        obtain ⟨c0_b, c1_b, -, -⟩ := X_b.out.cells
        have l_b := X_b.out.lt
        go_wp2_with fail
        refine (Db.out _ (HT.out.below (by have := B.out; have := B.out.size; go_grown))).mono ?_
        rintro r w12 ⟨rfl, hb⟩
        have S : Below w11.heap.size w11 w12 := bl_thru (by go_grown) (Nat.le_refl _) hb
        replace B := Lib.hid (bl_thru B.out (Nat.le_refl _) S)
        clear X_a
        clear X_b
        clear X_c
        have X_x := Lib.hid ((Bx2.new w11 _ _ _).below hb)
        clear hb S c0_c c1_c l_c c0_b c1_b l_b
        by_cases hd : db = 0
        · subst hd
          obtain ⟨rfl, rfl, rfl⟩ := LD.out rfl
          clear LD
          obtain ⟨c0_x, c1_x, -, -⟩ := X_x.out.cells
          have l_x := X_x.out.lt
          go_wp2_with fail
          refine (W5.out _).mono ?_
          rintro r w13 ⟨rfl, hb⟩
          have S : Below w12.heap.size w12 w13 := bl_thru (by go_grown) (Nat.le_refl _) hb
          replace B := Lib.hid (bl_thru B.out (Nat.le_refl _) S)
          clear X_x
          clear hb S c0_x c1_x l_x
          go_wp2_with (go_at_call 15; refine (ok_new2 _ _  _ _ rfl).mono ?_; rintro e w' ⟨rfl, rfl⟩)
          go_ret
          exact ⟨rfl, (by have := B.out; have := B.out.size; go_grown)⟩
        · have kd : (db != 0) = true := by rw [bne_iff_ne]; exact hd
          go_wp2
          go_ret
          exact ⟨rfl, (by have := B.out; have := B.out.size; go_grown)⟩
end Go.Proofs.YtfnchcogdmpojaaDoor
