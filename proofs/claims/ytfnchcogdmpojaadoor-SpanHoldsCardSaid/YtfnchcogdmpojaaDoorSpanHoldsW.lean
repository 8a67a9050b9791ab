/-
  THE WALK of the law SpanHolds.
-/
import Derived.Test.YtfnchcogdmpojaaDoorSl2
import Derived.Test.YtfnchcogdmpojaaDoorSu
import Derived.Test.YtfnchcogdmpojaaDoorMg
import Derived.Test.YtfnchcogdmpojaaDoorSg
set_option linter.unusedVariables false
set_option linter.unusedSimpArgs false
namespace Go.Proofs.YtfnchcogdmpojaaDoor
open Go.RowKit Nt Fm Fl

set_option maxHeartbeats 4000000 in
theorem spin_any (lo hi x : Int) (l0 : 0 ≤ lo) (l1 : lo ≤ 18446744073709551615) (h0 : 0 ≤ hi) (h1 : hi ≤ 18446744073709551615) (x0 : 0 ≤ x) (x1 : x ≤ 18446744073709551615) (w : World) :
    Calls Tryd.prog 28 #[.agg #[.int .u64 lo, .int .u64 hi], .int .u64 x] w fun e w' => e = .returned (.bool (inB lo hi x)) ∧ Below w.heap.size w w' := by
  have HC := Lib.hid (fun w' => class_any x x0 x1 w')
  have HH := Lib.hid (fun w' => spHas_any lo hi x l0 l1 h0 h1 x0 x1 w')
  have hcase : ((fcls x == 4) = true ∧ inB lo hi x = true) ∨ ((fcls x == 4) = false ∧ inB lo hi x = HasB lo hi x) := by
    unfold inB; cases (fcls x == 4) <;> simp
  generalize inB lo hi x = r at *
  generalize HasB lo hi x = q at *
  generalize fcls x = c at *
  rcases hcase with ⟨k, rfl⟩ | ⟨k, rfl⟩
  all_goals
    go_enter Tryd.func28, Tryd.ntmps28
    go_wp2_with (go_at_call 29; refine (HC.out _).mono ?_; rintro e w' ⟨rfl, rfl⟩)
    first
      | (go_ret
         exact ⟨rfl, by go_grown⟩)
      | (refine (HH.out _).mono ?_
         rintro e w1 ⟨rfl, hb⟩
         have B1 := Lib.hid (bl_thru ((Below.refl w.heap.size w).alloc (Nat.le_refl _) (.cells #[.int .u64 lo, .int .u64 hi] 24)) (Nat.le_refl _) hb)
         clear hb
         go_wp2
         go_ret
         exact ⟨rfl, B1.out⟩)
set_option maxRecDepth 100000 in
set_option maxHeartbeats 16000000 in
theorem walkSpanHolds (a a' : Int) (a0 : 0 ≤ a) (a1 : a ≤ 18446744073709551615) (a0' : 0 ≤ a') (a1' : a' ≤ 18446744073709551615) (b b' : Int) (b0 : 0 ≤ b) (b1 : b ≤ 18446744073709551615) (b0' : 0 ≤ b') (b1' : b' ≤ 18446744073709551615) (x : Int) (x0 : 0 ≤ x) (x1 : x ≤ 18446744073709551615) (y : Int) (y0 : 0 ≤ y) (y1 : y ≤ 18446744073709551615) (mode : Int) (mode0 : -9223372036854775808 ≤ mode) (mode1 : mode ≤ 9223372036854775807) (w : World) (hT : Tab w) :
    Calls Tryd.prog 5 #[.agg #[.int .u64 a, .int .u64 a'], .agg #[.int .u64 b, .int .u64 b'], .int .u64 x, .int .u64 y, .int .i64 mode] w fun e w' => e = .returned (.bool true) ∧ Below w.heap.size w w' := by
  have L := Lib.hid (fun h1 h2 m1 m2 => spanHolds_a (mode := mode) ⟨a0, a1⟩ ⟨a0', a1'⟩ ⟨b0, b1⟩ ⟨b0', b1'⟩ ⟨x0, x1⟩ ⟨y0, y1⟩ h1 h2 m1 m2)
  have CA := Lib.hid (fun w' h => spAdd_any a a' b b' a0 a1 a0' a1' b0 b1 b0' b1' w' h)
  have CS := Lib.hid (fun w' h => spSub_any a a' b b' a0 a1 a0' a1' b0 b1 b0' b1' w' h)
  have CM := Lib.hid (fun w' h => spMul_any a a' b b' a0 a1 a0' a1' b0 b1 b0' b1' w' h)
  have CD := Lib.hid (fun w' h => spDiv_any a a' b b' a0 a1 a0' a1' b0 b1 b0' b1' w' h)
  have HA := Lib.hid (fun w' => spHas_any a a' x a0 a1 a0' a1' x0 x1 w')
  have HB := Lib.hid (fun w' => spHas_any b b' y b0 b1 b0' b1' y0 y1 w')
  have HZ := Lib.hid (fun w' => spHas_any b b' 0 b0 b1 b0' b1' (by decide) (by decide) w')
  have KA := Lib.hid (fun w' h => sadd_any x y mode x0 x1 y0 y1 w' h)
  have KS := Lib.hid (fun w' h => ssub_any x y mode x0 x1 y0 y1 w' h)
  have KM := Lib.hid (fun w' h => pmul_any x y mode x0 x1 y0 y1 w' h)
  have KD := Lib.hid (fun w' h => qdiv_any x y mode x0 x1 y0 y1 w' h)
  obtain ⟨⟨u0, u1⟩, ⟨v0, v1⟩, ⟨p0, p1⟩, ⟨q0, q1⟩⟩ := spanHolds_b (mode := mode) ⟨x0, x1⟩ ⟨y0, y1⟩
  obtain ⟨⟨⟨s0, s1⟩, ⟨s2, s3⟩⟩, ⟨⟨s4, s5⟩, ⟨s6, s7⟩⟩, ⟨⟨s8, s9⟩, ⟨t0, t1⟩⟩, ⟨⟨t2, t3⟩, ⟨t4, t5⟩⟩⟩ := spanHolds_c ⟨a0, a1⟩ ⟨a0', a1'⟩ ⟨b0, b1⟩ ⟨b0', b1'⟩
  have I1 := Lib.hid (fun w' => spin_any (saLo a a' b b') (saHi a a' b b') (adV x y mode) s0 s1 s2 s3 u0 u1 w')
  have I2 := Lib.hid (fun w' => spin_any (suLo a a' b b') (suHi a a' b b') (adV x (fneg y) mode) s4 s5 s6 s7 v0 v1 w')
  have I3 := Lib.hid (fun w' => spin_any (mlLo a a' b b') (mlHi a a' b b') (muV x y mode) s8 s9 t0 t1 p0 p1 w')
  have I4 := Lib.hid (fun w' => spin_any (diLo a a' b b') (diHi a a' b b') (dvV x y mode) t2 t3 t4 t5 q0 q1 w')
  clear u0 u1 v0 v1 p0 p1 q0 q1 s0 s1 s2 s3 s4 s5 s6 s7 s8 s9 t0 t1 t2 t3 t4 t5
  have HT := Lib.hid hT
  clear hT
  generalize inB (saLo a a' b b') (saHi a a' b b') (adV x y mode) = i1 at *
  generalize inB (suLo a a' b b') (suHi a a' b b') (adV x (fneg y) mode) = i2 at *
  generalize inB (mlLo a a' b b') (mlHi a a' b b') (muV x y mode) = i3 at *
  generalize inB (diLo a a' b b') (diHi a a' b b') (dvV x y mode) = i4 at *
  generalize spE2 a a' b b' = E at *
  generalize suE a a' b b' = E2 at *
  generalize diE a a' b b' = E4 at *
  generalize saLo a a' b b' = sl at *
  generalize saHi a a' b b' = sh at *
  generalize suLo a a' b b' = ul at *
  generalize suHi a a' b b' = uh at *
  generalize mlLo a a' b b' = ml at *
  generalize mlHi a a' b b' = mh at *
  generalize diLo a a' b b' = dl at *
  generalize diHi a a' b b' = dh at *
  generalize adV x y mode = z1 at *
  generalize adV x (fneg y) mode = z2 at *
  generalize muV x y mode = z3 at *
  generalize dvV x y mode = z4 at *
  generalize adE mode = EM at *
  generalize adC x y mode = c1 at *
  generalize adC x (fneg y) mode = c2 at *
  generalize muC x y mode = c3 at *
  generalize dvC x y mode = c4 at *
  generalize HasB a a' x = ha at *
  generalize HasB b b' y = hbb at *
  generalize HasB b b' 0 = hz at *
  have hcase : ha = false ∨ (ha = true ∧ (hbb = false ∨ (hbb = true ∧ (mode < 0 ∨ (0 ≤ mode ∧ (4 < mode ∨ mode ≤ 4)))))) := by
    cases ha
    · exact Or.inl rfl
    · right; refine ⟨rfl, ?_⟩
      cases hbb
      · exact Or.inl rfl
      · right; refine ⟨rfl, ?_⟩; omega
  rcases hcase with rfl | ⟨rfl, rfl | ⟨rfl, h1 | ⟨h1, h2 | h2⟩⟩⟩
  · clear L
    go_enter Tryd.func5, Tryd.ntmps5
    go_wp2_with fail
    refine (CA.out _ (HT.out.below (by go_grown))).mono ?_
    rintro r w1 ⟨rfl, hb⟩
    have S : Below w.heap.size w w1 := bl_thru (by go_grown) (Nat.le_refl _) hb
    have B := Lib.hid S
    have X_a := Lib.hid (((Bx2.new w _ _ _).alloc _).below hb)
    have X_b := Lib.hid ((Bx2.new2 w _ _ _ _).below hb)
    clear hb S
    obtain ⟨c0_a, c1_a, -, -⟩ := X_a.out.cells
    have l_a := X_a.out.lt
    obtain ⟨c0_b, c1_b, -, -⟩ := X_b.out.cells
    have l_b := X_b.out.lt
    go_wp2_with fail
    refine (CS.out _ (HT.out.below (by have := B.out; have := B.out.size; go_grown))).mono ?_
    rintro r w2 ⟨rfl, hb⟩
    have S : Below w1.heap.size w1 w2 := bl_thru (by go_grown) (Nat.le_refl _) hb
    replace B := Lib.hid (bl_thru B.out (Nat.le_refl _) S)
    replace X_a := Lib.hid (X_a.out.below S)
    replace X_b := Lib.hid (X_b.out.below S)
    have X_s := Lib.hid ((Bx2.new w1 _ _ _).below hb)
    clear hb S c0_a c1_a l_a c0_b c1_b l_b
    obtain ⟨c0_a, c1_a, -, -⟩ := X_a.out.cells
    have l_a := X_a.out.lt
    obtain ⟨c0_b, c1_b, -, -⟩ := X_b.out.cells
    have l_b := X_b.out.lt
    go_wp2_with fail
    refine (CM.out _ (HT.out.below (by have := B.out; have := B.out.size; go_grown))).mono ?_
    rintro r w3 ⟨rfl, hb⟩
    have S : Below w2.heap.size w2 w3 := bl_thru (by go_grown) (Nat.le_refl _) hb
    replace B := Lib.hid (bl_thru B.out (Nat.le_refl _) S)
    replace X_a := Lib.hid (X_a.out.below S)
    replace X_b := Lib.hid (X_b.out.below S)
    replace X_s := Lib.hid (X_s.out.below S)
    have X_d := Lib.hid ((Bx2.new w2 _ _ _).below hb)
    clear hb S c0_a c1_a l_a c0_b c1_b l_b
    obtain ⟨c0_a, c1_a, -, -⟩ := X_a.out.cells
    have l_a := X_a.out.lt
    obtain ⟨c0_b, c1_b, -, -⟩ := X_b.out.cells
    have l_b := X_b.out.lt
    go_wp2_with fail
    refine (CD.out _ (HT.out.below (by have := B.out; have := B.out.size; go_grown))).mono ?_
    rintro r w4 ⟨rfl, hb⟩
    have S : Below w3.heap.size w3 w4 := bl_thru (by go_grown) (Nat.le_refl _) hb
    replace B := Lib.hid (bl_thru B.out (Nat.le_refl _) S)
    replace X_a := Lib.hid (X_a.out.below S)
    replace X_b := Lib.hid (X_b.out.below S)
    replace X_s := Lib.hid (X_s.out.below S)
    replace X_d := Lib.hid (X_d.out.below S)
    have X_p := Lib.hid ((Bx2.new w3 _ _ _).below hb)
    clear hb S c0_a c1_a l_a c0_b c1_b l_b
    go_wp2_with fail
    refine (spanLives_any _ (HT.out.below (by have := B.out; have := B.out.size; go_grown))).mono ?_
    rintro r w5 ⟨rfl, hb⟩
    have S : Below w4.heap.size w4 w5 := bl_thru (by go_grown) (Nat.le_refl _) hb
    replace B := Lib.hid (bl_thru B.out (Nat.le_refl _) S)
    replace X_a := Lib.hid (X_a.out.below S)
    replace X_b := Lib.hid (X_b.out.below S)
    replace X_s := Lib.hid (X_s.out.below S)
    replace X_d := Lib.hid (X_d.out.below S)
    replace X_p := Lib.hid (X_p.out.below S)
    have X_q := Lib.hid ((Bx2.new w4 _ _ _).below hb)
    clear hb S
    obtain ⟨c0_a, c1_a, -, -⟩ := X_a.out.cells
    have l_a := X_a.out.lt
    go_wp2_with fail
    refine (HA.out _).mono ?_
    rintro r w6 ⟨rfl, hb⟩
    have S : Below w5.heap.size w5 w6 := hb
    replace B := Lib.hid (bl_thru B.out (Nat.le_refl _) S)
    replace X_a := Lib.hid (X_a.out.below S)
    replace X_b := Lib.hid (X_b.out.below S)
    replace X_s := Lib.hid (X_s.out.below S)
    replace X_d := Lib.hid (X_d.out.below S)
    replace X_p := Lib.hid (X_p.out.below S)
    replace X_q := Lib.hid (X_q.out.below S)
    clear hb S c0_a c1_a l_a
    go_wp2_with fail
    refine (spanLives_any _ (HT.out.below B.out)).mono ?_
    rintro r w7 ⟨rfl, hb⟩
    have S : Below w6.heap.size w6 w7 := hb
    replace B := Lib.hid (bl_thru B.out (Nat.le_refl _) S)
    clear X_a
    clear X_b
    clear X_s
    clear X_d
    clear X_p
    clear X_q
    clear hb S
    go_wp2
    go_ret
    exact ⟨rfl, B.out⟩
  · clear L
    go_enter Tryd.func5, Tryd.ntmps5
    go_wp2_with fail
    refine (CA.out _ (HT.out.below (by go_grown))).mono ?_
    rintro r w1 ⟨rfl, hb⟩
    have S : Below w.heap.size w w1 := bl_thru (by go_grown) (Nat.le_refl _) hb
    have B := Lib.hid S
    have X_a := Lib.hid (((Bx2.new w _ _ _).alloc _).below hb)
    have X_b := Lib.hid ((Bx2.new2 w _ _ _ _).below hb)
    clear hb S
    obtain ⟨c0_a, c1_a, -, -⟩ := X_a.out.cells
    have l_a := X_a.out.lt
    obtain ⟨c0_b, c1_b, -, -⟩ := X_b.out.cells
    have l_b := X_b.out.lt
    go_wp2_with fail
    refine (CS.out _ (HT.out.below (by have := B.out; have := B.out.size; go_grown))).mono ?_
    rintro r w2 ⟨rfl, hb⟩
    have S : Below w1.heap.size w1 w2 := bl_thru (by go_grown) (Nat.le_refl _) hb
    replace B := Lib.hid (bl_thru B.out (Nat.le_refl _) S)
    replace X_a := Lib.hid (X_a.out.below S)
    replace X_b := Lib.hid (X_b.out.below S)
    have X_s := Lib.hid ((Bx2.new w1 _ _ _).below hb)
    clear hb S c0_a c1_a l_a c0_b c1_b l_b
    obtain ⟨c0_a, c1_a, -, -⟩ := X_a.out.cells
    have l_a := X_a.out.lt
    obtain ⟨c0_b, c1_b, -, -⟩ := X_b.out.cells
    have l_b := X_b.out.lt
    go_wp2_with fail
    refine (CM.out _ (HT.out.below (by have := B.out; have := B.out.size; go_grown))).mono ?_
    rintro r w3 ⟨rfl, hb⟩
    have S : Below w2.heap.size w2 w3 := bl_thru (by go_grown) (Nat.le_refl _) hb
    replace B := Lib.hid (bl_thru B.out (Nat.le_refl _) S)
    replace X_a := Lib.hid (X_a.out.below S)
    replace X_b := Lib.hid (X_b.out.below S)
    replace X_s := Lib.hid (X_s.out.below S)
    have X_d := Lib.hid ((Bx2.new w2 _ _ _).below hb)
    clear hb S c0_a c1_a l_a c0_b c1_b l_b
    obtain ⟨c0_a, c1_a, -, -⟩ := X_a.out.cells
    have l_a := X_a.out.lt
    obtain ⟨c0_b, c1_b, -, -⟩ := X_b.out.cells
    have l_b := X_b.out.lt
    go_wp2_with fail
    refine (CD.out _ (HT.out.below (by have := B.out; have := B.out.size; go_grown))).mono ?_
    rintro r w4 ⟨rfl, hb⟩
    have S : Below w3.heap.size w3 w4 := bl_thru (by go_grown) (Nat.le_refl _) hb
    replace B := Lib.hid (bl_thru B.out (Nat.le_refl _) S)
    replace X_a := Lib.hid (X_a.out.below S)
    replace X_b := Lib.hid (X_b.out.below S)
    replace X_s := Lib.hid (X_s.out.below S)
    replace X_d := Lib.hid (X_d.out.below S)
    have X_p := Lib.hid ((Bx2.new w3 _ _ _).below hb)
    clear hb S c0_a c1_a l_a c0_b c1_b l_b
    go_wp2_with fail
    refine (spanLives_any _ (HT.out.below (by have := B.out; have := B.out.size; go_grown))).mono ?_
    rintro r w5 ⟨rfl, hb⟩
    have S : Below w4.heap.size w4 w5 := bl_thru (by go_grown) (Nat.le_refl _) hb
    replace B := Lib.hid (bl_thru B.out (Nat.le_refl _) S)
    replace X_a := Lib.hid (X_a.out.below S)
    replace X_b := Lib.hid (X_b.out.below S)
    replace X_s := Lib.hid (X_s.out.below S)
    replace X_d := Lib.hid (X_d.out.below S)
    replace X_p := Lib.hid (X_p.out.below S)
    have X_q := Lib.hid ((Bx2.new w4 _ _ _).below hb)
    clear hb S
    obtain ⟨c0_a, c1_a, -, -⟩ := X_a.out.cells
    have l_a := X_a.out.lt
    go_wp2_with fail
    refine (HA.out _).mono ?_
    rintro r w6 ⟨rfl, hb⟩
    have S : Below w5.heap.size w5 w6 := hb
    replace B := Lib.hid (bl_thru B.out (Nat.le_refl _) S)
    replace X_a := Lib.hid (X_a.out.below S)
    replace X_b := Lib.hid (X_b.out.below S)
    replace X_s := Lib.hid (X_s.out.below S)
    replace X_d := Lib.hid (X_d.out.below S)
    replace X_p := Lib.hid (X_p.out.below S)
    replace X_q := Lib.hid (X_q.out.below S)
    clear hb S c0_a c1_a l_a
    obtain ⟨c0_b, c1_b, -, -⟩ := X_b.out.cells
    have l_b := X_b.out.lt
    go_wp2_with fail
    refine (HB.out _).mono ?_
    rintro r w7 ⟨rfl, hb⟩
    have S : Below w6.heap.size w6 w7 := hb
    replace B := Lib.hid (bl_thru B.out (Nat.le_refl _) S)
    replace X_a := Lib.hid (X_a.out.below S)
    replace X_b := Lib.hid (X_b.out.below S)
    replace X_s := Lib.hid (X_s.out.below S)
    replace X_d := Lib.hid (X_d.out.below S)
    replace X_p := Lib.hid (X_p.out.below S)
    replace X_q := Lib.hid (X_q.out.below S)
    clear hb S c0_b c1_b l_b
    go_wp2_with fail
    refine (spanLives_any _ (HT.out.below B.out)).mono ?_
    rintro r w8 ⟨rfl, hb⟩
    have S : Below w7.heap.size w7 w8 := hb
    replace B := Lib.hid (bl_thru B.out (Nat.le_refl _) S)
    clear X_a
    clear X_b
    clear X_s
    clear X_d
    clear X_p
    clear X_q
    clear hb S
    go_wp2
    go_ret
    exact ⟨rfl, B.out⟩
  · clear L
    go_enter Tryd.func5, Tryd.ntmps5
    go_wp2_with fail
    refine (CA.out _ (HT.out.below (by go_grown))).mono ?_
    rintro r w1 ⟨rfl, hb⟩
    have S : Below w.heap.size w w1 := bl_thru (by go_grown) (Nat.le_refl _) hb
    have B := Lib.hid S
    have X_a := Lib.hid (((Bx2.new w _ _ _).alloc _).below hb)
    have X_b := Lib.hid ((Bx2.new2 w _ _ _ _).below hb)
    clear hb S
    obtain ⟨c0_a, c1_a, -, -⟩ := X_a.out.cells
    have l_a := X_a.out.lt
    obtain ⟨c0_b, c1_b, -, -⟩ := X_b.out.cells
    have l_b := X_b.out.lt
    go_wp2_with fail
    refine (CS.out _ (HT.out.below (by have := B.out; have := B.out.size; go_grown))).mono ?_
    rintro r w2 ⟨rfl, hb⟩
    have S : Below w1.heap.size w1 w2 := bl_thru (by go_grown) (Nat.le_refl _) hb
    replace B := Lib.hid (bl_thru B.out (Nat.le_refl _) S)
    replace X_a := Lib.hid (X_a.out.below S)
    replace X_b := Lib.hid (X_b.out.below S)
    have X_s := Lib.hid ((Bx2.new w1 _ _ _).below hb)
    clear hb S c0_a c1_a l_a c0_b c1_b l_b
    obtain ⟨c0_a, c1_a, -, -⟩ := X_a.out.cells
    have l_a := X_a.out.lt
    obtain ⟨c0_b, c1_b, -, -⟩ := X_b.out.cells
    have l_b := X_b.out.lt
    go_wp2_with fail
    refine (CM.out _ (HT.out.below (by have := B.out; have := B.out.size; go_grown))).mono ?_
    rintro r w3 ⟨rfl, hb⟩
    have S : Below w2.heap.size w2 w3 := bl_thru (by go_grown) (Nat.le_refl _) hb
    replace B := Lib.hid (bl_thru B.out (Nat.le_refl _) S)
    replace X_a := Lib.hid (X_a.out.below S)
    replace X_b := Lib.hid (X_b.out.below S)
    replace X_s := Lib.hid (X_s.out.below S)
    have X_d := Lib.hid ((Bx2.new w2 _ _ _).below hb)
    clear hb S c0_a c1_a l_a c0_b c1_b l_b
    obtain ⟨c0_a, c1_a, -, -⟩ := X_a.out.cells
    have l_a := X_a.out.lt
    obtain ⟨c0_b, c1_b, -, -⟩ := X_b.out.cells
    have l_b := X_b.out.lt
    go_wp2_with fail
    refine (CD.out _ (HT.out.below (by have := B.out; have := B.out.size; go_grown))).mono ?_
    rintro r w4 ⟨rfl, hb⟩
    have S : Below w3.heap.size w3 w4 := bl_thru (by go_grown) (Nat.le_refl _) hb
    replace B := Lib.hid (bl_thru B.out (Nat.le_refl _) S)
    replace X_a := Lib.hid (X_a.out.below S)
    replace X_b := Lib.hid (X_b.out.below S)
    replace X_s := Lib.hid (X_s.out.below S)
    replace X_d := Lib.hid (X_d.out.below S)
    have X_p := Lib.hid ((Bx2.new w3 _ _ _).below hb)
    clear hb S c0_a c1_a l_a c0_b c1_b l_b
    go_wp2_with fail
    refine (spanLives_any _ (HT.out.below (by have := B.out; have := B.out.size; go_grown))).mono ?_
    rintro r w5 ⟨rfl, hb⟩
    have S : Below w4.heap.size w4 w5 := bl_thru (by go_grown) (Nat.le_refl _) hb
    replace B := Lib.hid (bl_thru B.out (Nat.le_refl _) S)
    replace X_a := Lib.hid (X_a.out.below S)
    replace X_b := Lib.hid (X_b.out.below S)
    replace X_s := Lib.hid (X_s.out.below S)
    replace X_d := Lib.hid (X_d.out.below S)
    replace X_p := Lib.hid (X_p.out.below S)
    have X_q := Lib.hid ((Bx2.new w4 _ _ _).below hb)
    clear hb S
    obtain ⟨c0_a, c1_a, -, -⟩ := X_a.out.cells
    have l_a := X_a.out.lt
    go_wp2_with fail
    refine (HA.out _).mono ?_
    rintro r w6 ⟨rfl, hb⟩
    have S : Below w5.heap.size w5 w6 := hb
    replace B := Lib.hid (bl_thru B.out (Nat.le_refl _) S)
    replace X_a := Lib.hid (X_a.out.below S)
    replace X_b := Lib.hid (X_b.out.below S)
    replace X_s := Lib.hid (X_s.out.below S)
    replace X_d := Lib.hid (X_d.out.below S)
    replace X_p := Lib.hid (X_p.out.below S)
    replace X_q := Lib.hid (X_q.out.below S)
    clear hb S c0_a c1_a l_a
    obtain ⟨c0_b, c1_b, -, -⟩ := X_b.out.cells
    have l_b := X_b.out.lt
    go_wp2_with fail
    refine (HB.out _).mono ?_
    rintro r w7 ⟨rfl, hb⟩
    have S : Below w6.heap.size w6 w7 := hb
    replace B := Lib.hid (bl_thru B.out (Nat.le_refl _) S)
    replace X_a := Lib.hid (X_a.out.below S)
    replace X_b := Lib.hid (X_b.out.below S)
    replace X_s := Lib.hid (X_s.out.below S)
    replace X_d := Lib.hid (X_d.out.below S)
    replace X_p := Lib.hid (X_p.out.below S)
    replace X_q := Lib.hid (X_q.out.below S)
    clear hb S c0_b c1_b l_b
    go_wp2_with fail
    refine (spanLives_any _ (HT.out.below B.out)).mono ?_
    rintro r w8 ⟨rfl, hb⟩
    have S : Below w7.heap.size w7 w8 := hb
    replace B := Lib.hid (bl_thru B.out (Nat.le_refl _) S)
    clear X_a
    clear X_b
    clear X_s
    clear X_d
    clear X_p
    clear X_q
    clear hb S
    go_wp2
    go_ret
    exact ⟨rfl, B.out⟩
  · clear L
    go_enter Tryd.func5, Tryd.ntmps5
    go_wp2_with fail
    refine (CA.out _ (HT.out.below (by go_grown))).mono ?_
    rintro r w1 ⟨rfl, hb⟩
    have S : Below w.heap.size w w1 := bl_thru (by go_grown) (Nat.le_refl _) hb
    have B := Lib.hid S
    have X_a := Lib.hid (((Bx2.new w _ _ _).alloc _).below hb)
    have X_b := Lib.hid ((Bx2.new2 w _ _ _ _).below hb)
    clear hb S
    obtain ⟨c0_a, c1_a, -, -⟩ := X_a.out.cells
    have l_a := X_a.out.lt
    obtain ⟨c0_b, c1_b, -, -⟩ := X_b.out.cells
    have l_b := X_b.out.lt
    go_wp2_with fail
    refine (CS.out _ (HT.out.below (by have := B.out; have := B.out.size; go_grown))).mono ?_
    rintro r w2 ⟨rfl, hb⟩
    have S : Below w1.heap.size w1 w2 := bl_thru (by go_grown) (Nat.le_refl _) hb
    replace B := Lib.hid (bl_thru B.out (Nat.le_refl _) S)
    replace X_a := Lib.hid (X_a.out.below S)
    replace X_b := Lib.hid (X_b.out.below S)
    have X_s := Lib.hid ((Bx2.new w1 _ _ _).below hb)
    clear hb S c0_a c1_a l_a c0_b c1_b l_b
    obtain ⟨c0_a, c1_a, -, -⟩ := X_a.out.cells
    have l_a := X_a.out.lt
    obtain ⟨c0_b, c1_b, -, -⟩ := X_b.out.cells
    have l_b := X_b.out.lt
    go_wp2_with fail
    refine (CM.out _ (HT.out.below (by have := B.out; have := B.out.size; go_grown))).mono ?_
    rintro r w3 ⟨rfl, hb⟩
    have S : Below w2.heap.size w2 w3 := bl_thru (by go_grown) (Nat.le_refl _) hb
    replace B := Lib.hid (bl_thru B.out (Nat.le_refl _) S)
    replace X_a := Lib.hid (X_a.out.below S)
    replace X_b := Lib.hid (X_b.out.below S)
    replace X_s := Lib.hid (X_s.out.below S)
    have X_d := Lib.hid ((Bx2.new w2 _ _ _).below hb)
    clear hb S c0_a c1_a l_a c0_b c1_b l_b
    obtain ⟨c0_a, c1_a, -, -⟩ := X_a.out.cells
    have l_a := X_a.out.lt
    obtain ⟨c0_b, c1_b, -, -⟩ := X_b.out.cells
    have l_b := X_b.out.lt
    go_wp2_with fail
    refine (CD.out _ (HT.out.below (by have := B.out; have := B.out.size; go_grown))).mono ?_
    rintro r w4 ⟨rfl, hb⟩
    have S : Below w3.heap.size w3 w4 := bl_thru (by go_grown) (Nat.le_refl _) hb
    replace B := Lib.hid (bl_thru B.out (Nat.le_refl _) S)
    replace X_a := Lib.hid (X_a.out.below S)
    replace X_b := Lib.hid (X_b.out.below S)
    replace X_s := Lib.hid (X_s.out.below S)
    replace X_d := Lib.hid (X_d.out.below S)
    have X_p := Lib.hid ((Bx2.new w3 _ _ _).below hb)
    clear hb S c0_a c1_a l_a c0_b c1_b l_b
    go_wp2_with fail
    refine (spanLives_any _ (HT.out.below (by have := B.out; have := B.out.size; go_grown))).mono ?_
    rintro r w5 ⟨rfl, hb⟩
    have S : Below w4.heap.size w4 w5 := bl_thru (by go_grown) (Nat.le_refl _) hb
    replace B := Lib.hid (bl_thru B.out (Nat.le_refl _) S)
    replace X_a := Lib.hid (X_a.out.below S)
    replace X_b := Lib.hid (X_b.out.below S)
    replace X_s := Lib.hid (X_s.out.below S)
    replace X_d := Lib.hid (X_d.out.below S)
    replace X_p := Lib.hid (X_p.out.below S)
    have X_q := Lib.hid ((Bx2.new w4 _ _ _).below hb)
    clear hb S
    obtain ⟨c0_a, c1_a, -, -⟩ := X_a.out.cells
    have l_a := X_a.out.lt
    go_wp2_with fail
    refine (HA.out _).mono ?_
    rintro r w6 ⟨rfl, hb⟩
    have S : Below w5.heap.size w5 w6 := hb
    replace B := Lib.hid (bl_thru B.out (Nat.le_refl _) S)
    replace X_a := Lib.hid (X_a.out.below S)
    replace X_b := Lib.hid (X_b.out.below S)
    replace X_s := Lib.hid (X_s.out.below S)
    replace X_d := Lib.hid (X_d.out.below S)
    replace X_p := Lib.hid (X_p.out.below S)
    replace X_q := Lib.hid (X_q.out.below S)
    clear hb S c0_a c1_a l_a
    obtain ⟨c0_b, c1_b, -, -⟩ := X_b.out.cells
    have l_b := X_b.out.lt
    go_wp2_with fail
    refine (HB.out _).mono ?_
    rintro r w7 ⟨rfl, hb⟩
    have S : Below w6.heap.size w6 w7 := hb
    replace B := Lib.hid (bl_thru B.out (Nat.le_refl _) S)
    replace X_a := Lib.hid (X_a.out.below S)
    replace X_b := Lib.hid (X_b.out.below S)
    replace X_s := Lib.hid (X_s.out.below S)
    replace X_d := Lib.hid (X_d.out.below S)
    replace X_p := Lib.hid (X_p.out.below S)
    replace X_q := Lib.hid (X_q.out.below S)
    clear hb S c0_b c1_b l_b
    go_wp2_with fail
    refine (spanLives_any _ (HT.out.below B.out)).mono ?_
    rintro r w8 ⟨rfl, hb⟩
    have S : Below w7.heap.size w7 w8 := hb
    replace B := Lib.hid (bl_thru B.out (Nat.le_refl _) S)
    clear X_a
    clear X_b
    clear X_s
    clear X_d
    clear X_p
    clear X_q
    clear hb S
    go_wp2
    go_ret
    exact ⟨rfl, B.out⟩
  · obtain ⟨rfl, rfl, rfl, rfl, rfl, rfl, hq⟩ := L.out rfl rfl h1 h2
    clear L
    rcases hq with ⟨rfl, rfl⟩ | ⟨rfl, rfl⟩
    · go_enter Tryd.func5, Tryd.ntmps5
      go_wp2_with fail
      refine (CA.out _ (HT.out.below (by go_grown))).mono ?_
      rintro r w1 ⟨rfl, hb⟩
      have S : Below w.heap.size w w1 := bl_thru (by go_grown) (Nat.le_refl _) hb
      have B := Lib.hid S
      have X_a := Lib.hid (((Bx2.new w _ _ _).alloc _).below hb)
      have X_b := Lib.hid ((Bx2.new2 w _ _ _ _).below hb)
      clear hb S
      obtain ⟨c0_a, c1_a, -, -⟩ := X_a.out.cells
      have l_a := X_a.out.lt
      obtain ⟨c0_b, c1_b, -, -⟩ := X_b.out.cells
      have l_b := X_b.out.lt
      go_wp2_with fail
      refine (CS.out _ (HT.out.below (by have := B.out; have := B.out.size; go_grown))).mono ?_
      rintro r w2 ⟨rfl, hb⟩
      have S : Below w1.heap.size w1 w2 := bl_thru (by go_grown) (Nat.le_refl _) hb
      replace B := Lib.hid (bl_thru B.out (Nat.le_refl _) S)
      replace X_a := Lib.hid (X_a.out.below S)
      replace X_b := Lib.hid (X_b.out.below S)
      have X_s := Lib.hid ((Bx2.new w1 _ _ _).below hb)
      clear hb S c0_a c1_a l_a c0_b c1_b l_b
      obtain ⟨c0_a, c1_a, -, -⟩ := X_a.out.cells
      have l_a := X_a.out.lt
      obtain ⟨c0_b, c1_b, -, -⟩ := X_b.out.cells
      have l_b := X_b.out.lt
      go_wp2_with fail
      refine (CM.out _ (HT.out.below (by have := B.out; have := B.out.size; go_grown))).mono ?_
      rintro r w3 ⟨rfl, hb⟩
      have S : Below w2.heap.size w2 w3 := bl_thru (by go_grown) (Nat.le_refl _) hb
      replace B := Lib.hid (bl_thru B.out (Nat.le_refl _) S)
      replace X_a := Lib.hid (X_a.out.below S)
      replace X_b := Lib.hid (X_b.out.below S)
      replace X_s := Lib.hid (X_s.out.below S)
      have X_d := Lib.hid ((Bx2.new w2 _ _ _).below hb)
      clear hb S c0_a c1_a l_a c0_b c1_b l_b
      obtain ⟨c0_a, c1_a, -, -⟩ := X_a.out.cells
      have l_a := X_a.out.lt
      obtain ⟨c0_b, c1_b, -, -⟩ := X_b.out.cells
      have l_b := X_b.out.lt
      go_wp2_with fail
      refine (CD.out _ (HT.out.below (by have := B.out; have := B.out.size; go_grown))).mono ?_
      rintro r w4 ⟨rfl, hb⟩
      have S : Below w3.heap.size w3 w4 := bl_thru (by go_grown) (Nat.le_refl _) hb
      replace B := Lib.hid (bl_thru B.out (Nat.le_refl _) S)
      replace X_a := Lib.hid (X_a.out.below S)
      replace X_b := Lib.hid (X_b.out.below S)
      replace X_s := Lib.hid (X_s.out.below S)
      replace X_d := Lib.hid (X_d.out.below S)
      have X_p := Lib.hid ((Bx2.new w3 _ _ _).below hb)
      clear hb S c0_a c1_a l_a c0_b c1_b l_b
      go_wp2_with fail
      refine (spanLives_any _ (HT.out.below (by have := B.out; have := B.out.size; go_grown))).mono ?_
      rintro r w5 ⟨rfl, hb⟩
      have S : Below w4.heap.size w4 w5 := bl_thru (by go_grown) (Nat.le_refl _) hb
      replace B := Lib.hid (bl_thru B.out (Nat.le_refl _) S)
      replace X_a := Lib.hid (X_a.out.below S)
      replace X_b := Lib.hid (X_b.out.below S)
      replace X_s := Lib.hid (X_s.out.below S)
      replace X_d := Lib.hid (X_d.out.below S)
      replace X_p := Lib.hid (X_p.out.below S)
      have X_q := Lib.hid ((Bx2.new w4 _ _ _).below hb)
      clear hb S
      obtain ⟨c0_a, c1_a, -, -⟩ := X_a.out.cells
      have l_a := X_a.out.lt
      go_wp2_with fail
      refine (HA.out _).mono ?_
      rintro r w6 ⟨rfl, hb⟩
      have S : Below w5.heap.size w5 w6 := hb
      replace B := Lib.hid (bl_thru B.out (Nat.le_refl _) S)
      replace X_a := Lib.hid (X_a.out.below S)
      replace X_b := Lib.hid (X_b.out.below S)
      replace X_s := Lib.hid (X_s.out.below S)
      replace X_d := Lib.hid (X_d.out.below S)
      replace X_p := Lib.hid (X_p.out.below S)
      replace X_q := Lib.hid (X_q.out.below S)
      clear hb S c0_a c1_a l_a
      obtain ⟨c0_b, c1_b, -, -⟩ := X_b.out.cells
      have l_b := X_b.out.lt
      go_wp2_with fail
      refine (HB.out _).mono ?_
      rintro r w7 ⟨rfl, hb⟩
      have S : Below w6.heap.size w6 w7 := hb
      replace B := Lib.hid (bl_thru B.out (Nat.le_refl _) S)
      replace X_a := Lib.hid (X_a.out.below S)
      replace X_b := Lib.hid (X_b.out.below S)
      replace X_s := Lib.hid (X_s.out.below S)
      replace X_d := Lib.hid (X_d.out.below S)
      replace X_p := Lib.hid (X_p.out.below S)
      replace X_q := Lib.hid (X_q.out.below S)
      clear hb S c0_b c1_b l_b
      go_wp2_with fail
      refine (KA.out _ (HT.out.below B.out)).mono ?_
      rintro r w8 ⟨rfl, hb⟩
      have S : Below w7.heap.size w7 w8 := hb
      replace B := Lib.hid (bl_thru B.out (Nat.le_refl _) S)
      clear X_a
      replace X_b := Lib.hid (X_b.out.below S)
      replace X_s := Lib.hid (X_s.out.below S)
      replace X_d := Lib.hid (X_d.out.below S)
      replace X_p := Lib.hid (X_p.out.below S)
      replace X_q := Lib.hid (X_q.out.below S)
      clear hb S
      go_wp2_with fail
      refine (KS.out _ (HT.out.below B.out)).mono ?_
      rintro r w9 ⟨rfl, hb⟩
      have S : Below w8.heap.size w8 w9 := hb
      replace B := Lib.hid (bl_thru B.out (Nat.le_refl _) S)
      replace X_b := Lib.hid (X_b.out.below S)
      replace X_s := Lib.hid (X_s.out.below S)
      replace X_d := Lib.hid (X_d.out.below S)
      replace X_p := Lib.hid (X_p.out.below S)
      replace X_q := Lib.hid (X_q.out.below S)
      clear hb S
      go_wp2_with fail
      refine (KM.out _ (HT.out.below B.out)).mono ?_
      rintro r w10 ⟨rfl, hb⟩
      have S : Below w9.heap.size w9 w10 := hb
      replace B := Lib.hid (bl_thru B.out (Nat.le_refl _) S)
      replace X_b := Lib.hid (X_b.out.below S)
      replace X_s := Lib.hid (X_s.out.below S)
      replace X_d := Lib.hid (X_d.out.below S)
      replace X_p := Lib.hid (X_p.out.below S)
      replace X_q := Lib.hid (X_q.out.below S)
      clear hb S
      go_wp2_with fail
      refine (KD.out _ (HT.out.below B.out)).mono ?_
      rintro r w11 ⟨rfl, hb⟩
      have S : Below w10.heap.size w10 w11 := hb
      replace B := Lib.hid (bl_thru B.out (Nat.le_refl _) S)
      replace X_b := Lib.hid (X_b.out.below S)
      replace X_s := Lib.hid (X_s.out.below S)
      replace X_d := Lib.hid (X_d.out.below S)
      replace X_p := Lib.hid (X_p.out.below S)
      replace X_q := Lib.hid (X_q.out.below S)
      clear hb S
      obtain ⟨c0_s, c1_s, -, -⟩ := X_s.out.cells
      have l_s := X_s.out.lt
      go_wp2_with (go_at_call 15; refine (ok_new7 _ _ _ _ _ _ _  _ _ rfl).mono ?_; rintro e w' ⟨rfl, rfl⟩)
      refine (I1.out _).mono ?_
      rintro r w12 ⟨rfl, hb⟩
      have S : Below w11.heap.size w11 w12 := bl_thru (by go_grown) (Nat.le_refl _) hb
      replace B := Lib.hid (bl_thru B.out (Nat.le_refl _) S)
      replace X_b := Lib.hid (X_b.out.below S)
      replace X_s := Lib.hid (X_s.out.below S)
      replace X_d := Lib.hid (X_d.out.below S)
      replace X_p := Lib.hid (X_p.out.below S)
      replace X_q := Lib.hid (X_q.out.below S)
      clear hb S c0_s c1_s l_s
      obtain ⟨c0_d, c1_d, -, -⟩ := X_d.out.cells
      have l_d := X_d.out.lt
      go_wp2_with fail
      refine (I2.out _).mono ?_
      rintro r w13 ⟨rfl, hb⟩
      have S : Below w12.heap.size w12 w13 := hb
      replace B := Lib.hid (bl_thru B.out (Nat.le_refl _) S)
      replace X_b := Lib.hid (X_b.out.below S)
      replace X_s := Lib.hid (X_s.out.below S)
      replace X_d := Lib.hid (X_d.out.below S)
      replace X_p := Lib.hid (X_p.out.below S)
      replace X_q := Lib.hid (X_q.out.below S)
      clear hb S c0_d c1_d l_d
      obtain ⟨c0_p, c1_p, -, -⟩ := X_p.out.cells
      have l_p := X_p.out.lt
      go_wp2_with fail
      refine (I3.out _).mono ?_
      rintro r w14 ⟨rfl, hb⟩
      have S : Below w13.heap.size w13 w14 := hb
      replace B := Lib.hid (bl_thru B.out (Nat.le_refl _) S)
      replace X_b := Lib.hid (X_b.out.below S)
      replace X_s := Lib.hid (X_s.out.below S)
      replace X_d := Lib.hid (X_d.out.below S)
      replace X_p := Lib.hid (X_p.out.below S)
      replace X_q := Lib.hid (X_q.out.below S)
      clear hb S c0_p c1_p l_p
      obtain ⟨c0_q, c1_q, -, -⟩ := X_q.out.cells
      have l_q := X_q.out.lt
      go_wp2_with fail
      refine (I4.out _).mono ?_
      rintro r w15 ⟨rfl, hb⟩
      have S : Below w14.heap.size w14 w15 := hb
      replace B := Lib.hid (bl_thru B.out (Nat.le_refl _) S)
      clear X_b
      clear X_s
      clear X_d
      clear X_p
      clear X_q
      clear hb S c0_q c1_q l_q
      go_wp2
      go_ret
      exact ⟨rfl, B.out⟩
    · go_enter Tryd.func5, Tryd.ntmps5
      go_wp2_with fail
      refine (CA.out _ (HT.out.below (by go_grown))).mono ?_
      rintro r w1 ⟨rfl, hb⟩
      have S : Below w.heap.size w w1 := bl_thru (by go_grown) (Nat.le_refl _) hb
      have B := Lib.hid S
      have X_a := Lib.hid (((Bx2.new w _ _ _).alloc _).below hb)
      have X_b := Lib.hid ((Bx2.new2 w _ _ _ _).below hb)
      clear hb S
      obtain ⟨c0_a, c1_a, -, -⟩ := X_a.out.cells
      have l_a := X_a.out.lt
      obtain ⟨c0_b, c1_b, -, -⟩ := X_b.out.cells
      have l_b := X_b.out.lt
      go_wp2_with fail
      refine (CS.out _ (HT.out.below (by have := B.out; have := B.out.size; go_grown))).mono ?_
      rintro r w2 ⟨rfl, hb⟩
      have S : Below w1.heap.size w1 w2 := bl_thru (by go_grown) (Nat.le_refl _) hb
      replace B := Lib.hid (bl_thru B.out (Nat.le_refl _) S)
      replace X_a := Lib.hid (X_a.out.below S)
      replace X_b := Lib.hid (X_b.out.below S)
      have X_s := Lib.hid ((Bx2.new w1 _ _ _).below hb)
      clear hb S c0_a c1_a l_a c0_b c1_b l_b
      obtain ⟨c0_a, c1_a, -, -⟩ := X_a.out.cells
      have l_a := X_a.out.lt
      obtain ⟨c0_b, c1_b, -, -⟩ := X_b.out.cells
      have l_b := X_b.out.lt
      go_wp2_with fail
      refine (CM.out _ (HT.out.below (by have := B.out; have := B.out.size; go_grown))).mono ?_
      rintro r w3 ⟨rfl, hb⟩
      have S : Below w2.heap.size w2 w3 := bl_thru (by go_grown) (Nat.le_refl _) hb
      replace B := Lib.hid (bl_thru B.out (Nat.le_refl _) S)
      replace X_a := Lib.hid (X_a.out.below S)
      replace X_b := Lib.hid (X_b.out.below S)
      replace X_s := Lib.hid (X_s.out.below S)
      have X_d := Lib.hid ((Bx2.new w2 _ _ _).below hb)
      clear hb S c0_a c1_a l_a c0_b c1_b l_b
      obtain ⟨c0_a, c1_a, -, -⟩ := X_a.out.cells
      have l_a := X_a.out.lt
      obtain ⟨c0_b, c1_b, -, -⟩ := X_b.out.cells
      have l_b := X_b.out.lt
      go_wp2_with fail
      refine (CD.out _ (HT.out.below (by have := B.out; have := B.out.size; go_grown))).mono ?_
      rintro r w4 ⟨rfl, hb⟩
      have S : Below w3.heap.size w3 w4 := bl_thru (by go_grown) (Nat.le_refl _) hb
      replace B := Lib.hid (bl_thru B.out (Nat.le_refl _) S)
      replace X_a := Lib.hid (X_a.out.below S)
      replace X_b := Lib.hid (X_b.out.below S)
      replace X_s := Lib.hid (X_s.out.below S)
      replace X_d := Lib.hid (X_d.out.below S)
      have X_p := Lib.hid ((Bx2.new w3 _ _ _).below hb)
      clear hb S c0_a c1_a l_a c0_b c1_b l_b
      go_wp2_with fail
      refine (spanLives_any _ (HT.out.below (by have := B.out; have := B.out.size; go_grown))).mono ?_
      rintro r w5 ⟨rfl, hb⟩
      have S : Below w4.heap.size w4 w5 := bl_thru (by go_grown) (Nat.le_refl _) hb
      replace B := Lib.hid (bl_thru B.out (Nat.le_refl _) S)
      replace X_a := Lib.hid (X_a.out.below S)
      replace X_b := Lib.hid (X_b.out.below S)
      replace X_s := Lib.hid (X_s.out.below S)
      replace X_d := Lib.hid (X_d.out.below S)
      replace X_p := Lib.hid (X_p.out.below S)
      have X_q := Lib.hid ((Bx2.new w4 _ _ _).below hb)
      clear hb S
      obtain ⟨c0_a, c1_a, -, -⟩ := X_a.out.cells
      have l_a := X_a.out.lt
      go_wp2_with fail
      refine (HA.out _).mono ?_
      rintro r w6 ⟨rfl, hb⟩
      have S : Below w5.heap.size w5 w6 := hb
      replace B := Lib.hid (bl_thru B.out (Nat.le_refl _) S)
      replace X_a := Lib.hid (X_a.out.below S)
      replace X_b := Lib.hid (X_b.out.below S)
      replace X_s := Lib.hid (X_s.out.below S)
      replace X_d := Lib.hid (X_d.out.below S)
      replace X_p := Lib.hid (X_p.out.below S)
      replace X_q := Lib.hid (X_q.out.below S)
      clear hb S c0_a c1_a l_a
      obtain ⟨c0_b, c1_b, -, -⟩ := X_b.out.cells
      have l_b := X_b.out.lt
      go_wp2_with fail
      refine (HB.out _).mono ?_
      rintro r w7 ⟨rfl, hb⟩
      have S : Below w6.heap.size w6 w7 := hb
      replace B := Lib.hid (bl_thru B.out (Nat.le_refl _) S)
      replace X_a := Lib.hid (X_a.out.below S)
      replace X_b := Lib.hid (X_b.out.below S)
      replace X_s := Lib.hid (X_s.out.below S)
      replace X_d := Lib.hid (X_d.out.below S)
      replace X_p := Lib.hid (X_p.out.below S)
      replace X_q := Lib.hid (X_q.out.below S)
      clear hb S c0_b c1_b l_b
      go_wp2_with fail
      refine (KA.out _ (HT.out.below B.out)).mono ?_
      rintro r w8 ⟨rfl, hb⟩
      have S : Below w7.heap.size w7 w8 := hb
      replace B := Lib.hid (bl_thru B.out (Nat.le_refl _) S)
      clear X_a
      replace X_b := Lib.hid (X_b.out.below S)
      replace X_s := Lib.hid (X_s.out.below S)
      replace X_d := Lib.hid (X_d.out.below S)
      replace X_p := Lib.hid (X_p.out.below S)
      replace X_q := Lib.hid (X_q.out.below S)
      clear hb S
      go_wp2_with fail
      refine (KS.out _ (HT.out.below B.out)).mono ?_
      rintro r w9 ⟨rfl, hb⟩
      have S : Below w8.heap.size w8 w9 := hb
      replace B := Lib.hid (bl_thru B.out (Nat.le_refl _) S)
      replace X_b := Lib.hid (X_b.out.below S)
      replace X_s := Lib.hid (X_s.out.below S)
      replace X_d := Lib.hid (X_d.out.below S)
      replace X_p := Lib.hid (X_p.out.below S)
      replace X_q := Lib.hid (X_q.out.below S)
      clear hb S
      go_wp2_with fail
      refine (KM.out _ (HT.out.below B.out)).mono ?_
      rintro r w10 ⟨rfl, hb⟩
      have S : Below w9.heap.size w9 w10 := hb
      replace B := Lib.hid (bl_thru B.out (Nat.le_refl _) S)
      replace X_b := Lib.hid (X_b.out.below S)
      replace X_s := Lib.hid (X_s.out.below S)
      replace X_d := Lib.hid (X_d.out.below S)
      replace X_p := Lib.hid (X_p.out.below S)
      replace X_q := Lib.hid (X_q.out.below S)
      clear hb S
      go_wp2_with fail
      refine (KD.out _ (HT.out.below B.out)).mono ?_
      rintro r w11 ⟨rfl, hb⟩
      have S : Below w10.heap.size w10 w11 := hb
      replace B := Lib.hid (bl_thru B.out (Nat.le_refl _) S)
      replace X_b := Lib.hid (X_b.out.below S)
      replace X_s := Lib.hid (X_s.out.below S)
      replace X_d := Lib.hid (X_d.out.below S)
      replace X_p := Lib.hid (X_p.out.below S)
      replace X_q := Lib.hid (X_q.out.below S)
      clear hb S
      obtain ⟨c0_s, c1_s, -, -⟩ := X_s.out.cells
      have l_s := X_s.out.lt
      go_wp2_with (go_at_call 15; refine (ok_new7 _ _ _ _ _ _ _  _ _ rfl).mono ?_; rintro e w' ⟨rfl, rfl⟩)
      refine (I1.out _).mono ?_
      rintro r w12 ⟨rfl, hb⟩
      have S : Below w11.heap.size w11 w12 := bl_thru (by go_grown) (Nat.le_refl _) hb
      replace B := Lib.hid (bl_thru B.out (Nat.le_refl _) S)
      replace X_b := Lib.hid (X_b.out.below S)
      replace X_s := Lib.hid (X_s.out.below S)
      replace X_d := Lib.hid (X_d.out.below S)
      replace X_p := Lib.hid (X_p.out.below S)
      replace X_q := Lib.hid (X_q.out.below S)
      clear hb S c0_s c1_s l_s
      obtain ⟨c0_d, c1_d, -, -⟩ := X_d.out.cells
      have l_d := X_d.out.lt
      go_wp2_with fail
      refine (I2.out _).mono ?_
      rintro r w13 ⟨rfl, hb⟩
      have S : Below w12.heap.size w12 w13 := hb
      replace B := Lib.hid (bl_thru B.out (Nat.le_refl _) S)
      replace X_b := Lib.hid (X_b.out.below S)
      replace X_s := Lib.hid (X_s.out.below S)
      replace X_d := Lib.hid (X_d.out.below S)
      replace X_p := Lib.hid (X_p.out.below S)
      replace X_q := Lib.hid (X_q.out.below S)
      clear hb S c0_d c1_d l_d
      obtain ⟨c0_p, c1_p, -, -⟩ := X_p.out.cells
      have l_p := X_p.out.lt
      go_wp2_with fail
      refine (I3.out _).mono ?_
      rintro r w14 ⟨rfl, hb⟩
      have S : Below w13.heap.size w13 w14 := hb
      replace B := Lib.hid (bl_thru B.out (Nat.le_refl _) S)
      replace X_b := Lib.hid (X_b.out.below S)
      replace X_s := Lib.hid (X_s.out.below S)
      replace X_d := Lib.hid (X_d.out.below S)
      replace X_p := Lib.hid (X_p.out.below S)
      replace X_q := Lib.hid (X_q.out.below S)
      clear hb S c0_p c1_p l_p
      obtain ⟨c0_b, c1_b, -, -⟩ := X_b.out.cells
      have l_b := X_b.out.lt
      go_wp2_with fail
      refine (HZ.out _).mono ?_
      rintro r w15 ⟨rfl, hb⟩
      have S : Below w14.heap.size w14 w15 := hb
      replace B := Lib.hid (bl_thru B.out (Nat.le_refl _) S)
      clear X_b
      clear X_s
      clear X_d
      clear X_p
      clear X_q
      clear hb S c0_b c1_b l_b
      go_wp2
      go_ret
      exact ⟨rfl, B.out⟩
end Go.Proofs.YtfnchcogdmpojaaDoor
