/-
  THE WALK of the law SpanJoins.
-/
import Derived.Test.YtfnchcogdmpojaaDoorSl2
import Derived.Test.YtfnchcogdmpojaaDoorSj
set_option linter.unusedVariables false
set_option linter.unusedSimpArgs false
namespace Go.Proofs.YtfnchcogdmpojaaDoor
open Go.RowKit Nt Fm Fl

set_option maxRecDepth 100000 in
set_option maxHeartbeats 16000000 in
theorem walkSpanJoins (a a' : Int) (a0 : 0 ≤ a) (a1 : a ≤ 18446744073709551615) (a0' : 0 ≤ a') (a1' : a' ≤ 18446744073709551615) (b b' : Int) (b0 : 0 ≤ b) (b1 : b ≤ 18446744073709551615) (b0' : 0 ≤ b') (b1' : b' ≤ 18446744073709551615) (x : Int) (x0 : 0 ≤ x) (x1 : x ≤ 18446744073709551615) (w : World) (hT : Tab w) :
    Calls Tryd.prog 3 #[.agg #[.int .u64 a, .int .u64 a'], .agg #[.int .u64 b, .int .u64 b'], .int .u64 x] w fun e w' => e = .returned (.bool true) ∧ Below w.heap.size w w' := by
  have L := Lib.hid (fun he => spanJoins_a (x := x) ⟨a0, a1⟩ ⟨a0', a1'⟩ ⟨b0, b1⟩ ⟨b0', b1'⟩ ⟨x0, x1⟩ he)
  have LE := Lib.hid (fun h => @spanJoins_e a a' b b' h)
  have CH := Lib.hid (fun w' => spHull_any a a' b b' a0 a1 a0' a1' b0 b1 b0' b1' w')
  have CM := Lib.hid (fun w' => spMeet_any a a' b b' a0 a1 a0' a1' b0 b1 b0' b1' w')
  have HA := Lib.hid (fun w' => spHas_any a a' x a0 a1 a0' a1' x0 x1 w')
  have HB := Lib.hid (fun w' => spHas_any b b' x b0 b1 b0' b1' x0 x1 w')
  obtain ⟨⟨⟨s0, s1⟩, ⟨s2, s3⟩⟩, ⟨⟨s4, s5⟩, ⟨s6, s7⟩⟩⟩ := spanJoins_u ⟨a0, a1⟩ ⟨a0', a1'⟩ ⟨b0, b1⟩ ⟨b0', b1'⟩
  have W1 := Lib.hid (fun w' => spWithin_any a a' (huLo a a' b b') (huHi a a' b b') a0 a1 a0' a1' s0 s1 s2 s3 w')
  have W2 := Lib.hid (fun w' => spWithin_any b b' (huLo a a' b b') (huHi a a' b b') b0 b1 b0' b1' s0 s1 s2 s3 w')
  have W3 := Lib.hid (fun w' => spWithin_any (meLo a a' b b') (meHi a a' b b') a a' s4 s5 s6 s7 a0 a1 a0' a1' w')
  have W4 := Lib.hid (fun w' => spWithin_any (meLo a a' b b') (meHi a a' b b') b b' s4 s5 s6 s7 b0 b1 b0' b1' w')
  have HM := Lib.hid (fun w' => spHas_any (meLo a a' b b') (meHi a a' b b') x s4 s5 s6 s7 x0 x1 w')
  clear s0 s1 s2 s3 s4 s5 s6 s7
  have HT := Lib.hid hT
  clear hT
  generalize wiB a a' (huLo a a' b b') (huHi a a' b b') = p1 at *
  generalize wiB b b' (huLo a a' b b') (huHi a a' b b') = p2 at *
  generalize wiB (meLo a a' b b') (meHi a a' b b') a a' = p3 at *
  generalize wiB (meLo a a' b b') (meHi a a' b b') b b' = p4 at *
  generalize spE2 a a' (huLo a a' b b') (huHi a a' b b') = e1 at *
  generalize spE2 b b' (huLo a a' b b') (huHi a a' b b') = e2 at *
  generalize spE2 (meLo a a' b b') (meHi a a' b b') a a' = e3 at *
  generalize spE2 (meLo a a' b b') (meHi a a' b b') b b' = e4 at *
  generalize HasB (meLo a a' b b') (meHi a a' b b') x = hm at *
  generalize HasB a a' x = ha at *
  generalize HasB b b' x = hb' at *
  generalize meE a a' b b' = F at *
  generalize spE2 a a' b b' = E at *
  generalize huLo a a' b b' = hl at *
  generalize huHi a a' b b' = hh at *
  generalize meLo a a' b b' = ml at *
  generalize meHi a a' b b' = mh at *
  by_cases hE : E = 0
  · subst hE
    have L2 := Lib.hid (L.out rfl)
    clear L LE
    obtain ⟨⟨rfl, rfl, rfl, rfl⟩, -⟩ := L2.out
    go_enter Tryd.func3, Tryd.ntmps3
    go_wp2_with fail
    refine (CH.out _).mono ?_
    rintro r w1 ⟨rfl, hb⟩
    have S : Below w.heap.size w w1 := bl_thru (by go_grown) (Nat.le_refl _) hb
    have B := Lib.hid S
    have X_a := Lib.hid (((Bx2.new w _ _ _).alloc _).below hb)
    have X_b := Lib.hid ((Bx2.new2 w _ _ _ _).below hb)
    clear hb S
    obtain ⟨c0_a, c1_a, -, -⟩ := X_a.out.cells
    have l_a := X_a.out.lt
    obtain ⟨c0_b, c1_b, -, -⟩ := X_b.out.cells
    have l_b := X_b.out.lt
    go_wp2_with fail
    refine (CM.out _).mono ?_
    rintro r w2 ⟨rfl, hb⟩
    have S : Below w1.heap.size w1 w2 := bl_thru (by go_grown) (Nat.le_refl _) hb
    replace B := Lib.hid (bl_thru B.out (Nat.le_refl _) S)
    replace X_a := Lib.hid (X_a.out.below S)
    replace X_b := Lib.hid (X_b.out.below S)
    have X_h := Lib.hid ((Bx2.new w1 _ _ _).below hb)
    clear hb S c0_a c1_a l_a c0_b c1_b l_b
    go_wp2_with fail
    refine (spanLives_any _ (HT.out.below (by have := B.out; have := B.out.size; go_grown))).mono ?_
    rintro r w3 ⟨rfl, hb⟩
    have S : Below w2.heap.size w2 w3 := bl_thru (by go_grown) (Nat.le_refl _) hb
    replace B := Lib.hid (bl_thru B.out (Nat.le_refl _) S)
    replace X_a := Lib.hid (X_a.out.below S)
    replace X_b := Lib.hid (X_b.out.below S)
    replace X_h := Lib.hid (X_h.out.below S)
    have X_m := Lib.hid ((Bx2.new w2 _ _ _).below hb)
    clear hb S
    obtain ⟨c0_a, c1_a, -, -⟩ := X_a.out.cells
    have l_a := X_a.out.lt
    obtain ⟨c0_h, c1_h, -, -⟩ := X_h.out.cells
    have l_h := X_h.out.lt
    go_wp2_with fail
    refine (W1.out _).mono ?_
    rintro r w4 ⟨rfl, hb⟩
    have S : Below w3.heap.size w3 w4 := hb
    replace B := Lib.hid (bl_thru B.out (Nat.le_refl _) S)
    replace X_a := Lib.hid (X_a.out.below S)
    replace X_b := Lib.hid (X_b.out.below S)
    replace X_h := Lib.hid (X_h.out.below S)
    replace X_m := Lib.hid (X_m.out.below S)
    clear hb S c0_a c1_a l_a c0_h c1_h l_h
    obtain ⟨c0_b, c1_b, -, -⟩ := X_b.out.cells
    have l_b := X_b.out.lt
    obtain ⟨c0_h, c1_h, -, -⟩ := X_h.out.cells
    have l_h := X_h.out.lt
    go_wp2_with fail
    refine (W2.out _).mono ?_
    rintro r w5 ⟨rfl, hb⟩
    have S : Below w4.heap.size w4 w5 := hb
    replace B := Lib.hid (bl_thru B.out (Nat.le_refl _) S)
    replace X_a := Lib.hid (X_a.out.below S)
    replace X_b := Lib.hid (X_b.out.below S)
    replace X_h := Lib.hid (X_h.out.below S)
    replace X_m := Lib.hid (X_m.out.below S)
    clear hb S c0_b c1_b l_b c0_h c1_h l_h
    have L3 := Lib.hid L2.out.2.2.2
    have hcl := L2.out.2.1
    have hch := L2.out.2.2.1
    clear L2
    rcases hcl with k1 | ⟨k1, k2⟩ <;> rcases hch with k3 | ⟨k3, k4⟩
    all_goals
      obtain ⟨c0_a, c1_a, -, -⟩ := X_a.out.cells
      have l_a := X_a.out.lt
      obtain ⟨c0_b, c1_b, -, -⟩ := X_b.out.cells
      have l_b := X_b.out.lt
      obtain ⟨c0_h, c1_h, -, -⟩ := X_h.out.cells
      have l_h := X_h.out.lt
      go_wp2_with (go_at_call 15; refine (ok_new2 _ _  _ _ rfl).mono ?_; rintro e w' ⟨rfl, rfl⟩)
      refine (HA.out _).mono ?_
      rintro r w6 ⟨rfl, hb⟩
      have S : Below w5.heap.size w5 w6 := bl_thru (by go_grown) (Nat.le_refl _) hb
      replace B := Lib.hid (bl_thru B.out (Nat.le_refl _) S)
      replace X_a := Lib.hid (X_a.out.below S)
      replace X_b := Lib.hid (X_b.out.below S)
      replace X_h := Lib.hid (X_h.out.below S)
      replace X_m := Lib.hid (X_m.out.below S)
      clear hb S c0_a c1_a l_a c0_b c1_b l_b c0_h c1_h l_h
      clear k1 k3
      cases ha
      · rcases L3.out with ⟨rfl, hno⟩ | ⟨rfl, rfl, rfl, rfl, rfl, rfl⟩
        · clear hno L3
          go_wp2
          go_ret
          exact ⟨rfl, B.out⟩
        · clear L3
          obtain ⟨c0_m, c1_m, -, -⟩ := X_m.out.cells
          have l_m := X_m.out.lt
          obtain ⟨c0_a, c1_a, -, -⟩ := X_a.out.cells
          have l_a := X_a.out.lt
          go_wp2_with fail
          refine (W3.out _).mono ?_
          rintro r w7 ⟨rfl, hb⟩
          have S : Below w6.heap.size w6 w7 := hb
          replace B := Lib.hid (bl_thru B.out (Nat.le_refl _) S)
          replace X_a := Lib.hid (X_a.out.below S)
          replace X_b := Lib.hid (X_b.out.below S)
          replace X_h := Lib.hid (X_h.out.below S)
          replace X_m := Lib.hid (X_m.out.below S)
          clear hb S c0_m c1_m l_m c0_a c1_a l_a
          obtain ⟨c0_m, c1_m, -, -⟩ := X_m.out.cells
          have l_m := X_m.out.lt
          obtain ⟨c0_b, c1_b, -, -⟩ := X_b.out.cells
          have l_b := X_b.out.lt
          go_wp2_with fail
          refine (W4.out _).mono ?_
          rintro r w8 ⟨rfl, hb⟩
          have S : Below w7.heap.size w7 w8 := hb
          replace B := Lib.hid (bl_thru B.out (Nat.le_refl _) S)
          replace X_a := Lib.hid (X_a.out.below S)
          replace X_b := Lib.hid (X_b.out.below S)
          replace X_h := Lib.hid (X_h.out.below S)
          replace X_m := Lib.hid (X_m.out.below S)
          clear hb S c0_m c1_m l_m c0_b c1_b l_b
          obtain ⟨c0_m, c1_m, -, -⟩ := X_m.out.cells
          have l_m := X_m.out.lt
          go_wp2_with (go_at_call 15; refine (ok_new2 _ _  _ _ rfl).mono ?_; rintro e w' ⟨rfl, rfl⟩)
          refine (HM.out _).mono ?_
          rintro r w9 ⟨rfl, hb⟩
          have S : Below w8.heap.size w8 w9 := bl_thru (by go_grown) (Nat.le_refl _) hb
          replace B := Lib.hid (bl_thru B.out (Nat.le_refl _) S)
          clear X_a
          clear X_b
          clear X_h
          clear X_m
          clear hb S c0_m c1_m l_m
          go_wp2
          go_ret
          exact ⟨rfl, B.out⟩
      · obtain ⟨c0_b, c1_b, -, -⟩ := X_b.out.cells
        have l_b := X_b.out.lt
        go_wp2_with fail
        refine (HB.out _).mono ?_
        rintro r w7 ⟨rfl, hb⟩
        have S : Below w6.heap.size w6 w7 := hb
        replace B := Lib.hid (bl_thru B.out (Nat.le_refl _) S)
        replace X_a := Lib.hid (X_a.out.below S)
        replace X_b := Lib.hid (X_b.out.below S)
        replace X_h := Lib.hid (X_h.out.below S)
        replace X_m := Lib.hid (X_m.out.below S)
        clear hb S c0_b c1_b l_b
        cases hb'
        · rcases L3.out with ⟨rfl, hno⟩ | ⟨rfl, rfl, rfl, rfl, rfl, rfl⟩
          · clear hno L3
            go_wp2
            go_ret
            exact ⟨rfl, B.out⟩
          · clear L3
            obtain ⟨c0_m, c1_m, -, -⟩ := X_m.out.cells
            have l_m := X_m.out.lt
            obtain ⟨c0_a, c1_a, -, -⟩ := X_a.out.cells
            have l_a := X_a.out.lt
            go_wp2_with fail
            refine (W3.out _).mono ?_
            rintro r w8 ⟨rfl, hb⟩
            have S : Below w7.heap.size w7 w8 := hb
            replace B := Lib.hid (bl_thru B.out (Nat.le_refl _) S)
            replace X_a := Lib.hid (X_a.out.below S)
            replace X_b := Lib.hid (X_b.out.below S)
            replace X_h := Lib.hid (X_h.out.below S)
            replace X_m := Lib.hid (X_m.out.below S)
            clear hb S c0_m c1_m l_m c0_a c1_a l_a
            obtain ⟨c0_m, c1_m, -, -⟩ := X_m.out.cells
            have l_m := X_m.out.lt
            obtain ⟨c0_b, c1_b, -, -⟩ := X_b.out.cells
            have l_b := X_b.out.lt
            go_wp2_with fail
            refine (W4.out _).mono ?_
            rintro r w9 ⟨rfl, hb⟩
            have S : Below w8.heap.size w8 w9 := hb
            replace B := Lib.hid (bl_thru B.out (Nat.le_refl _) S)
            replace X_a := Lib.hid (X_a.out.below S)
            replace X_b := Lib.hid (X_b.out.below S)
            replace X_h := Lib.hid (X_h.out.below S)
            replace X_m := Lib.hid (X_m.out.below S)
            clear hb S c0_m c1_m l_m c0_b c1_b l_b
            obtain ⟨c0_m, c1_m, -, -⟩ := X_m.out.cells
            have l_m := X_m.out.lt
            go_wp2_with (go_at_call 15; refine (ok_new2 _ _  _ _ rfl).mono ?_; rintro e w' ⟨rfl, rfl⟩)
            refine (HM.out _).mono ?_
            rintro r w10 ⟨rfl, hb⟩
            have S : Below w9.heap.size w9 w10 := bl_thru (by go_grown) (Nat.le_refl _) hb
            replace B := Lib.hid (bl_thru B.out (Nat.le_refl _) S)
            clear X_a
            clear X_b
            clear X_h
            clear X_m
            clear hb S c0_m c1_m l_m
            go_wp2
            go_ret
            exact ⟨rfl, B.out⟩
        · rcases L3.out with ⟨rfl, hno⟩ | ⟨rfl, rfl, rfl, rfl, rfl, rfl⟩
          · exact absurd hno (by decide)
          · clear L3
            obtain ⟨c0_m, c1_m, -, -⟩ := X_m.out.cells
            have l_m := X_m.out.lt
            obtain ⟨c0_a, c1_a, -, -⟩ := X_a.out.cells
            have l_a := X_a.out.lt
            go_wp2_with fail
            refine (W3.out _).mono ?_
            rintro r w8 ⟨rfl, hb⟩
            have S : Below w7.heap.size w7 w8 := hb
            replace B := Lib.hid (bl_thru B.out (Nat.le_refl _) S)
            replace X_a := Lib.hid (X_a.out.below S)
            replace X_b := Lib.hid (X_b.out.below S)
            replace X_h := Lib.hid (X_h.out.below S)
            replace X_m := Lib.hid (X_m.out.below S)
            clear hb S c0_m c1_m l_m c0_a c1_a l_a
            obtain ⟨c0_m, c1_m, -, -⟩ := X_m.out.cells
            have l_m := X_m.out.lt
            obtain ⟨c0_b, c1_b, -, -⟩ := X_b.out.cells
            have l_b := X_b.out.lt
            go_wp2_with fail
            refine (W4.out _).mono ?_
            rintro r w9 ⟨rfl, hb⟩
            have S : Below w8.heap.size w8 w9 := hb
            replace B := Lib.hid (bl_thru B.out (Nat.le_refl _) S)
            replace X_a := Lib.hid (X_a.out.below S)
            replace X_b := Lib.hid (X_b.out.below S)
            replace X_h := Lib.hid (X_h.out.below S)
            replace X_m := Lib.hid (X_m.out.below S)
            clear hb S c0_m c1_m l_m c0_b c1_b l_b
            obtain ⟨c0_m, c1_m, -, -⟩ := X_m.out.cells
            have l_m := X_m.out.lt
            go_wp2_with (go_at_call 15; refine (ok_new2 _ _  _ _ rfl).mono ?_; rintro e w' ⟨rfl, rfl⟩)
            refine (HM.out _).mono ?_
            rintro r w10 ⟨rfl, hb⟩
            have S : Below w9.heap.size w9 w10 := bl_thru (by go_grown) (Nat.le_refl _) hb
            replace B := Lib.hid (bl_thru B.out (Nat.le_refl _) S)
            clear X_a
            clear X_b
            clear X_h
            clear X_m
            clear hb S c0_m c1_m l_m
            go_wp2
            go_ret
            exact ⟨rfl, B.out⟩
  · have EE := LE.out hE
    have kE : (E != 0) = true := by rw [bne_iff_ne]; exact hE
    clear L LE hE
    subst EE
    go_enter Tryd.func3, Tryd.ntmps3
    go_wp2_with fail
    refine (CH.out _).mono ?_
    rintro r w1 ⟨rfl, hb⟩
    have S : Below w.heap.size w w1 := bl_thru (by go_grown) (Nat.le_refl _) hb
    have B := Lib.hid S
    have X_a := Lib.hid (((Bx2.new w _ _ _).alloc _).below hb)
    have X_b := Lib.hid ((Bx2.new2 w _ _ _ _).below hb)
    clear hb S
    obtain ⟨c0_a, c1_a, -, -⟩ := X_a.out.cells
    have l_a := X_a.out.lt
    obtain ⟨c0_b, c1_b, -, -⟩ := X_b.out.cells
    have l_b := X_b.out.lt
    go_wp2_with fail
    refine (CM.out _).mono ?_
    rintro r w2 ⟨rfl, hb⟩
    have S : Below w1.heap.size w1 w2 := bl_thru (by go_grown) (Nat.le_refl _) hb
    replace B := Lib.hid (bl_thru B.out (Nat.le_refl _) S)
    replace X_a := Lib.hid (X_a.out.below S)
    replace X_b := Lib.hid (X_b.out.below S)
    have X_h := Lib.hid ((Bx2.new w1 _ _ _).below hb)
    clear hb S c0_a c1_a l_a c0_b c1_b l_b
    go_wp2_with fail
    refine (spanLives_any _ (HT.out.below (by have := B.out; have := B.out.size; go_grown))).mono ?_
    rintro r w3 ⟨rfl, hb⟩
    have S : Below w2.heap.size w2 w3 := bl_thru (by go_grown) (Nat.le_refl _) hb
    replace B := Lib.hid (bl_thru B.out (Nat.le_refl _) S)
    replace X_a := Lib.hid (X_a.out.below S)
    replace X_b := Lib.hid (X_b.out.below S)
    replace X_h := Lib.hid (X_h.out.below S)
    have X_m := Lib.hid ((Bx2.new w2 _ _ _).below hb)
    clear hb S
    go_wp2_with fail
    refine (spanLives_any _ (HT.out.below B.out)).mono ?_
    rintro r w4 ⟨rfl, hb⟩
    have S : Below w3.heap.size w3 w4 := hb
    replace B := Lib.hid (bl_thru B.out (Nat.le_refl _) S)
    clear X_a
    clear X_b
    clear X_h
    clear X_m
    clear hb S
    go_wp2
    go_ret
    exact ⟨rfl, B.out⟩
end Go.Proofs.YtfnchcogdmpojaaDoor
