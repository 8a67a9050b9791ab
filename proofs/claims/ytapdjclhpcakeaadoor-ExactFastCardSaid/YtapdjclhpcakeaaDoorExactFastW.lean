/-
  THE WALK of the law ExactFast.
-/
import Derived.Test.YtapdjclhpcakeaaDoorBx
import Derived.Test.YtapdjclhpcakeaaDoorVl
import Derived.Test.YtapdjclhpcakeaaDoorEx3
set_option linter.unusedVariables false
set_option linter.unusedSimpArgs false
namespace Go.Proofs.YtapdjclhpcakeaaDoor
open Go.RowKit Nt Fm Fl

set_option maxRecDepth 100000 in
set_option maxHeartbeats 16000000 in
theorem walkExactFast (x : Int) (x0 : 0 ≤ x) (x1 : x ≤ 18446744073709551615) (y : Int) (y0 : 0 ≤ y) (y1 : y ≤ 18446744073709551615) (w : World) (hT : Tab w) :
    Calls Tryd.prog 13 #[.int .u64 x, .int .u64 y] w fun e w' => e = .returned (.bool true) ∧ Below w.heap.size w w' := by
  obtain ⟨s0, s1⟩ := tsS_bd x0 x1 y0 y1
  obtain ⟨q0, q1⟩ := tsR_bd x0 x1 y0 y1
  obtain ⟨r0, r1⟩ := fsR_bd x0 x1 y0 y1
  have HFS := Lib.hid (fun w' h => fastSum_any x y x0 x1 y0 y1 w' h)
  have HTS := Lib.hid (fun w' h => twoSum_any x y x0 x1 y0 y1 w' h)
  have HA := Lib.hid (fun w' h => valu_any x x0 x1 w' h)
  have HB := Lib.hid (fun w' h => valu_any y y0 y1 w' h)
  have HC := Lib.hid (fun w' h => valu_any (tsS x y) s0 s1 w' h)
  have HD := Lib.hid (fun w' h => valu_any (fsR x y) r0 r1 w' h)
  have HX := Lib.hid (fun w' => abs_any x x0 x1 w')
  have HY := Lib.hid (fun w' => abs_any y y0 y1 w')
  have HQ := Lib.hid (fun w' => class_any (tsR x y) q0 q1 w')
  have HR := Lib.hid (fun w' => class_any (fsR x y) r0 r1 w')
  have F_a := Lib.hid (ofD_fit x x0 x1)
  have F_b := Lib.hid (ofD_fit y y0 y1)
  have F_c := Lib.hid (ofD_fit (tsS x y) s0 s1)
  have F_d := Lib.hid (ofD_fit (fsR x y) r0 r1)
  have HT := Lib.hid hT
  clear hT
  by_cases he : tsE x y = 0
  · obtain ⟨vx, vy⟩ := ts_val he
    by_cases hxy : fabs y ≤ fabs x
    · cases hf : farB [x, y]
      · obtain ⟨-, -, vs, vr, hsame, hzz⟩ := exactFast_a x0 x1 y0 y1 he hf hxy
        have HF := Lib.hid (fun w T b hb => far_new2 x y x0 x1 y0 y1 false hf w T b hb)
        have hfit := sum_fit x y x0 x1 y0 y1
        rw [← ofD_val vx, ← ofD_val vy] at hfit hsame
        rw [← ofD_val vs, ← ofD_val vr] at hsame
        obtain ⟨D_a, hD_a⟩ : ∃ D, D = ofD x := ⟨_, rfl⟩
        obtain ⟨D_b, hD_b⟩ : ∃ D, D = ofD y := ⟨_, rfl⟩
        obtain ⟨D_c, hD_c⟩ : ∃ D, D = ofD (tsS x y) := ⟨_, rfl⟩
        obtain ⟨D_d, hD_d⟩ : ∃ D, D = ofD (fsR x y) := ⟨_, rfl⟩
        rw [← hD_a] at HA F_a
        rw [← hD_b] at HB F_b
        rw [← hD_c] at HC F_c
        rw [← hD_d] at HD F_d
        rw [← hD_a, ← hD_b] at hfit
        rw [← hD_a, ← hD_b, ← hD_c, ← hD_d] at hsame
        have HBS := Lib.hid (fun va vb vc vd w' h0 h1 h2 h3 h4 => bothSame_any va vb vc vd D_a D_b D_c D_d w' h0 h1 h2 h3 h4 hsame hfit)
        rw [vx] at HA
        rw [vy] at HB
        rw [vs] at HC
        rw [vr] at HD
        rw [he] at HTS HFS
        clear vx vy vs vr hf hsame hfit he hD_a hD_b hD_c hD_d
        generalize tsS x y = sv at *
        generalize tsR x y = qv at *
        generalize fsR x y = rv at *
        generalize fabs x = ax at *
        generalize fabs y = ay at *
        have hK : Hid ((qv = rv) ∨ ((qv == rv) = false ∧ fcls qv = 1 ∧ fcls rv = 1)) := Lib.hid (by
          rcases hzz with h | ⟨h, h1, h2⟩
          · exact Or.inl h
          · exact Or.inr ⟨beq_eq_false_iff_ne.2 h, h1, h2⟩)
        clear hzz
        rcases hK.out with rfl | ⟨hq, h1, h2⟩
        · clear hK
          go_enter Tryd.func13, Tryd.ntmps13
          go_wp2_with fail
          refine (HFS.out _ HT.out).mono ?_
          rintro r w1 ⟨rfl, hb⟩
          have S : Below w.heap.size w w1 := hb
          have B := Lib.hid S
          clear hb S
          go_wp2_with fail
          refine (HA.out _ (HT.out.below B.out)).mono ?_
          rintro r w2 ⟨a_a, n_a, k_a, rfl, hv, hb⟩
          have S : Below w1.heap.size w1 w2 := hb
          replace B := Lib.hid (bl_thru B.out (Nat.le_refl _) S)
          have R_a := Lib.hid (rd_of (d := D_a) hv F_a.out)
          clear hb S hv
          go_wp2_with fail
          refine (HB.out _ (HT.out.below (by have := B.out; have := B.out.size; go_grown))).mono ?_
          rintro r w3 ⟨a_b, n_b, k_b, rfl, hv, hb⟩
          have S : Below w2.heap.size w2 w3 := bl_thru (by go_grown) (Nat.le_refl _) hb
          replace B := Lib.hid (bl_thru B.out (Nat.le_refl _) S)
          have X_a := Lib.hid ((Box.new w2 _ _ _ _).below hb)
          replace R_a := Lib.hid (R_a.out.below S)
          have R_b := Lib.hid (rd_of (d := D_b) hv F_b.out)
          clear hb S hv
          go_wp2_with fail
          refine (exactLives_any _ (HT.out.below (by have := B.out; have := B.out.size; go_grown))).mono ?_
          rintro r w4 ⟨rfl, hb⟩
          have S : Below w3.heap.size w3 w4 := bl_thru (by go_grown) (Nat.le_refl _) hb
          replace B := Lib.hid (bl_thru B.out (Nat.le_refl _) S)
          replace X_a := Lib.hid (X_a.out.below S)
          have X_b := Lib.hid ((Box.new w3 _ _ _ _).below hb)
          replace R_a := Lib.hid (R_a.out.below S)
          replace R_b := Lib.hid (R_b.out.below S)
          clear hb S
          go_wp2_with (first | (go_at_call 34; (with_reducible refine (HX.out _).mono ?_); rintro e w' ⟨rfl, rfl⟩) | (go_at_call 34; (with_reducible refine (HY.out _).mono ?_); rintro e w' ⟨rfl, rfl⟩) | (go_at_call 56; refine (HF.out _ _ _ (by simp)).mono ?_; rintro e w' ⟨rfl, rfl⟩))
          refine (HC.out _ (HT.out.below (by have := B.out; have := B.out.size; go_grown))).mono ?_
          rintro r w5 ⟨a_c, n_c, k_c, rfl, hv, hb⟩
          have S : Below w4.heap.size w4 w5 := bl_thru (by go_grown) (Nat.le_refl _) hb
          replace B := Lib.hid (bl_thru B.out (Nat.le_refl _) S)
          replace X_a := Lib.hid (X_a.out.below S)
          replace X_b := Lib.hid (X_b.out.below S)
          replace R_a := Lib.hid (R_a.out.below S)
          replace R_b := Lib.hid (R_b.out.below S)
          have R_c := Lib.hid (rd_of (d := D_c) hv F_c.out)
          clear hb S hv
          go_wp2_with fail
          refine (HD.out _ (HT.out.below (by have := B.out; have := B.out.size; go_grown))).mono ?_
          rintro r w6 ⟨a_d, n_d, k_d, rfl, hv, hb⟩
          have S : Below w5.heap.size w5 w6 := bl_thru (by go_grown) (Nat.le_refl _) hb
          replace B := Lib.hid (bl_thru B.out (Nat.le_refl _) S)
          replace X_a := Lib.hid (X_a.out.below S)
          replace X_b := Lib.hid (X_b.out.below S)
          have X_c := Lib.hid ((Box.new w5 _ _ _ _).below hb)
          replace R_a := Lib.hid (R_a.out.below S)
          replace R_b := Lib.hid (R_b.out.below S)
          replace R_c := Lib.hid (R_c.out.below S)
          have R_d := Lib.hid (rd_of (d := D_d) hv F_d.out)
          clear hb S hv
          go_wp2_with fail
          refine (HTS.out _ (HT.out.below (by have := B.out; have := B.out.size; go_grown))).mono ?_
          rintro r w7 ⟨rfl, hb⟩
          have S : Below w6.heap.size w6 w7 := bl_thru (by go_grown) (Nat.le_refl _) hb
          replace B := Lib.hid (bl_thru B.out (Nat.le_refl _) S)
          replace X_a := Lib.hid (X_a.out.below S)
          replace X_b := Lib.hid (X_b.out.below S)
          replace X_c := Lib.hid (X_c.out.below S)
          have X_d := Lib.hid ((Box.new w6 _ _ _ _).below hb)
          replace R_a := Lib.hid (R_a.out.below S)
          replace R_b := Lib.hid (R_b.out.below S)
          replace R_c := Lib.hid (R_c.out.below S)
          replace R_d := Lib.hid (R_d.out.below S)
          clear hb S
          obtain ⟨c0_a, c1_a, c2_a, d0_a, d1_a, d2_a⟩ := X_a.out.cells
          have l_a := X_a.out.lt
          obtain ⟨c0_b, c1_b, c2_b, d0_b, d1_b, d2_b⟩ := X_b.out.cells
          have l_b := X_b.out.lt
          obtain ⟨c0_c, c1_c, c2_c, d0_c, d1_c, d2_c⟩ := X_c.out.cells
          have l_c := X_c.out.lt
          obtain ⟨c0_d, c1_d, c2_d, d0_d, d1_d, d2_d⟩ := X_d.out.cells
          have l_d := X_d.out.lt
          go_wp2_with fail
          refine (HBS.out _ _ _ _ _ (HT.out.below B.out) R_a.out R_b.out R_c.out R_d.out).mono ?_
          rintro r w8 ⟨rfl, hb⟩
          have S : Below w7.heap.size w7 w8 := hb
          replace B := Lib.hid (bl_thru B.out (Nat.le_refl _) S)
          clear X_a
          clear X_b
          clear X_c
          clear X_d
          clear R_a
          clear R_b
          clear R_c
          clear R_d
          clear hb S c0_a c1_a c2_a d0_a d1_a d2_a l_a c0_b c1_b c2_b d0_b d1_b d2_b l_b c0_c c1_c c2_c d0_c d1_c d2_c l_c c0_d c1_d c2_d d0_d d1_d d2_d l_d
          go_wp2
          go_ret
          exact ⟨rfl, B.out⟩
        · clear hK
          rw [h1] at HQ
          rw [h2] at HR
          clear h1 h2
          go_enter Tryd.func13, Tryd.ntmps13
          go_wp2_with fail
          refine (HFS.out _ HT.out).mono ?_
          rintro r w1 ⟨rfl, hb⟩
          have S : Below w.heap.size w w1 := hb
          have B := Lib.hid S
          clear hb S
          go_wp2_with fail
          refine (HA.out _ (HT.out.below B.out)).mono ?_
          rintro r w2 ⟨a_a, n_a, k_a, rfl, hv, hb⟩
          have S : Below w1.heap.size w1 w2 := hb
          replace B := Lib.hid (bl_thru B.out (Nat.le_refl _) S)
          have R_a := Lib.hid (rd_of (d := D_a) hv F_a.out)
          clear hb S hv
          go_wp2_with fail
          refine (HB.out _ (HT.out.below (by have := B.out; have := B.out.size; go_grown))).mono ?_
          rintro r w3 ⟨a_b, n_b, k_b, rfl, hv, hb⟩
          have S : Below w2.heap.size w2 w3 := bl_thru (by go_grown) (Nat.le_refl _) hb
          replace B := Lib.hid (bl_thru B.out (Nat.le_refl _) S)
          have X_a := Lib.hid ((Box.new w2 _ _ _ _).below hb)
          replace R_a := Lib.hid (R_a.out.below S)
          have R_b := Lib.hid (rd_of (d := D_b) hv F_b.out)
          clear hb S hv
          go_wp2_with fail
          refine (exactLives_any _ (HT.out.below (by have := B.out; have := B.out.size; go_grown))).mono ?_
          rintro r w4 ⟨rfl, hb⟩
          have S : Below w3.heap.size w3 w4 := bl_thru (by go_grown) (Nat.le_refl _) hb
          replace B := Lib.hid (bl_thru B.out (Nat.le_refl _) S)
          replace X_a := Lib.hid (X_a.out.below S)
          have X_b := Lib.hid ((Box.new w3 _ _ _ _).below hb)
          replace R_a := Lib.hid (R_a.out.below S)
          replace R_b := Lib.hid (R_b.out.below S)
          clear hb S
          go_wp2_with (first | (go_at_call 34; (with_reducible refine (HX.out _).mono ?_); rintro e w' ⟨rfl, rfl⟩) | (go_at_call 34; (with_reducible refine (HY.out _).mono ?_); rintro e w' ⟨rfl, rfl⟩) | (go_at_call 56; refine (HF.out _ _ _ (by simp)).mono ?_; rintro e w' ⟨rfl, rfl⟩))
          refine (HC.out _ (HT.out.below (by have := B.out; have := B.out.size; go_grown))).mono ?_
          rintro r w5 ⟨a_c, n_c, k_c, rfl, hv, hb⟩
          have S : Below w4.heap.size w4 w5 := bl_thru (by go_grown) (Nat.le_refl _) hb
          replace B := Lib.hid (bl_thru B.out (Nat.le_refl _) S)
          replace X_a := Lib.hid (X_a.out.below S)
          replace X_b := Lib.hid (X_b.out.below S)
          replace R_a := Lib.hid (R_a.out.below S)
          replace R_b := Lib.hid (R_b.out.below S)
          have R_c := Lib.hid (rd_of (d := D_c) hv F_c.out)
          clear hb S hv
          go_wp2_with fail
          refine (HD.out _ (HT.out.below (by have := B.out; have := B.out.size; go_grown))).mono ?_
          rintro r w6 ⟨a_d, n_d, k_d, rfl, hv, hb⟩
          have S : Below w5.heap.size w5 w6 := bl_thru (by go_grown) (Nat.le_refl _) hb
          replace B := Lib.hid (bl_thru B.out (Nat.le_refl _) S)
          replace X_a := Lib.hid (X_a.out.below S)
          replace X_b := Lib.hid (X_b.out.below S)
          have X_c := Lib.hid ((Box.new w5 _ _ _ _).below hb)
          replace R_a := Lib.hid (R_a.out.below S)
          replace R_b := Lib.hid (R_b.out.below S)
          replace R_c := Lib.hid (R_c.out.below S)
          have R_d := Lib.hid (rd_of (d := D_d) hv F_d.out)
          clear hb S hv
          go_wp2_with fail
          refine (HTS.out _ (HT.out.below (by have := B.out; have := B.out.size; go_grown))).mono ?_
          rintro r w7 ⟨rfl, hb⟩
          have S : Below w6.heap.size w6 w7 := bl_thru (by go_grown) (Nat.le_refl _) hb
          replace B := Lib.hid (bl_thru B.out (Nat.le_refl _) S)
          replace X_a := Lib.hid (X_a.out.below S)
          replace X_b := Lib.hid (X_b.out.below S)
          replace X_c := Lib.hid (X_c.out.below S)
          have X_d := Lib.hid ((Box.new w6 _ _ _ _).below hb)
          replace R_a := Lib.hid (R_a.out.below S)
          replace R_b := Lib.hid (R_b.out.below S)
          replace R_c := Lib.hid (R_c.out.below S)
          replace R_d := Lib.hid (R_d.out.below S)
          clear hb S
          obtain ⟨c0_a, c1_a, c2_a, d0_a, d1_a, d2_a⟩ := X_a.out.cells
          have l_a := X_a.out.lt
          obtain ⟨c0_b, c1_b, c2_b, d0_b, d1_b, d2_b⟩ := X_b.out.cells
          have l_b := X_b.out.lt
          obtain ⟨c0_c, c1_c, c2_c, d0_c, d1_c, d2_c⟩ := X_c.out.cells
          have l_c := X_c.out.lt
          obtain ⟨c0_d, c1_d, c2_d, d0_d, d1_d, d2_d⟩ := X_d.out.cells
          have l_d := X_d.out.lt
          go_wp2_with fail
          refine (HBS.out _ _ _ _ _ (HT.out.below B.out) R_a.out R_b.out R_c.out R_d.out).mono ?_
          rintro r w8 ⟨rfl, hb⟩
          have S : Below w7.heap.size w7 w8 := hb
          replace B := Lib.hid (bl_thru B.out (Nat.le_refl _) S)
          clear X_a
          clear X_b
          clear X_c
          clear X_d
          clear R_a
          clear R_b
          clear R_c
          clear R_d
          clear hb S c0_a c1_a c2_a d0_a d1_a d2_a l_a c0_b c1_b c2_b d0_b d1_b d2_b l_b c0_c c1_c c2_c d0_c d1_c d2_c l_c c0_d c1_d c2_d d0_d d1_d d2_d l_d
          go_wp2_with (first | (go_at_call 25; (with_reducible refine (HQ.out _).mono ?_); rintro e w' ⟨rfl, rfl⟩) | (go_at_call 25; (with_reducible refine (HR.out _).mono ?_); rintro e w' ⟨rfl, rfl⟩))
          go_ret
          exact ⟨rfl, B.out⟩
      · have HF := Lib.hid (fun w T b hb => far_new2 x y x0 x1 y0 y1 true hf w T b hb)
        rw [vx] at HA
        rw [vy] at HB
        rw [he] at HFS
        clear vx vy hf he HC HD HTS HQ HR F_c F_d s0 s1 q0 q1 r0 r1
        obtain ⟨D_a, hD_a⟩ : ∃ D, D = ofD x := ⟨_, rfl⟩
        obtain ⟨D_b, hD_b⟩ : ∃ D, D = ofD y := ⟨_, rfl⟩
        rw [← hD_a] at HA F_a
        rw [← hD_b] at HB F_b
        clear hD_a hD_b
        generalize tsS x y = sv at *
        generalize fsR x y = rv at *
        generalize fabs x = ax at *
        generalize fabs y = ay at *
        go_enter Tryd.func13, Tryd.ntmps13
        go_wp2_with fail
        refine (HFS.out _ HT.out).mono ?_
        rintro r w1 ⟨rfl, hb⟩
        have S : Below w.heap.size w w1 := hb
        have B := Lib.hid S
        clear hb S
        go_wp2_with fail
        refine (HA.out _ (HT.out.below B.out)).mono ?_
        rintro r w2 ⟨a_a, n_a, k_a, rfl, hv, hb⟩
        have S : Below w1.heap.size w1 w2 := hb
        replace B := Lib.hid (bl_thru B.out (Nat.le_refl _) S)
        have R_a := Lib.hid (rd_of (d := D_a) hv F_a.out)
        clear hb S hv
        go_wp2_with fail
        refine (HB.out _ (HT.out.below (by have := B.out; have := B.out.size; go_grown))).mono ?_
        rintro r w3 ⟨a_b, n_b, k_b, rfl, hv, hb⟩
        have S : Below w2.heap.size w2 w3 := bl_thru (by go_grown) (Nat.le_refl _) hb
        replace B := Lib.hid (bl_thru B.out (Nat.le_refl _) S)
        have X_a := Lib.hid ((Box.new w2 _ _ _ _).below hb)
        replace R_a := Lib.hid (R_a.out.below S)
        have R_b := Lib.hid (rd_of (d := D_b) hv F_b.out)
        clear hb S hv
        go_wp2_with fail
        refine (exactLives_any _ (HT.out.below (by have := B.out; have := B.out.size; go_grown))).mono ?_
        rintro r w4 ⟨rfl, hb⟩
        have S : Below w3.heap.size w3 w4 := bl_thru (by go_grown) (Nat.le_refl _) hb
        replace B := Lib.hid (bl_thru B.out (Nat.le_refl _) S)
        replace X_a := Lib.hid (X_a.out.below S)
        have X_b := Lib.hid ((Box.new w3 _ _ _ _).below hb)
        replace R_a := Lib.hid (R_a.out.below S)
        replace R_b := Lib.hid (R_b.out.below S)
        clear hb S
        go_wp2_with (first | (go_at_call 34; (with_reducible refine (HX.out _).mono ?_); rintro e w' ⟨rfl, rfl⟩) | (go_at_call 34; (with_reducible refine (HY.out _).mono ?_); rintro e w' ⟨rfl, rfl⟩) | (go_at_call 56; refine (HF.out _ _ _ (by simp)).mono ?_; rintro e w' ⟨rfl, rfl⟩))
        go_ret
        exact ⟨rfl, (by have := B.out; have := B.out.size; go_grown)⟩
    · rw [vx] at HA
      rw [vy] at HB
      rw [he] at HFS
      clear vx vy he HC HD HTS HQ HR F_c F_d s0 s1 q0 q1 r0 r1
      obtain ⟨D_a, hD_a⟩ : ∃ D, D = ofD x := ⟨_, rfl⟩
      obtain ⟨D_b, hD_b⟩ : ∃ D, D = ofD y := ⟨_, rfl⟩
      rw [← hD_a] at HA F_a
      rw [← hD_b] at HB F_b
      clear hD_a hD_b
      generalize tsS x y = sv at *
      generalize fsR x y = rv at *
      generalize fabs x = ax at *
      generalize fabs y = ay at *
      have hlt : ax < ay := by omega
      clear hxy
      go_enter Tryd.func13, Tryd.ntmps13
      go_wp2_with fail
      refine (HFS.out _ HT.out).mono ?_
      rintro r w1 ⟨rfl, hb⟩
      have S : Below w.heap.size w w1 := hb
      have B := Lib.hid S
      clear hb S
      go_wp2_with fail
      refine (HA.out _ (HT.out.below B.out)).mono ?_
      rintro r w2 ⟨a_a, n_a, k_a, rfl, hv, hb⟩
      have S : Below w1.heap.size w1 w2 := hb
      replace B := Lib.hid (bl_thru B.out (Nat.le_refl _) S)
      have R_a := Lib.hid (rd_of (d := D_a) hv F_a.out)
      clear hb S hv
      go_wp2_with fail
      refine (HB.out _ (HT.out.below (by have := B.out; have := B.out.size; go_grown))).mono ?_
      rintro r w3 ⟨a_b, n_b, k_b, rfl, hv, hb⟩
      have S : Below w2.heap.size w2 w3 := bl_thru (by go_grown) (Nat.le_refl _) hb
      replace B := Lib.hid (bl_thru B.out (Nat.le_refl _) S)
      have X_a := Lib.hid ((Box.new w2 _ _ _ _).below hb)
      replace R_a := Lib.hid (R_a.out.below S)
      have R_b := Lib.hid (rd_of (d := D_b) hv F_b.out)
      clear hb S hv
      go_wp2_with fail
      refine (exactLives_any _ (HT.out.below (by have := B.out; have := B.out.size; go_grown))).mono ?_
      rintro r w4 ⟨rfl, hb⟩
      have S : Below w3.heap.size w3 w4 := bl_thru (by go_grown) (Nat.le_refl _) hb
      replace B := Lib.hid (bl_thru B.out (Nat.le_refl _) S)
      replace X_a := Lib.hid (X_a.out.below S)
      have X_b := Lib.hid ((Box.new w3 _ _ _ _).below hb)
      replace R_a := Lib.hid (R_a.out.below S)
      replace R_b := Lib.hid (R_b.out.below S)
      clear hb S
      go_wp2_with (first | (go_at_call 34; (with_reducible refine (HX.out _).mono ?_); rintro e w' ⟨rfl, rfl⟩) | (go_at_call 34; (with_reducible refine (HY.out _).mono ?_); rintro e w' ⟨rfl, rfl⟩))
      refine (exactLives_any _ (HT.out.below B.out)).mono ?_
      rintro r w5 ⟨rfl, hb⟩
      have S : Below w4.heap.size w4 w5 := hb
      replace B := Lib.hid (bl_thru B.out (Nat.le_refl _) S)
      replace X_a := Lib.hid (X_a.out.below S)
      replace X_b := Lib.hid (X_b.out.below S)
      replace R_a := Lib.hid (R_a.out.below S)
      replace R_b := Lib.hid (R_b.out.below S)
      clear hb S
      go_wp2
      go_ret
      exact ⟨rfl, B.out⟩
  · have heb : (tsE x y != 0) = true := by rw [bne_iff_ne]; exact he
    clear he HC HD HTS HQ HR F_c F_d s0 s1 q0 q1 r0 r1 HX HY
    obtain ⟨D_a, hD_a⟩ : ∃ D, D = ofD x := ⟨_, rfl⟩
    obtain ⟨D_b, hD_b⟩ : ∃ D, D = ofD y := ⟨_, rfl⟩
    rw [← hD_a] at HA F_a
    rw [← hD_b] at HB F_b
    clear hD_a hD_b
    generalize tsS x y = sv at *
    generalize fsR x y = rv at *
    generalize tsE x y = E at *
    generalize hasV x = hx at *
    generalize hasV y = hy at *
    go_enter Tryd.func13, Tryd.ntmps13
    go_wp2_with fail
    refine (HFS.out _ HT.out).mono ?_
    rintro r w1 ⟨rfl, hb⟩
    have S : Below w.heap.size w w1 := hb
    have B := Lib.hid S
    clear hb S
    go_wp2_with fail
    refine (HA.out _ (HT.out.below B.out)).mono ?_
    rintro r w2 ⟨a_a, n_a, k_a, rfl, hv, hb⟩
    have S : Below w1.heap.size w1 w2 := hb
    replace B := Lib.hid (bl_thru B.out (Nat.le_refl _) S)
    have R_a := Lib.hid (rd_of (d := D_a) hv F_a.out)
    clear hb S hv
    go_wp2_with fail
    refine (HB.out _ (HT.out.below (by have := B.out; have := B.out.size; go_grown))).mono ?_
    rintro r w3 ⟨a_b, n_b, k_b, rfl, hv, hb⟩
    have S : Below w2.heap.size w2 w3 := bl_thru (by go_grown) (Nat.le_refl _) hb
    replace B := Lib.hid (bl_thru B.out (Nat.le_refl _) S)
    have X_a := Lib.hid ((Box.new w2 _ _ _ _).below hb)
    replace R_a := Lib.hid (R_a.out.below S)
    have R_b := Lib.hid (rd_of (d := D_b) hv F_b.out)
    clear hb S hv
    go_wp2_with fail
    refine (exactLives_any _ (HT.out.below (by have := B.out; have := B.out.size; go_grown))).mono ?_
    rintro r w4 ⟨rfl, hb⟩
    have S : Below w3.heap.size w3 w4 := bl_thru (by go_grown) (Nat.le_refl _) hb
    replace B := Lib.hid (bl_thru B.out (Nat.le_refl _) S)
    replace X_a := Lib.hid (X_a.out.below S)
    have X_b := Lib.hid ((Box.new w3 _ _ _ _).below hb)
    replace R_a := Lib.hid (R_a.out.below S)
    replace R_b := Lib.hid (R_b.out.below S)
    clear hb S
    go_wp2_with fail
    refine (exactLives_any _ (HT.out.below B.out)).mono ?_
    rintro r w5 ⟨rfl, hb⟩
    have S : Below w4.heap.size w4 w5 := hb
    replace B := Lib.hid (bl_thru B.out (Nat.le_refl _) S)
    replace X_a := Lib.hid (X_a.out.below S)
    replace X_b := Lib.hid (X_b.out.below S)
    replace R_a := Lib.hid (R_a.out.below S)
    replace R_b := Lib.hid (R_b.out.below S)
    clear hb S
    go_wp2
    go_ret
    exact ⟨rfl, B.out⟩
end Go.Proofs.YtapdjclhpcakeaaDoor
