/-
  THE WALK of the law ExactProd.
-/
import Derived.Test.YtapdjclhpcakeaaDoorBx
import Derived.Test.YtapdjclhpcakeaaDoorVl
import Derived.Test.YtapdjclhpcakeaaDoorEx3
set_option linter.unusedVariables false
set_option linter.unusedSimpArgs false
namespace Go.Proofs.YtapdjclhpcakeaaDoor
open Go.RowKit Nt Fm Fl

theorem ok_mk2 {a b : Int} (h : ok2 a b = true) : a = 0 ∧ b = 0 := by
  unfold ok2 at h; simp at h; exact h
theorem mul_fit (v1 v2 : Value) (d1 d2 S : D) (w : World) (hT : Tab w) (h1 : RD w v1 0 d1) (h2 : RD w v2 0 d2) (hS : times d1 d2 = S) (hf : Fit S) :
    Calls Tryd.prog 57 #[v1, v2] w (RetR w 0 S) := by
  have := mul_any v1 v2 0 0 d1 d2 w hT h1 h2
  rw [hS, (opE_zero S).1, (opE_zero S).2, fitE_of hf, if_pos rfl] at this
  exact this
set_option maxRecDepth 100000 in
set_option maxHeartbeats 16000000 in
theorem walkExactProd (x : Int) (x0 : 0 ≤ x) (x1 : x ≤ 18446744073709551615) (y : Int) (y0 : 0 ≤ y) (y1 : y ≤ 18446744073709551615) (w : World) (hT : Tab w) :
    Calls Tryd.prog 14 #[.int .u64 x, .int .u64 y] w fun e w' => e = .returned (.bool true) ∧ Below w.heap.size w w' := by
  have pb := tpP_bd x y
  have rb := tpR_bd x y
  have HTS := Lib.hid (fun w' h => twoProd_any x y x0 x1 y0 y1 w' h)
  have HA := Lib.hid (fun w' h => valu_any x x0 x1 w' h)
  have HB := Lib.hid (fun w' h => valu_any y y0 y1 w' h)
  have HC := Lib.hid (fun w' h => valu_any (tpP x y) pb.1 pb.2 w' h)
  have HD := Lib.hid (fun w' h => valu_any (tpR x y) rb.1 rb.2 w' h)
  have F_a := Lib.hid (ofD_fit x x0 x1)
  have F_b := Lib.hid (ofD_fit y y0 y1)
  have F_c := Lib.hid (ofD_fit (tpP x y) pb.1 pb.2)
  have F_d := Lib.hid (ofD_fit (tpR x y) rb.1 rb.2)
  have hux := fun w' => ulp_any x x0 x1 w'
  have huy := fun w' => ulp_any y y0 y1 w'
  have HT := Lib.hid hT
  clear hT pb rb
  by_cases he : tpE x y = 0
  · obtain ⟨vx, vy, -⟩ := tp_val he
    have e1 : ulV x = ulE x := by unfold ulV; rw [vx]; rfl
    have e2 : ofE x = 0 := by unfold ofE; rw [vx]; rfl
    have e3 : ulV y = ulE y := by unfold ulV; rw [vy]; rfl
    have e4 : ofE y = 0 := by unfold ofE; rw [vy]; rfl
    rw [e1, e2] at hux
    rw [e3, e4] at huy
    have ub : (-1074 ≤ ulE x ∧ ulE x ≤ 1000) ∧ (-1074 ≤ ulE y ∧ ulE y ≤ 1000) := by
      have := fexp_bd x; have := fexp_bd y; unfold ulE; omega
    obtain ⟨⟨u0, u1⟩, v0, v1⟩ := ub
    have HUX := Lib.hid hux
    have HUY := Lib.hid huy
    have ok2m := ok2_mk
    clear hux huy e1 e2 e3 e4
    by_cases hu : -1074 ≤ ulE x + ulE y
    · obtain ⟨vs, vr, hsame⟩ := exactProd_a x0 x1 y0 y1 he hu
      have hm : times (ofD x) (ofD y) = prD x y := by rw [ofD_val vx, ofD_val vy]; rfl
      have hfit := prod_fit x y x0 x1 y0 y1
      have hfit2 : Fit (plus (prD x y) nz) := by rw [plus_nz_right (prD_nf x y)]; exact hfit
      rw [← ofD_val vs, ← ofD_val vr] at hsame
      obtain ⟨D_a, hD_a⟩ : ∃ D, D = ofD x := ⟨_, rfl⟩
      obtain ⟨D_b, hD_b⟩ : ∃ D, D = ofD y := ⟨_, rfl⟩
      rw [← hD_a] at HA F_a
      rw [← hD_b] at HB F_b
      obtain ⟨D_c, hD_c⟩ : ∃ D, D = ofD (tpP x y) := ⟨_, rfl⟩
      obtain ⟨D_d, hD_d⟩ : ∃ D, D = ofD (tpR x y) := ⟨_, rfl⟩
      obtain ⟨D_m, hD_m⟩ : ∃ D, D = prD x y := ⟨_, rfl⟩
      rw [← hD_c] at HC F_c
      rw [← hD_d] at HD F_d
      rw [← hD_a, ← hD_b, ← hD_m] at hm
      rw [← hD_m] at hfit hfit2
      rw [← hD_c, ← hD_d, ← hD_m] at hsame
      have HBS := Lib.hid (fun va vb vc vd w' h0 h1 h2 h3 h4 => bothSame_any va vb vc vd D_m nz D_c D_d w' h0 h1 h2 h3 h4 hsame hfit2)
      have HM := Lib.hid (fun v1 v2 w' h0 h1 h2 => mul_fit v1 v2 D_a D_b D_m w' h0 h1 h2 hm hfit)
      have F_m := Lib.hid hfit
      rw [vx] at HA
      rw [vy] at HB
      rw [vs] at HC
      rw [vr] at HD
      rw [he] at HTS
      clear vx vy vs vr hsame hfit hfit2 hm he hD_a hD_b hD_c hD_d hD_m
      generalize tpP x y = sv at *
      generalize tpR x y = rv at *
      generalize ulE x = ux at *
      generalize ulE y = uy at *
      go_enter Tryd.func14, Tryd.ntmps14
      go_wp2_with fail
      refine (HTS.out _ HT.out).mono ?_
      rintro r w1 ⟨rfl, hb⟩
      have S : Below w.heap.size w w1 := hb
      have B := Lib.hid S
      clear hb S
      go_wp2_with fail
      refine (HA.out _ (HT.out.below B.out)).mono ?_
      rintro r w2 ⟨a_a, n_a, k_a, rfl, hv, hb⟩
      have S : Below w1.heap.size w1 w2 := hb
      replace B := Lib.hid (bl_thru B.out (Nat.le_refl _) S)
      have R_a := Lib.hid (rd_of (d := D_a) hv F_a.out)
      clear hb S hv
      go_wp2_with fail
      refine (HB.out _ (HT.out.below (by have := B.out; have := B.out.size; go_grown))).mono ?_
      rintro r w3 ⟨a_b, n_b, k_b, rfl, hv, hb⟩
      have S : Below w2.heap.size w2 w3 := bl_thru (by go_grown) (Nat.le_refl _) hb
      replace B := Lib.hid (bl_thru B.out (Nat.le_refl _) S)
      have X_a := Lib.hid ((Box.new w2 _ _ _ _).below hb)
      replace R_a := Lib.hid (R_a.out.below S)
      have R_b := Lib.hid (rd_of (d := D_b) hv F_b.out)
      clear hb S hv
      go_wp2_with fail
      refine (exactLives_any _ (HT.out.below (by have := B.out; have := B.out.size; go_grown))).mono ?_
      rintro r w4 ⟨rfl, hb⟩
      have S : Below w3.heap.size w3 w4 := bl_thru (by go_grown) (Nat.le_refl _) hb
      replace B := Lib.hid (bl_thru B.out (Nat.le_refl _) S)
      replace X_a := Lib.hid (X_a.out.below S)
      have X_b := Lib.hid ((Box.new w3 _ _ _ _).below hb)
      replace R_a := Lib.hid (R_a.out.below S)
      replace R_b := Lib.hid (R_b.out.below S)
      clear hb S
      go_wp2_with (first | (go_at_call 51; (with_reducible refine (HUX.out _).mono ?_); rintro e w' ⟨rfl, rfl⟩) | (go_at_call 51; (with_reducible refine (HUY.out _).mono ?_); rintro e w' ⟨rfl, rfl⟩) | (go_at_call 28; refine (ok_new2 _ _ _ _ (by simp)).mono ?_; rintro e w' ⟨rfl, rfl⟩))
      refine (HC.out _ (HT.out.below (by have := B.out; have := B.out.size; go_grown))).mono ?_
      rintro r w5 ⟨a_c, n_c, k_c, rfl, hv, hb⟩
      have S : Below w4.heap.size w4 w5 := bl_thru (by go_grown) (Nat.le_refl _) hb
      replace B := Lib.hid (bl_thru B.out (Nat.le_refl _) S)
      replace X_a := Lib.hid (X_a.out.below S)
      replace X_b := Lib.hid (X_b.out.below S)
      replace R_a := Lib.hid (R_a.out.below S)
      replace R_b := Lib.hid (R_b.out.below S)
      have R_c := Lib.hid (rd_of (d := D_c) hv F_c.out)
      clear hb S hv
      go_wp2_with fail
      refine (HD.out _ (HT.out.below (by have := B.out; have := B.out.size; go_grown))).mono ?_
      rintro r w6 ⟨a_d, n_d, k_d, rfl, hv, hb⟩
      have S : Below w5.heap.size w5 w6 := bl_thru (by go_grown) (Nat.le_refl _) hb
      replace B := Lib.hid (bl_thru B.out (Nat.le_refl _) S)
      replace X_a := Lib.hid (X_a.out.below S)
      replace X_b := Lib.hid (X_b.out.below S)
      have X_c := Lib.hid ((Box.new w5 _ _ _ _).below hb)
      replace R_a := Lib.hid (R_a.out.below S)
      replace R_b := Lib.hid (R_b.out.below S)
      replace R_c := Lib.hid (R_c.out.below S)
      have R_d := Lib.hid (rd_of (d := D_d) hv F_d.out)
      clear hb S hv
      obtain ⟨c0_a, c1_a, c2_a, d0_a, d1_a, d2_a⟩ := X_a.out.cells
      have l_a := X_a.out.lt
      obtain ⟨c0_b, c1_b, c2_b, d0_b, d1_b, d2_b⟩ := X_b.out.cells
      have l_b := X_b.out.lt
      go_wp2_with fail
      refine (HM.out _ _ _ (HT.out.below (by have := B.out; have := B.out.size; go_grown)) (R_a.out.below (by go_grown)) (R_b.out.below (by go_grown))).mono ?_
      rintro r w7 ⟨a_m, n_m, k_m, rfl, hv, hb⟩
      have S : Below w6.heap.size w6 w7 := bl_thru (by go_grown) (Nat.le_refl _) hb
      replace B := Lib.hid (bl_thru B.out (Nat.le_refl _) S)
      clear X_a
      clear X_b
      replace X_c := Lib.hid (X_c.out.below S)
      have X_d := Lib.hid ((Box.new w6 _ _ _ _).below hb)
      clear R_a
      clear R_b
      replace R_c := Lib.hid (R_c.out.below S)
      replace R_d := Lib.hid (R_d.out.below S)
      have R_m := Lib.hid (rd_of (d := D_m) hv F_m.out)
      clear hb S hv c0_a c1_a c2_a d0_a d1_a d2_a l_a c0_b c1_b c2_b d0_b d1_b d2_b l_b
      obtain ⟨c0_c, c1_c, c2_c, d0_c, d1_c, d2_c⟩ := X_c.out.cells
      have l_c := X_c.out.lt
      obtain ⟨c0_d, c1_d, c2_d, d0_d, d1_d, d2_d⟩ := X_d.out.cells
      have l_d := X_d.out.lt
      go_wp2_with fail
      refine (HBS.out _ _ _ _ _ (HT.out.below (by have := B.out; have := B.out.size; go_grown)) (R_m.out.below (by go_grown)) (RD.zero _) (R_c.out.below (by go_grown)) (R_d.out.below (by go_grown))).mono ?_
      rintro r w8 ⟨rfl, hb⟩
      have S : Below w7.heap.size w7 w8 := bl_thru (by go_grown) (Nat.le_refl _) hb
      replace B := Lib.hid (bl_thru B.out (Nat.le_refl _) S)
      clear X_c
      clear X_d
      clear R_c
      clear R_d
      clear R_m
      clear hb S c0_c c1_c c2_c d0_c d1_c d2_c l_c c0_d c1_d c2_d d0_d d1_d d2_d l_d
      go_wp2
      go_ret
      exact ⟨rfl, B.out⟩
    · obtain ⟨D_a, hD_a⟩ : ∃ D, D = ofD x := ⟨_, rfl⟩
      obtain ⟨D_b, hD_b⟩ : ∃ D, D = ofD y := ⟨_, rfl⟩
      rw [← hD_a] at HA F_a
      rw [← hD_b] at HB F_b
      rw [vx] at HA
      rw [vy] at HB
      rw [he] at HTS
      clear vx vy he hD_a hD_b HC HD F_c F_d
      have hu2 : ulE x + ulE y < -1074 := by omega
      clear hu
      generalize tpP x y = sv at *
      generalize tpR x y = rv at *
      generalize ulE x = ux at *
      generalize ulE y = uy at *
      go_enter Tryd.func14, Tryd.ntmps14
      go_wp2_with fail
      refine (HTS.out _ HT.out).mono ?_
      rintro r w1 ⟨rfl, hb⟩
      have S : Below w.heap.size w w1 := hb
      have B := Lib.hid S
      clear hb S
      go_wp2_with fail
      refine (HA.out _ (HT.out.below B.out)).mono ?_
      rintro r w2 ⟨a_a, n_a, k_a, rfl, hv, hb⟩
      have S : Below w1.heap.size w1 w2 := hb
      replace B := Lib.hid (bl_thru B.out (Nat.le_refl _) S)
      have R_a := Lib.hid (rd_of (d := D_a) hv F_a.out)
      clear hb S hv
      go_wp2_with fail
      refine (HB.out _ (HT.out.below (by have := B.out; have := B.out.size; go_grown))).mono ?_
      rintro r w3 ⟨a_b, n_b, k_b, rfl, hv, hb⟩
      have S : Below w2.heap.size w2 w3 := bl_thru (by go_grown) (Nat.le_refl _) hb
      replace B := Lib.hid (bl_thru B.out (Nat.le_refl _) S)
      have X_a := Lib.hid ((Box.new w2 _ _ _ _).below hb)
      replace R_a := Lib.hid (R_a.out.below S)
      have R_b := Lib.hid (rd_of (d := D_b) hv F_b.out)
      clear hb S hv
      go_wp2_with fail
      refine (exactLives_any _ (HT.out.below (by have := B.out; have := B.out.size; go_grown))).mono ?_
      rintro r w4 ⟨rfl, hb⟩
      have S : Below w3.heap.size w3 w4 := bl_thru (by go_grown) (Nat.le_refl _) hb
      replace B := Lib.hid (bl_thru B.out (Nat.le_refl _) S)
      replace X_a := Lib.hid (X_a.out.below S)
      have X_b := Lib.hid ((Box.new w3 _ _ _ _).below hb)
      replace R_a := Lib.hid (R_a.out.below S)
      replace R_b := Lib.hid (R_b.out.below S)
      clear hb S
      go_wp2_with (first | (go_at_call 51; (with_reducible refine (HUX.out _).mono ?_); rintro e w' ⟨rfl, rfl⟩) | (go_at_call 51; (with_reducible refine (HUY.out _).mono ?_); rintro e w' ⟨rfl, rfl⟩) | (go_at_call 28; refine (ok_new2 _ _ _ _ (by simp)).mono ?_; rintro e w' ⟨rfl, rfl⟩))
      go_ret
      exact ⟨rfl, (by have := B.out; have := B.out.size; go_grown)⟩
  · obtain ⟨q1, q2⟩ := tp_err he
    have heb : (tpE x y != 0) = true := by rw [bne_iff_ne]; exact he
    clear he HC HD F_c F_d hux huy
    obtain ⟨D_a, hD_a⟩ : ∃ D, D = ofD x := ⟨_, rfl⟩
    obtain ⟨D_b, hD_b⟩ : ∃ D, D = ofD y := ⟨_, rfl⟩
    rw [← hD_a] at HA F_a
    rw [← hD_b] at HB F_b
    rw [q1] at HTS
    rw [q2] at HTS
    clear q1 q2 hD_a hD_b
    generalize tpE x y = E at *
    generalize hasV x = hx at *
    generalize hasV y = hy at *
    go_enter Tryd.func14, Tryd.ntmps14
    go_wp2_with fail
    refine (HTS.out _ HT.out).mono ?_
    rintro r w1 ⟨rfl, hb⟩
    have S : Below w.heap.size w w1 := hb
    have B := Lib.hid S
    clear hb S
    go_wp2_with fail
    refine (HA.out _ (HT.out.below B.out)).mono ?_
    rintro r w2 ⟨a_a, n_a, k_a, rfl, hv, hb⟩
    have S : Below w1.heap.size w1 w2 := hb
    replace B := Lib.hid (bl_thru B.out (Nat.le_refl _) S)
    have R_a := Lib.hid (rd_of (d := D_a) hv F_a.out)
    clear hb S hv
    go_wp2_with fail
    refine (HB.out _ (HT.out.below (by have := B.out; have := B.out.size; go_grown))).mono ?_
    rintro r w3 ⟨a_b, n_b, k_b, rfl, hv, hb⟩
    have S : Below w2.heap.size w2 w3 := bl_thru (by go_grown) (Nat.le_refl _) hb
    replace B := Lib.hid (bl_thru B.out (Nat.le_refl _) S)
    have X_a := Lib.hid ((Box.new w2 _ _ _ _).below hb)
    replace R_a := Lib.hid (R_a.out.below S)
    have R_b := Lib.hid (rd_of (d := D_b) hv F_b.out)
    clear hb S hv
    go_wp2_with fail
    refine (exactLives_any _ (HT.out.below (by have := B.out; have := B.out.size; go_grown))).mono ?_
    rintro r w4 ⟨rfl, hb⟩
    have S : Below w3.heap.size w3 w4 := bl_thru (by go_grown) (Nat.le_refl _) hb
    replace B := Lib.hid (bl_thru B.out (Nat.le_refl _) S)
    replace X_a := Lib.hid (X_a.out.below S)
    have X_b := Lib.hid ((Box.new w3 _ _ _ _).below hb)
    replace R_a := Lib.hid (R_a.out.below S)
    replace R_b := Lib.hid (R_b.out.below S)
    clear hb S
    go_wp2_with fail
    refine (exactLives_any _ (HT.out.below B.out)).mono ?_
    rintro r w5 ⟨rfl, hb⟩
    have S : Below w4.heap.size w4 w5 := hb
    replace B := Lib.hid (bl_thru B.out (Nat.le_refl _) S)
    replace X_a := Lib.hid (X_a.out.below S)
    replace X_b := Lib.hid (X_b.out.below S)
    replace R_a := Lib.hid (R_a.out.below S)
    replace R_b := Lib.hid (R_b.out.below S)
    clear hb S
    go_wp2
    go_ret
    exact ⟨rfl, B.out⟩
end Go.Proofs.YtapdjclhpcakeaaDoor
