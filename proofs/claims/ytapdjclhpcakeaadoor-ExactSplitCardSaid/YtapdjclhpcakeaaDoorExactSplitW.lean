/-
  THE WALK of the law ExactSplit.
-/
import Derived.Test.YtapdjclhpcakeaaDoorBx
import Derived.Test.YtapdjclhpcakeaaDoorVl
import Derived.Test.YtapdjclhpcakeaaDoorEx3
set_option linter.unusedVariables false
set_option linter.unusedSimpArgs false
namespace Go.Proofs.YtapdjclhpcakeaaDoor
open Go.RowKit Nt Fm Fl

theorem sp_yes {x : Int} (h : hasV x = true) : spE x 26 = 0 ∧ spH x 26 = spH0 x 26 ∧ spL x 26 = miV x (spH0 x 26) := by
  have e : spE x 26 = 0 := by unfold spE; rw [if_pos h, if_pos (by decide)]
  unfold spH spL; rw [if_pos e, if_pos e]; exact ⟨e, rfl, rfl⟩
theorem sp_no {x : Int} (h : hasV x = false) : spE x 26 = 4 := by unfold spE; rw [h]; rfl
theorem spH_bd (x : Int) (x0 : 0 ≤ x) (x1 : x ≤ 18446744073709551615) : 0 ≤ spH x 26 ∧ spH x 26 ≤ 18446744073709551615 := by
  have := spH0_bd x 26 x0 x1
  unfold spH; split <;> omega
theorem spL_bd (x : Int) (x0 : 0 ≤ x) (x1 : x ≤ 18446744073709551615) : 0 ≤ spL x 26 ∧ spL x 26 ≤ 18446744073709551615 := by
  have := spH0_bd x 26 x0 x1
  have := miV_bd x0 x1 this.1 this.2
  unfold spL; split <;> omega
theorem exactSplit_a {x : Int} (x0 : 0 ≤ x) (x1 : x ≤ 18446744073709551615) (hv : hasV x = true) : Parts x (spH x 26) (spL x 26) := by
  obtain ⟨-, e1, e2⟩ := sp_yes hv
  rw [e1, e2]; exact split_parts x0 x1 (hasV_lt hv)
theorem split_same {x : Int} (x0 : 0 ≤ x) (x1 : x ≤ 18446744073709551615) (hv : hasV x = true) : hasV (spH x 26) = true ∧ hasV (spL x 26) = true ∧ plus (valD x) nz = plus (valD (spH x 26)) (valD (spL x 26)) := by
  have P := exactSplit_a x0 x1 hv
  have hb := spH_bd x x0 x1
  have lb := spL_bd x x0 x1
  refine ⟨hasV_of P.fh, hasV_of P.fl, ?_⟩
  have := same_sum x0 x1 (by decide : (0 : Int) ≤ 0) (by decide) hb.1 hb.2 lb.1 lb.2 (hasV_lt hv) (by decide) P.fh P.fl (by
    rw [smag_z (show fabs 0 = 0 by decide), P.sum]; omega)
  rw [valD_z (x := 0) (by rfl)] at this; exact this
theorem split_prods {x y : Int} (x0 : 0 ≤ x) (x1 : x ≤ 18446744073709551615) (y0 : 0 ≤ y) (y1 : y ≤ 18446744073709551615) (hx : hasV x = true) (hy : hasV y = true) (hu : -1074 ≤ ulE x + ulE y) :
    (muC0 (spH x 26) (spH y 26) = false ∨ 4 ≤ fcls (muV0 (spH x 26) (spH y 26) 0)) ∧ (muC0 (spH x 26) (spL y 26) = false ∨ 4 ≤ fcls (muV0 (spH x 26) (spL y 26) 0)) := by
  have P := exactSplit_a x0 x1 hx
  have Q := exactSplit_a y0 y1 hy
  have hb := spH_bd x x0 x1
  have mb := spH_bd y y0 y1
  have nb := spL_bd y y0 y1
  obtain ⟨q1, j1, a1, a2, a3⟩ := P.hi
  obtain ⟨q2, j2, b1, b2, b3⟩ := Q.hi
  obtain ⟨q3, j3, c1, c2, c3⟩ := Q.lo
  exact ⟨prod_exact hb.1 hb.2 mb.1 mb.2 P.fh Q.fh a1 (by omega) a2 b2 (by omega), prod_exact hb.1 hb.2 nb.1 nb.2 P.fh Q.fl a1 c1 a2 c2 (by omega)⟩
set_option maxRecDepth 100000 in
set_option maxHeartbeats 16000000 in
theorem walkExactSplit (x : Int) (x0 : 0 ≤ x) (x1 : x ≤ 18446744073709551615) (y : Int) (y0 : 0 ≤ y) (y1 : y ≤ 18446744073709551615) (w : World) (hT : Tab w) :
    Calls Tryd.prog 11 #[.int .u64 x, .int .u64 y] w fun e w' => e = .returned (.bool true) ∧ Below w.heap.size w w' := by
  obtain ⟨h0, h1⟩ := spH_bd x x0 x1
  obtain ⟨l0, l1⟩ := spL_bd x x0 x1
  obtain ⟨m0, m1⟩ := spH_bd y y0 y1
  obtain ⟨n0, n1⟩ := spL_bd y y0 y1
  have HSX := Lib.hid (fun w' h => split_any x 26 x0 x1 (by decide) (by decide) w' h)
  have HSY := Lib.hid (fun w' h => split_any y 26 y0 y1 (by decide) (by decide) w' h)
  have HA := Lib.hid (fun w' h => valu_any x x0 x1 w' h)
  have HB := Lib.hid (fun w' h => valu_any (spH x 26) h0 h1 w' h)
  have HC := Lib.hid (fun w' h => valu_any (spL x 26) l0 l1 w' h)
  have F_a := Lib.hid (ofD_fit x x0 x1)
  have F_b := Lib.hid (ofD_fit (spH x 26) h0 h1)
  have F_c := Lib.hid (ofD_fit (spL x 26) l0 l1)
  have hux := fun w' => ulp_any x x0 x1 w'
  have huy := fun w' => ulp_any y y0 y1 w'
  have HP := fun w' h => pmul_any (spH x 26) (spH y 26) 0 h0 h1 m0 m1 w' h
  have HS := fun w' h => pmul_any (spH x 26) (spL y 26) 0 h0 h1 n0 n1 w' h
  rw [(muV_yes (x := spH x 26) (y := spH y 26) (mode := 0) rfl).1, (muV_yes (x := spH x 26) (y := spH y 26) (mode := 0) rfl).2.1] at HP
  rw [(muV_yes (x := spH x 26) (y := spL y 26) (mode := 0) rfl).1, (muV_yes (x := spH x 26) (y := spL y 26) (mode := 0) rfl).2.1] at HS
  have e0 : adE 0 = 0 := rfl
  rw [e0] at HP HS
  have pb := muV0_bd' (spH x 26) (spH y 26)
  have sb := muV0_bd' (spH x 26) (spL y 26)
  have HPC := Lib.hid (fun w' => class_any (muV0 (spH x 26) (spH y 26) 0) pb.1 pb.2 w')
  have HSC := Lib.hid (fun w' => class_any (muV0 (spH x 26) (spL y 26) 0) sb.1 sb.2 w')
  have HP := Lib.hid HP
  have HS := Lib.hid HS
  have HT := Lib.hid hT
  have ok2m := ok2_mk
  have ok1m := ok1_mk
  clear hT pb sb e0
  obtain ⟨D_a, hD_a⟩ : ∃ D, D = ofD x := ⟨_, rfl⟩
  obtain ⟨D_b, hD_b⟩ : ∃ D, D = ofD (spH x 26) := ⟨_, rfl⟩
  obtain ⟨D_c, hD_c⟩ : ∃ D, D = ofD (spL x 26) := ⟨_, rfl⟩
  rw [← hD_a] at HA F_a
  rw [← hD_b] at HB F_b
  rw [← hD_c] at HC F_c
  cases vx : hasV x
  · rw [vx] at HA
    rw [sp_no vx] at HSX
    have hn : ∀ f, ok2 4 f = false := fun f => rfl
    have hn1 : ok1 4 = false := rfl
    clear vx hux huy HP HS HPC HSC
    clear hD_a hD_b hD_c
    generalize spH x 26 = hv at *
    generalize spL x 26 = lv at *
    generalize spH y 26 = mv at *
    generalize spL y 26 = nv at *
    generalize spE y 26 = ey at *
    generalize hasV hv = jj at *
    generalize hasV lv = kk at *
    go_enter Tryd.func11, Tryd.ntmps11
    go_wp2_with fail
    refine (HSX.out _ HT.out).mono ?_
    rintro r w1 ⟨rfl, hb⟩
    have S : Below w.heap.size w w1 := hb
    have B := Lib.hid S
    clear hb S
    go_wp2_with fail
    refine (HSY.out _ (HT.out.below B.out)).mono ?_
    rintro r w2 ⟨rfl, hb⟩
    have S : Below w1.heap.size w1 w2 := hb
    replace B := Lib.hid (bl_thru B.out (Nat.le_refl _) S)
    clear hb S
    go_wp2_with fail
    refine (HA.out _ (HT.out.below B.out)).mono ?_
    rintro r w3 ⟨a_a, n_a, k_a, rfl, hv, hb⟩
    have S : Below w2.heap.size w2 w3 := hb
    replace B := Lib.hid (bl_thru B.out (Nat.le_refl _) S)
    have R_a := Lib.hid (rd_of (d := D_a) hv F_a.out)
    clear hb S hv
    go_wp2_with fail
    refine (HB.out _ (HT.out.below (by have := B.out; have := B.out.size; go_grown))).mono ?_
    rintro r w4 ⟨a_b, n_b, k_b, rfl, hv, hb⟩
    have S : Below w3.heap.size w3 w4 := bl_thru (by go_grown) (Nat.le_refl _) hb
    replace B := Lib.hid (bl_thru B.out (Nat.le_refl _) S)
    have X_a := Lib.hid ((Box.new w3 _ _ _ _).below hb)
    replace R_a := Lib.hid (R_a.out.below S)
    have R_b := Lib.hid (rd_of (d := D_b) hv F_b.out)
    clear hb S hv
    go_wp2_with fail
    refine (HC.out _ (HT.out.below (by have := B.out; have := B.out.size; go_grown))).mono ?_
    rintro r w5 ⟨a_c, n_c, k_c, rfl, hv, hb⟩
    have S : Below w4.heap.size w4 w5 := bl_thru (by go_grown) (Nat.le_refl _) hb
    replace B := Lib.hid (bl_thru B.out (Nat.le_refl _) S)
    replace X_a := Lib.hid (X_a.out.below S)
    have X_b := Lib.hid ((Box.new w4 _ _ _ _).below hb)
    replace R_a := Lib.hid (R_a.out.below S)
    replace R_b := Lib.hid (R_b.out.below S)
    have R_c := Lib.hid (rd_of (d := D_c) hv F_c.out)
    clear hb S hv
    go_wp2_with fail
    refine (exactLives_any _ (HT.out.below (by have := B.out; have := B.out.size; go_grown))).mono ?_
    rintro r w6 ⟨rfl, hb⟩
    have S : Below w5.heap.size w5 w6 := bl_thru (by go_grown) (Nat.le_refl _) hb
    replace B := Lib.hid (bl_thru B.out (Nat.le_refl _) S)
    replace X_a := Lib.hid (X_a.out.below S)
    replace X_b := Lib.hid (X_b.out.below S)
    have X_c := Lib.hid ((Box.new w5 _ _ _ _).below hb)
    replace R_a := Lib.hid (R_a.out.below S)
    replace R_b := Lib.hid (R_b.out.below S)
    replace R_c := Lib.hid (R_c.out.below S)
    clear hb S
    go_wp2_with (go_at_call 28; refine (ok_new2 _ _  _ _ rfl).mono ?_; rintro e w' ⟨rfl, rfl⟩)
    refine (exactLives_any _ (HT.out.below (by have := B.out; have := B.out.size; go_grown))).mono ?_
    rintro r w7 ⟨rfl, hb⟩
    have S : Below w6.heap.size w6 w7 := bl_thru (by go_grown) (Nat.le_refl _) hb
    replace B := Lib.hid (bl_thru B.out (Nat.le_refl _) S)
    replace X_a := Lib.hid (X_a.out.below S)
    replace X_b := Lib.hid (X_b.out.below S)
    replace X_c := Lib.hid (X_c.out.below S)
    replace R_a := Lib.hid (R_a.out.below S)
    replace R_b := Lib.hid (R_b.out.below S)
    replace R_c := Lib.hid (R_c.out.below S)
    clear hb S
    go_wp2_with (go_at_call 28; refine (ok_new1 _ _ _ rfl).mono ?_; rintro e w' ⟨rfl, rfl⟩)
    go_ret
    exact ⟨rfl, (by have := B.out; have := B.out.size; go_grown)⟩
  · obtain ⟨vh, vl, hsame⟩ := split_same x0 x1 vx
    have hfit : Fit (plus (valD x) nz) := by rw [plus_nz_right (valD_nf x)]; have := ofD_fit x x0 x1; rw [ofD_val vx] at this; exact this
    rw [← ofD_val vx] at hsame hfit
    rw [← ofD_val vh, ← ofD_val vl] at hsame
    rw [← hD_a] at hfit
    rw [← hD_a, ← hD_b, ← hD_c] at hsame
    have HBS := Lib.hid (fun va vb vc vd w' h0 h1 h2 h3 h4 => bothSame_any va vb vc vd D_a nz D_b D_c w' h0 h1 h2 h3 h4 hsame hfit)
    rw [vx] at HA
    rw [vh] at HB
    rw [vl] at HC
    rw [(sp_yes vx).1] at HSX
    clear hsame hfit vh vl
    cases vy : hasV y
    · rw [sp_no vy] at HSY
      have hn : ok2 0 4 = false := rfl
      clear vx vy hux huy HP HS HPC HSC HBS
      clear hD_a hD_b hD_c
      generalize spH x 26 = hv at *
      generalize spL x 26 = lv at *
      generalize spH y 26 = mv at *
      generalize spL y 26 = nv at *
      go_enter Tryd.func11, Tryd.ntmps11
      go_wp2_with fail
      refine (HSX.out _ HT.out).mono ?_
      rintro r w1 ⟨rfl, hb⟩
      have S : Below w.heap.size w w1 := hb
      have B := Lib.hid S
      clear hb S
      go_wp2_with fail
      refine (HSY.out _ (HT.out.below B.out)).mono ?_
      rintro r w2 ⟨rfl, hb⟩
      have S : Below w1.heap.size w1 w2 := hb
      replace B := Lib.hid (bl_thru B.out (Nat.le_refl _) S)
      clear hb S
      go_wp2_with fail
      refine (HA.out _ (HT.out.below B.out)).mono ?_
      rintro r w3 ⟨a_a, n_a, k_a, rfl, hv, hb⟩
      have S : Below w2.heap.size w2 w3 := hb
      replace B := Lib.hid (bl_thru B.out (Nat.le_refl _) S)
      have R_a := Lib.hid (rd_of (d := D_a) hv F_a.out)
      clear hb S hv
      go_wp2_with fail
      refine (HB.out _ (HT.out.below (by have := B.out; have := B.out.size; go_grown))).mono ?_
      rintro r w4 ⟨a_b, n_b, k_b, rfl, hv, hb⟩
      have S : Below w3.heap.size w3 w4 := bl_thru (by go_grown) (Nat.le_refl _) hb
      replace B := Lib.hid (bl_thru B.out (Nat.le_refl _) S)
      have X_a := Lib.hid ((Box.new w3 _ _ _ _).below hb)
      replace R_a := Lib.hid (R_a.out.below S)
      have R_b := Lib.hid (rd_of (d := D_b) hv F_b.out)
      clear hb S hv
      go_wp2_with fail
      refine (HC.out _ (HT.out.below (by have := B.out; have := B.out.size; go_grown))).mono ?_
      rintro r w5 ⟨a_c, n_c, k_c, rfl, hv, hb⟩
      have S : Below w4.heap.size w4 w5 := bl_thru (by go_grown) (Nat.le_refl _) hb
      replace B := Lib.hid (bl_thru B.out (Nat.le_refl _) S)
      replace X_a := Lib.hid (X_a.out.below S)
      have X_b := Lib.hid ((Box.new w4 _ _ _ _).below hb)
      replace R_a := Lib.hid (R_a.out.below S)
      replace R_b := Lib.hid (R_b.out.below S)
      have R_c := Lib.hid (rd_of (d := D_c) hv F_c.out)
      clear hb S hv
      go_wp2_with fail
      refine (exactLives_any _ (HT.out.below (by have := B.out; have := B.out.size; go_grown))).mono ?_
      rintro r w6 ⟨rfl, hb⟩
      have S : Below w5.heap.size w5 w6 := bl_thru (by go_grown) (Nat.le_refl _) hb
      replace B := Lib.hid (bl_thru B.out (Nat.le_refl _) S)
      replace X_a := Lib.hid (X_a.out.below S)
      replace X_b := Lib.hid (X_b.out.below S)
      have X_c := Lib.hid ((Box.new w5 _ _ _ _).below hb)
      replace R_a := Lib.hid (R_a.out.below S)
      replace R_b := Lib.hid (R_b.out.below S)
      replace R_c := Lib.hid (R_c.out.below S)
      clear hb S
      go_wp2_with (go_at_call 28; refine (ok_new2 _ _  _ _ rfl).mono ?_; rintro e w' ⟨rfl, rfl⟩)
      refine (exactLives_any _ (HT.out.below (by have := B.out; have := B.out.size; go_grown))).mono ?_
      rintro r w7 ⟨rfl, hb⟩
      have S : Below w6.heap.size w6 w7 := bl_thru (by go_grown) (Nat.le_refl _) hb
      replace B := Lib.hid (bl_thru B.out (Nat.le_refl _) S)
      replace X_a := Lib.hid (X_a.out.below S)
      replace X_b := Lib.hid (X_b.out.below S)
      replace X_c := Lib.hid (X_c.out.below S)
      replace R_a := Lib.hid (R_a.out.below S)
      replace R_b := Lib.hid (R_b.out.below S)
      replace R_c := Lib.hid (R_c.out.below S)
      clear hb S
      go_wp2_with (go_at_call 28; refine (ok_new1 _ _ _ rfl).mono ?_; rintro e w' ⟨rfl, rfl⟩)
      go_ret
      exact ⟨rfl, (by have := B.out; have := B.out.size; go_grown)⟩
    · rw [(sp_yes vy).1] at HSY
      have e1 : ulV x = ulE x := by unfold ulV; rw [vx]; rfl
      have e2 : ofE x = 0 := by unfold ofE; rw [vx]; rfl
      have e3 : ulV y = ulE y := by unfold ulV; rw [vy]; rfl
      have e4 : ofE y = 0 := by unfold ofE; rw [vy]; rfl
      rw [e1, e2] at hux
      rw [e3, e4] at huy
      have ub : (-1074 ≤ ulE x ∧ ulE x ≤ 1000) ∧ (-1074 ≤ ulE y ∧ ulE y ≤ 1000) := by
        have := fexp_bd x; have := fexp_bd y; unfold ulE; omega
      obtain ⟨⟨u0, u1⟩, v0, v1⟩ := ub
      have HUX := Lib.hid hux
      have HUY := Lib.hid huy
      clear hux huy e1 e2 e3 e4
      by_cases hu : -1074 ≤ ulE x + ulE y
      · obtain ⟨k1, k2⟩ := split_prods x0 x1 y0 y1 vx vy hu
        clear vx vy
        clear hD_a hD_b hD_c
        generalize muV0 (spH x 26) (spH y 26) 0 = pv at *
        generalize muC0 (spH x 26) (spH y 26) = C1 at *
        generalize muV0 (spH x 26) (spL y 26) 0 = sv at *
        generalize muC0 (spH x 26) (spL y 26) = C2 at *
        generalize fcls pv = K1 at *
        generalize fcls sv = K2 at *
        generalize spH x 26 = hv at *
        generalize spL x 26 = lv at *
        generalize spH y 26 = mv at *
        generalize spL y 26 = nv at *
        generalize ulE x = ux at *
        generalize ulE y = uy at *
        have K1h := Lib.hid k1
        have K2h := Lib.hid k2
        clear k1 k2
        rcases K1h.out with rfl | k1 <;> rcases K2h.out with rfl | k2
        all_goals
          clear K1h K2h
          go_enter Tryd.func11, Tryd.ntmps11
          go_wp2_with fail
          refine (HSX.out _ HT.out).mono ?_
          rintro r w1 ⟨rfl, hb⟩
          have S : Below w.heap.size w w1 := hb
          have B := Lib.hid S
          clear hb S
          go_wp2_with fail
          refine (HSY.out _ (HT.out.below B.out)).mono ?_
          rintro r w2 ⟨rfl, hb⟩
          have S : Below w1.heap.size w1 w2 := hb
          replace B := Lib.hid (bl_thru B.out (Nat.le_refl _) S)
          clear hb S
          go_wp2_with fail
          refine (HA.out _ (HT.out.below B.out)).mono ?_
          rintro r w3 ⟨a_a, n_a, k_a, rfl, hv, hb⟩
          have S : Below w2.heap.size w2 w3 := hb
          replace B := Lib.hid (bl_thru B.out (Nat.le_refl _) S)
          have R_a := Lib.hid (rd_of (d := D_a) hv F_a.out)
          clear hb S hv
          go_wp2_with fail
          refine (HB.out _ (HT.out.below (by have := B.out; have := B.out.size; go_grown))).mono ?_
          rintro r w4 ⟨a_b, n_b, k_b, rfl, hv, hb⟩
          have S : Below w3.heap.size w3 w4 := bl_thru (by go_grown) (Nat.le_refl _) hb
          replace B := Lib.hid (bl_thru B.out (Nat.le_refl _) S)
          have X_a := Lib.hid ((Box.new w3 _ _ _ _).below hb)
          replace R_a := Lib.hid (R_a.out.below S)
          have R_b := Lib.hid (rd_of (d := D_b) hv F_b.out)
          clear hb S hv
          go_wp2_with fail
          refine (HC.out _ (HT.out.below (by have := B.out; have := B.out.size; go_grown))).mono ?_
          rintro r w5 ⟨a_c, n_c, k_c, rfl, hv, hb⟩
          have S : Below w4.heap.size w4 w5 := bl_thru (by go_grown) (Nat.le_refl _) hb
          replace B := Lib.hid (bl_thru B.out (Nat.le_refl _) S)
          replace X_a := Lib.hid (X_a.out.below S)
          have X_b := Lib.hid ((Box.new w4 _ _ _ _).below hb)
          replace R_a := Lib.hid (R_a.out.below S)
          replace R_b := Lib.hid (R_b.out.below S)
          have R_c := Lib.hid (rd_of (d := D_c) hv F_c.out)
          clear hb S hv
          go_wp2_with fail
          refine (exactLives_any _ (HT.out.below (by have := B.out; have := B.out.size; go_grown))).mono ?_
          rintro r w6 ⟨rfl, hb⟩
          have S : Below w5.heap.size w5 w6 := bl_thru (by go_grown) (Nat.le_refl _) hb
          replace B := Lib.hid (bl_thru B.out (Nat.le_refl _) S)
          replace X_a := Lib.hid (X_a.out.below S)
          replace X_b := Lib.hid (X_b.out.below S)
          have X_c := Lib.hid ((Box.new w5 _ _ _ _).below hb)
          replace R_a := Lib.hid (R_a.out.below S)
          replace R_b := Lib.hid (R_b.out.below S)
          replace R_c := Lib.hid (R_c.out.below S)
          clear hb S
          obtain ⟨c0_a, c1_a, c2_a, d0_a, d1_a, d2_a⟩ := X_a.out.cells
          have l_a := X_a.out.lt
          obtain ⟨c0_b, c1_b, c2_b, d0_b, d1_b, d2_b⟩ := X_b.out.cells
          have l_b := X_b.out.lt
          obtain ⟨c0_c, c1_c, c2_c, d0_c, d1_c, d2_c⟩ := X_c.out.cells
          have l_c := X_c.out.lt
          go_wp2_with (go_at_call 28; refine (ok_new2 _ _  _ _ rfl).mono ?_; rintro e w' ⟨rfl, rfl⟩)
          refine (HBS.out _ _ _ _ _ (HT.out.below (by have := B.out; have := B.out.size; go_grown)) (R_a.out.below (by go_grown)) (RD.zero _) (R_b.out.below (by go_grown)) (R_c.out.below (by go_grown))).mono ?_
          rintro r w7 ⟨rfl, hb⟩
          have S : Below w6.heap.size w6 w7 := bl_thru (by go_grown) (Nat.le_refl _) hb
          replace B := Lib.hid (bl_thru B.out (Nat.le_refl _) S)
          clear X_a
          clear X_b
          clear X_c
          clear R_a
          clear R_b
          clear R_c
          clear hb S c0_a c1_a c2_a d0_a d1_a d2_a l_a c0_b c1_b c2_b d0_b d1_b d2_b l_b c0_c c1_c c2_c d0_c d1_c d2_c l_c
          go_wp2_with (first | (go_at_call 51; (with_reducible refine (HUX.out _).mono ?_); rintro e w' ⟨rfl, rfl⟩) | (go_at_call 51; (with_reducible refine (HUY.out _).mono ?_); rintro e w' ⟨rfl, rfl⟩) | (go_at_call 28; refine (ok_new2 _ _ _ _ rfl).mono ?_; rintro e w' ⟨rfl, rfl⟩))
          refine (HP.out _ (HT.out.below (by have := B.out; have := B.out.size; go_grown))).mono ?_
          rintro r w8 ⟨rfl, hb⟩
          have S : Below w7.heap.size w7 w8 := bl_thru (by go_grown) (Nat.le_refl _) hb
          replace B := Lib.hid (bl_thru B.out (Nat.le_refl _) S)
          clear hb S
          go_wp2_with fail
          refine (HS.out _ (HT.out.below B.out)).mono ?_
          rintro r w9 ⟨rfl, hb⟩
          have S : Below w8.heap.size w8 w9 := hb
          replace B := Lib.hid (bl_thru B.out (Nat.le_refl _) S)
          clear hb S
          go_wp2_with (first | (go_at_call 28; refine (ok_new2 _ _ _ _ rfl).mono ?_; rintro e w' ⟨rfl, rfl⟩) | (go_at_call 25; (with_reducible refine (HPC.out _).mono ?_); rintro e w' ⟨rfl, rfl⟩) | (go_at_call 25; (with_reducible refine (HSC.out _).mono ?_); rintro e w' ⟨rfl, rfl⟩))
          all_goals (go_ret; exact ⟨rfl, (by have := B.out; have := B.out.size; go_grown)⟩)
      · clear vx vy HP HS HPC HSC
        have hu2 : ulE x + ulE y < -1074 := by omega
        clear hu hD_a hD_b hD_c
        generalize spH x 26 = hv at *
        generalize spL x 26 = lv at *
        generalize spH y 26 = mv at *
        generalize spL y 26 = nv at *
        generalize ulE x = ux at *
        generalize ulE y = uy at *
        go_enter Tryd.func11, Tryd.ntmps11
        go_wp2_with fail
        refine (HSX.out _ HT.out).mono ?_
        rintro r w1 ⟨rfl, hb⟩
        have S : Below w.heap.size w w1 := hb
        have B := Lib.hid S
        clear hb S
        go_wp2_with fail
        refine (HSY.out _ (HT.out.below B.out)).mono ?_
        rintro r w2 ⟨rfl, hb⟩
        have S : Below w1.heap.size w1 w2 := hb
        replace B := Lib.hid (bl_thru B.out (Nat.le_refl _) S)
        clear hb S
        go_wp2_with fail
        refine (HA.out _ (HT.out.below B.out)).mono ?_
        rintro r w3 ⟨a_a, n_a, k_a, rfl, hv, hb⟩
        have S : Below w2.heap.size w2 w3 := hb
        replace B := Lib.hid (bl_thru B.out (Nat.le_refl _) S)
        have R_a := Lib.hid (rd_of (d := D_a) hv F_a.out)
        clear hb S hv
        go_wp2_with fail
        refine (HB.out _ (HT.out.below (by have := B.out; have := B.out.size; go_grown))).mono ?_
        rintro r w4 ⟨a_b, n_b, k_b, rfl, hv, hb⟩
        have S : Below w3.heap.size w3 w4 := bl_thru (by go_grown) (Nat.le_refl _) hb
        replace B := Lib.hid (bl_thru B.out (Nat.le_refl _) S)
        have X_a := Lib.hid ((Box.new w3 _ _ _ _).below hb)
        replace R_a := Lib.hid (R_a.out.below S)
        have R_b := Lib.hid (rd_of (d := D_b) hv F_b.out)
        clear hb S hv
        go_wp2_with fail
        refine (HC.out _ (HT.out.below (by have := B.out; have := B.out.size; go_grown))).mono ?_
        rintro r w5 ⟨a_c, n_c, k_c, rfl, hv, hb⟩
        have S : Below w4.heap.size w4 w5 := bl_thru (by go_grown) (Nat.le_refl _) hb
        replace B := Lib.hid (bl_thru B.out (Nat.le_refl _) S)
        replace X_a := Lib.hid (X_a.out.below S)
        have X_b := Lib.hid ((Box.new w4 _ _ _ _).below hb)
        replace R_a := Lib.hid (R_a.out.below S)
        replace R_b := Lib.hid (R_b.out.below S)
        have R_c := Lib.hid (rd_of (d := D_c) hv F_c.out)
        clear hb S hv
        go_wp2_with fail
        refine (exactLives_any _ (HT.out.below (by have := B.out; have := B.out.size; go_grown))).mono ?_
        rintro r w6 ⟨rfl, hb⟩
        have S : Below w5.heap.size w5 w6 := bl_thru (by go_grown) (Nat.le_refl _) hb
        replace B := Lib.hid (bl_thru B.out (Nat.le_refl _) S)
        replace X_a := Lib.hid (X_a.out.below S)
        replace X_b := Lib.hid (X_b.out.below S)
        have X_c := Lib.hid ((Box.new w5 _ _ _ _).below hb)
        replace R_a := Lib.hid (R_a.out.below S)
        replace R_b := Lib.hid (R_b.out.below S)
        replace R_c := Lib.hid (R_c.out.below S)
        clear hb S
        obtain ⟨c0_a, c1_a, c2_a, d0_a, d1_a, d2_a⟩ := X_a.out.cells
        have l_a := X_a.out.lt
        obtain ⟨c0_b, c1_b, c2_b, d0_b, d1_b, d2_b⟩ := X_b.out.cells
        have l_b := X_b.out.lt
        obtain ⟨c0_c, c1_c, c2_c, d0_c, d1_c, d2_c⟩ := X_c.out.cells
        have l_c := X_c.out.lt
        go_wp2_with (go_at_call 28; refine (ok_new2 _ _  _ _ rfl).mono ?_; rintro e w' ⟨rfl, rfl⟩)
        refine (HBS.out _ _ _ _ _ (HT.out.below (by have := B.out; have := B.out.size; go_grown)) (R_a.out.below (by go_grown)) (RD.zero _) (R_b.out.below (by go_grown)) (R_c.out.below (by go_grown))).mono ?_
        rintro r w7 ⟨rfl, hb⟩
        have S : Below w6.heap.size w6 w7 := bl_thru (by go_grown) (Nat.le_refl _) hb
        replace B := Lib.hid (bl_thru B.out (Nat.le_refl _) S)
        clear X_a
        clear X_b
        clear X_c
        clear R_a
        clear R_b
        clear R_c
        clear hb S c0_a c1_a c2_a d0_a d1_a d2_a l_a c0_b c1_b c2_b d0_b d1_b d2_b l_b c0_c c1_c c2_c d0_c d1_c d2_c l_c
        go_wp2_with (first | (go_at_call 51; (with_reducible refine (HUX.out _).mono ?_); rintro e w' ⟨rfl, rfl⟩) | (go_at_call 51; (with_reducible refine (HUY.out _).mono ?_); rintro e w' ⟨rfl, rfl⟩) | (go_at_call 28; refine (ok_new2 _ _ _ _ rfl).mono ?_; rintro e w' ⟨rfl, rfl⟩))
        go_ret
        exact ⟨rfl, (by have := B.out; have := B.out.size; go_grown)⟩
end Go.Proofs.YtapdjclhpcakeaaDoor
