/-
  THE WALK of the law ExactSum.
-/
import Derived.Test.YtapdjclhpcakeaaDoorBx
import Derived.Test.YtapdjclhpcakeaaDoorVl
import Derived.Test.YtapdjclhpcakeaaDoorEx3
set_option linter.unusedVariables false
set_option linter.unusedSimpArgs false
namespace Go.Proofs.YtapdjclhpcakeaaDoor
open Go.RowKit Nt Fm Fl

set_option maxRecDepth 100000 in
set_option maxHeartbeats 16000000 in
theorem walkExactSum (x : Int) (x0 : 0 ≤ x) (x1 : x ≤ 18446744073709551615) (y : Int) (y0 : 0 ≤ y) (y1 : y ≤ 18446744073709551615) (w : World) (hT : Tab w) :
    Calls Tryd.prog 16 #[.int .u64 x, .int .u64 y] w fun e w' => e = .returned (.bool true) ∧ Below w.heap.size w w' := by
  obtain ⟨s0, s1⟩ := tsS_bd x0 x1 y0 y1
  obtain ⟨r0, r1⟩ := tsR_bd x0 x1 y0 y1
  have HTS := Lib.hid (fun w' h => twoSum_any x y x0 x1 y0 y1 w' h)
  have HA := Lib.hid (fun w' h => valu_any x x0 x1 w' h)
  have HB := Lib.hid (fun w' h => valu_any y y0 y1 w' h)
  have HC := Lib.hid (fun w' h => valu_any (tsS x y) s0 s1 w' h)
  have HD := Lib.hid (fun w' h => valu_any (tsR x y) r0 r1 w' h)
  have F_a := Lib.hid (ofD_fit x x0 x1)
  have F_b := Lib.hid (ofD_fit y y0 y1)
  have F_c := Lib.hid (ofD_fit (tsS x y) s0 s1)
  have F_d := Lib.hid (ofD_fit (tsR x y) r0 r1)
  have HT := Lib.hid hT
  clear hT
  by_cases he : tsE x y = 0
  · obtain ⟨vx, vy⟩ := ts_val he
    cases hf : farB [x, y]
    · obtain ⟨-, -, vs, vr, hsame, hcmp⟩ := exactSum_a x0 x1 y0 y1 he hf
      have HF := Lib.hid (fun w T b hb => far_new2 x y x0 x1 y0 y1 false hf w T b hb)
      have hul := fun w' => ulp_any (tsS x y) s0 s1 w'
      have e1 : ulV (tsS x y) = ulE (tsS x y) := by unfold ulV; rw [vs]; rfl
      have e2 : ofE (tsS x y) = 0 := by unfold ofE; rw [vs]; rfl
      rw [e1, e2] at hul
      have HUL := Lib.hid hul
      have ub : -1074 ≤ ulE (tsS x y) ∧ ulE (tsS x y) ≤ 1000 := by
        have := fexp_bd (tsS x y); unfold ulE; omega
      obtain ⟨u0, u1⟩ := ub
      have hfit := sum_fit x y x0 x1 y0 y1
      rw [← ofD_val vx, ← ofD_val vy] at hfit hsame
      rw [← ofD_val vs, ← ofD_val vr] at hsame
      rw [← ofD_val vr] at hcmp
      obtain ⟨D_a, hD_a⟩ : ∃ D, D = ofD x := ⟨_, rfl⟩
      obtain ⟨D_b, hD_b⟩ : ∃ D, D = ofD y := ⟨_, rfl⟩
      obtain ⟨D_c, hD_c⟩ : ∃ D, D = ofD (tsS x y) := ⟨_, rfl⟩
      obtain ⟨D_d, hD_d⟩ : ∃ D, D = ofD (tsR x y) := ⟨_, rfl⟩
      rw [← hD_a] at HA F_a
      rw [← hD_b] at HB F_b
      rw [← hD_c] at HC F_c
      rw [← hD_d] at HD F_d
      rw [← hD_a, ← hD_b] at hfit
      rw [← hD_a, ← hD_b, ← hD_c, ← hD_d] at hsame
      rw [← hD_d] at hcmp
      have HBS := Lib.hid (fun va vb vc vd w' h0 h1 h2 h3 h4 => bothSame_any va vb vc vd D_a D_b D_c D_d w' h0 h1 h2 h3 h4 hsame hfit)
      rw [vx] at HA
      rw [vy] at HB
      rw [vs] at HC
      rw [vr] at HD
      rw [he] at HTS
      clear vx vy vs vr hf e1 e2 hul hsame hfit he hD_a hD_b hD_c hD_d
      generalize ulE (tsS x y) = ul at *
      have HCM : Hid (∀ v1 v2 w', Tab w' → RD w' v1 0 (posD D_d) → RD w' v2 0 ⟨false, 1, ul - 1⟩ → Calls Tryd.prog 54 #[v1, v2] w' fun r w'' => r = .returned (.tuple #[.int .i64 (cmp (posD D_d) ⟨false, 1, ul - 1⟩), .int .i64 0]) ∧ Below w'.heap.size w' w'') := Lib.hid (fun v1 v2 w' h0 h1 h2 => by
        have := cmp_any v1 v2 0 0 (posD D_d) ⟨false, 1, ul - 1⟩ w' h0 h1 h2
        have e1 : cmE 0 0 (posD D_d) ⟨false, 1, ul - 1⟩ = cmp (posD D_d) ⟨false, 1, ul - 1⟩ := by unfold cmE; rw [if_pos (by rfl)]
        have e2 : ck2 0 0 = 0 := rfl
        rw [e1, e2] at this; exact this)
      have P_d := Lib.hid (posD_fit F_d.out)
      have F_1 : Hid (Fit ⟨false, 1, ul - 1⟩) := Lib.hid (fit_of (k := 1) (Or.inr rfl) (by omega) (by show 1 < 2 ^ 1; decide) (by simp only; omega) (by simp only; omega))
      generalize cmp (posD D_d) ⟨false, 1, ul - 1⟩ = cn at *
      generalize tsS x y = sv at *
      generalize tsR x y = rv at *
      go_enter Tryd.func16, Tryd.ntmps16
      go_wp2_with fail
      refine (HTS.out _ HT.out).mono ?_
      rintro r w1 ⟨rfl, hb⟩
      have S : Below w.heap.size w w1 := hb
      have B := Lib.hid S
      clear hb S
      go_wp2_with fail
      refine (HA.out _ (HT.out.below B.out)).mono ?_
      rintro r w2 ⟨a_a, n_a, k_a, rfl, hv, hb⟩
      have S : Below w1.heap.size w1 w2 := hb
      replace B := Lib.hid (bl_thru B.out (Nat.le_refl _) S)
      have R_a := Lib.hid (rd_of (d := D_a) hv F_a.out)
      clear hb S hv
      go_wp2_with fail
      refine (HB.out _ (HT.out.below (by have := B.out; have := B.out.size; go_grown))).mono ?_
      rintro r w3 ⟨a_b, n_b, k_b, rfl, hv, hb⟩
      have S : Below w2.heap.size w2 w3 := bl_thru (by go_grown) (Nat.le_refl _) hb
      replace B := Lib.hid (bl_thru B.out (Nat.le_refl _) S)
      have X_a := Lib.hid ((Box.new w2 _ _ _ _).below hb)
      replace R_a := Lib.hid (R_a.out.below S)
      have R_b := Lib.hid (rd_of (d := D_b) hv F_b.out)
      clear hb S hv
      go_wp2_with fail
      refine (HC.out _ (HT.out.below (by have := B.out; have := B.out.size; go_grown))).mono ?_
      rintro r w4 ⟨a_c, n_c, k_c, rfl, hv, hb⟩
      have S : Below w3.heap.size w3 w4 := bl_thru (by go_grown) (Nat.le_refl _) hb
      replace B := Lib.hid (bl_thru B.out (Nat.le_refl _) S)
      replace X_a := Lib.hid (X_a.out.below S)
      have X_b := Lib.hid ((Box.new w3 _ _ _ _).below hb)
      replace R_a := Lib.hid (R_a.out.below S)
      replace R_b := Lib.hid (R_b.out.below S)
      have R_c := Lib.hid (rd_of (d := D_c) hv F_c.out)
      clear hb S hv
      go_wp2_with fail
      refine (HD.out _ (HT.out.below (by have := B.out; have := B.out.size; go_grown))).mono ?_
      rintro r w5 ⟨a_d, n_d, k_d, rfl, hv, hb⟩
      have S : Below w4.heap.size w4 w5 := bl_thru (by go_grown) (Nat.le_refl _) hb
      replace B := Lib.hid (bl_thru B.out (Nat.le_refl _) S)
      replace X_a := Lib.hid (X_a.out.below S)
      replace X_b := Lib.hid (X_b.out.below S)
      have X_c := Lib.hid ((Box.new w4 _ _ _ _).below hb)
      replace R_a := Lib.hid (R_a.out.below S)
      replace R_b := Lib.hid (R_b.out.below S)
      replace R_c := Lib.hid (R_c.out.below S)
      have R_d := Lib.hid (rd_of (d := D_d) hv F_d.out)
      clear hb S hv
      have zd := B.out.size
      go_wp2_with fail
      refine (exactLives_any _ (HT.out.below (by have := B.out; have := B.out.size; go_grown))).mono ?_
      rintro r w6 ⟨rfl, hb⟩
      have S : Below w5.heap.size w5 w6 := bl_thru (by go_grown) (Nat.le_refl _) hb
      replace B := Lib.hid (bl_thru B.out (Nat.le_refl _) S)
      replace X_a := Lib.hid (X_a.out.below S)
      replace X_b := Lib.hid (X_b.out.below S)
      replace X_c := Lib.hid (X_c.out.below S)
      have X_d := Lib.hid ((Box.new w5 _ _ _ _).below hb)
      replace R_a := Lib.hid (R_a.out.below S)
      replace R_b := Lib.hid (R_b.out.below S)
      replace R_c := Lib.hid (R_c.out.below S)
      replace R_d := Lib.hid (R_d.out.below S)
      clear hb S
      obtain ⟨c0_a, c1_a, c2_a, d0_a, d1_a, d2_a⟩ := X_a.out.cells
      have l_a := X_a.out.lt
      obtain ⟨c0_b, c1_b, c2_b, d0_b, d1_b, d2_b⟩ := X_b.out.cells
      have l_b := X_b.out.lt
      obtain ⟨c0_c, c1_c, c2_c, d0_c, d1_c, d2_c⟩ := X_c.out.cells
      have l_c := X_c.out.lt
      obtain ⟨c0_d, c1_d, c2_d, d0_d, d1_d, d2_d⟩ := X_d.out.cells
      have l_d := X_d.out.lt
      go_wp2_with (go_at_call 56; refine (HF.out _ _ _ (by simp)).mono ?_; rintro e w' ⟨rfl, rfl⟩)
      refine (HBS.out _ _ _ _ _ (HT.out.below (by have := B.out; have := B.out.size; go_grown)) (R_a.out.below (by go_grown)) (R_b.out.below (by go_grown)) (R_c.out.below (by go_grown)) (R_d.out.below (by go_grown))).mono ?_
      rintro r w7 ⟨rfl, hb⟩
      have S : Below w6.heap.size w6 w7 := bl_thru (by go_grown) (Nat.le_refl _) hb
      replace B := Lib.hid (bl_thru B.out (Nat.le_refl _) S)
      clear X_a
      clear X_b
      clear X_c
      replace X_d := Lib.hid (X_d.out.below S)
      clear R_a
      clear R_b
      clear R_c
      replace R_d := Lib.hid (R_d.out.below S)
      clear hb S c0_a c1_a c2_a d0_a d1_a d2_a l_a c0_b c1_b c2_b d0_b d1_b d2_b l_b c0_c c1_c c2_c d0_c d1_c d2_c l_c c0_d c1_d c2_d d0_d d1_d d2_d l_d
      obtain ⟨c0_d, c1_d, c2_d, d0_d, d1_d, d2_d⟩ := X_d.out.cells
      have l_d := X_d.out.lt
      have l_1 := X_d.out.lt
      go_wp2_with (go_at_call 51; refine (HUL.out _).mono ?_; rintro e w' ⟨rfl, rfl⟩)
      have N_d := nv_of_rd R_d.out
      have BW : Hid (Below w.heap.size w _) := Lib.hid ((B.out.setCell (p := ⟨w5.heap.size, 0, none⟩) zd (.bool false)).alloc (by simp [World.setCell]; exact B.out.size) (.cells #[.int .u32 1] 73))
      refine (HCM.out _ _ _ (HT.out.below BW.out) (rd_of (d := posD D_d) ((N_d.setBox X_d.out (noLimb_bool _) (noLimb_slice _ _ _) (noLimb_i64 _) 0 (.bool false)).alloc _) P_d.out) (rd_of (d := ⟨false, 1, ul - 1⟩) (one_nvb _ _ 1 _ (by simp [World.setCell]) (by decide) (by decide)) F_1.out)).mono ?_
      rintro r w8 ⟨rfl, hb⟩
      have B8 : Hid (Below w.heap.size w w8) := Lib.hid (bl_thru BW.out (Nat.le_refl _) hb)
      clear hb N_d
      go_wp2_with (go_at_call 28; refine (ok_new2 _ _ _ _ (by simp)).mono ?_; rintro e w' ⟨rfl, rfl⟩)
      go_ret
      exact ⟨rfl, B8.out.alloc B8.out.size _⟩
    · have HF := Lib.hid (fun w T b hb => far_new2 x y x0 x1 y0 y1 true hf w T b hb)
      rw [vx] at HA
      rw [vy] at HB
      rw [he] at HTS
      clear vx vy hf he
      obtain ⟨D_a, hD_a⟩ : ∃ D, D = ofD x := ⟨_, rfl⟩
      obtain ⟨D_b, hD_b⟩ : ∃ D, D = ofD y := ⟨_, rfl⟩
      obtain ⟨D_c, hD_c⟩ : ∃ D, D = ofD (tsS x y) := ⟨_, rfl⟩
      obtain ⟨D_d, hD_d⟩ : ∃ D, D = ofD (tsR x y) := ⟨_, rfl⟩
      rw [← hD_a] at HA F_a
      rw [← hD_b] at HB F_b
      rw [← hD_c] at HC F_c
      rw [← hD_d] at HD F_d
      clear hD_a hD_b hD_c hD_d
      generalize tsS x y = sv at *
      generalize tsR x y = rv at *
      generalize hasV sv = hs at *
      generalize hasV rv = hr at *
      go_enter Tryd.func16, Tryd.ntmps16
      go_wp2_with fail
      refine (HTS.out _ HT.out).mono ?_
      rintro r w1 ⟨rfl, hb⟩
      have S : Below w.heap.size w w1 := hb
      have B := Lib.hid S
      clear hb S
      go_wp2_with fail
      refine (HA.out _ (HT.out.below B.out)).mono ?_
      rintro r w2 ⟨a_a, n_a, k_a, rfl, hv, hb⟩
      have S : Below w1.heap.size w1 w2 := hb
      replace B := Lib.hid (bl_thru B.out (Nat.le_refl _) S)
      have R_a := Lib.hid (rd_of (d := D_a) hv F_a.out)
      clear hb S hv
      go_wp2_with fail
      refine (HB.out _ (HT.out.below (by have := B.out; have := B.out.size; go_grown))).mono ?_
      rintro r w3 ⟨a_b, n_b, k_b, rfl, hv, hb⟩
      have S : Below w2.heap.size w2 w3 := bl_thru (by go_grown) (Nat.le_refl _) hb
      replace B := Lib.hid (bl_thru B.out (Nat.le_refl _) S)
      have X_a := Lib.hid ((Box.new w2 _ _ _ _).below hb)
      replace R_a := Lib.hid (R_a.out.below S)
      have R_b := Lib.hid (rd_of (d := D_b) hv F_b.out)
      clear hb S hv
      go_wp2_with fail
      refine (HC.out _ (HT.out.below (by have := B.out; have := B.out.size; go_grown))).mono ?_
      rintro r w4 ⟨a_c, n_c, k_c, rfl, hv, hb⟩
      have S : Below w3.heap.size w3 w4 := bl_thru (by go_grown) (Nat.le_refl _) hb
      replace B := Lib.hid (bl_thru B.out (Nat.le_refl _) S)
      replace X_a := Lib.hid (X_a.out.below S)
      have X_b := Lib.hid ((Box.new w3 _ _ _ _).below hb)
      replace R_a := Lib.hid (R_a.out.below S)
      replace R_b := Lib.hid (R_b.out.below S)
      have R_c := Lib.hid (rd_of (d := D_c) hv F_c.out)
      clear hb S hv
      go_wp2_with fail
      refine (HD.out _ (HT.out.below (by have := B.out; have := B.out.size; go_grown))).mono ?_
      rintro r w5 ⟨a_d, n_d, k_d, rfl, hv, hb⟩
      have S : Below w4.heap.size w4 w5 := bl_thru (by go_grown) (Nat.le_refl _) hb
      replace B := Lib.hid (bl_thru B.out (Nat.le_refl _) S)
      replace X_a := Lib.hid (X_a.out.below S)
      replace X_b := Lib.hid (X_b.out.below S)
      have X_c := Lib.hid ((Box.new w4 _ _ _ _).below hb)
      replace R_a := Lib.hid (R_a.out.below S)
      replace R_b := Lib.hid (R_b.out.below S)
      replace R_c := Lib.hid (R_c.out.below S)
      have R_d := Lib.hid (rd_of (d := D_d) hv F_d.out)
      clear hb S hv
      have zd := B.out.size
      go_wp2_with fail
      refine (exactLives_any _ (HT.out.below (by have := B.out; have := B.out.size; go_grown))).mono ?_
      rintro r w6 ⟨rfl, hb⟩
      have S : Below w5.heap.size w5 w6 := bl_thru (by go_grown) (Nat.le_refl _) hb
      replace B := Lib.hid (bl_thru B.out (Nat.le_refl _) S)
      replace X_a := Lib.hid (X_a.out.below S)
      replace X_b := Lib.hid (X_b.out.below S)
      replace X_c := Lib.hid (X_c.out.below S)
      have X_d := Lib.hid ((Box.new w5 _ _ _ _).below hb)
      replace R_a := Lib.hid (R_a.out.below S)
      replace R_b := Lib.hid (R_b.out.below S)
      replace R_c := Lib.hid (R_c.out.below S)
      replace R_d := Lib.hid (R_d.out.below S)
      clear hb S
      go_wp2_with (go_at_call 56; refine (HF.out _ _ _ (by simp)).mono ?_; rintro e w' ⟨rfl, rfl⟩)
      go_ret
      exact ⟨rfl, (by have := B.out; have := B.out.size; go_grown)⟩
  · obtain ⟨q1, q2, -⟩ := ts_err he
    have heb : (tsE x y != 0) = true := by rw [bne_iff_ne]; exact he
    clear he
    obtain ⟨D_a, hD_a⟩ : ∃ D, D = ofD x := ⟨_, rfl⟩
    obtain ⟨D_b, hD_b⟩ : ∃ D, D = ofD y := ⟨_, rfl⟩
    obtain ⟨D_c, hD_c⟩ : ∃ D, D = ofD (tsS x y) := ⟨_, rfl⟩
    obtain ⟨D_d, hD_d⟩ : ∃ D, D = ofD (tsR x y) := ⟨_, rfl⟩
    rw [← hD_a] at HA F_a
    rw [← hD_b] at HB F_b
    rw [← hD_c] at HC F_c
    rw [← hD_d] at HD F_d
    rw [q1] at HTS HC
    rw [q2] at HTS HD
    clear q1 q2 hD_a hD_b hD_c hD_d s0 s1 r0 r1
    generalize tsE x y = E at *
    generalize hasV x = hx at *
    generalize hasV y = hy at *
    generalize hasV 0 = h0 at *
    go_enter Tryd.func16, Tryd.ntmps16
    go_wp2_with fail
    refine (HTS.out _ HT.out).mono ?_
    rintro r w1 ⟨rfl, hb⟩
    have S : Below w.heap.size w w1 := hb
    have B := Lib.hid S
    clear hb S
    go_wp2_with fail
    refine (HA.out _ (HT.out.below B.out)).mono ?_
    rintro r w2 ⟨a_a, n_a, k_a, rfl, hv, hb⟩
    have S : Below w1.heap.size w1 w2 := hb
    replace B := Lib.hid (bl_thru B.out (Nat.le_refl _) S)
    have R_a := Lib.hid (rd_of (d := D_a) hv F_a.out)
    clear hb S hv
    go_wp2_with fail
    refine (HB.out _ (HT.out.below (by have := B.out; have := B.out.size; go_grown))).mono ?_
    rintro r w3 ⟨a_b, n_b, k_b, rfl, hv, hb⟩
    have S : Below w2.heap.size w2 w3 := bl_thru (by go_grown) (Nat.le_refl _) hb
    replace B := Lib.hid (bl_thru B.out (Nat.le_refl _) S)
    have X_a := Lib.hid ((Box.new w2 _ _ _ _).below hb)
    replace R_a := Lib.hid (R_a.out.below S)
    have R_b := Lib.hid (rd_of (d := D_b) hv F_b.out)
    clear hb S hv
    go_wp2_with fail
    refine (HC.out _ (HT.out.below (by have := B.out; have := B.out.size; go_grown))).mono ?_
    rintro r w4 ⟨a_c, n_c, k_c, rfl, hv, hb⟩
    have S : Below w3.heap.size w3 w4 := bl_thru (by go_grown) (Nat.le_refl _) hb
    replace B := Lib.hid (bl_thru B.out (Nat.le_refl _) S)
    replace X_a := Lib.hid (X_a.out.below S)
    have X_b := Lib.hid ((Box.new w3 _ _ _ _).below hb)
    replace R_a := Lib.hid (R_a.out.below S)
    replace R_b := Lib.hid (R_b.out.below S)
    have R_c := Lib.hid (rd_of (d := D_c) hv F_c.out)
    clear hb S hv
    go_wp2_with fail
    refine (HD.out _ (HT.out.below (by have := B.out; have := B.out.size; go_grown))).mono ?_
    rintro r w5 ⟨a_d, n_d, k_d, rfl, hv, hb⟩
    have S : Below w4.heap.size w4 w5 := bl_thru (by go_grown) (Nat.le_refl _) hb
    replace B := Lib.hid (bl_thru B.out (Nat.le_refl _) S)
    replace X_a := Lib.hid (X_a.out.below S)
    replace X_b := Lib.hid (X_b.out.below S)
    have X_c := Lib.hid ((Box.new w4 _ _ _ _).below hb)
    replace R_a := Lib.hid (R_a.out.below S)
    replace R_b := Lib.hid (R_b.out.below S)
    replace R_c := Lib.hid (R_c.out.below S)
    have R_d := Lib.hid (rd_of (d := D_d) hv F_d.out)
    clear hb S hv
    have zd := B.out.size
    go_wp2_with fail
    refine (exactLives_any _ (HT.out.below (by have := B.out; have := B.out.size; go_grown))).mono ?_
    rintro r w6 ⟨rfl, hb⟩
    have S : Below w5.heap.size w5 w6 := bl_thru (by go_grown) (Nat.le_refl _) hb
    replace B := Lib.hid (bl_thru B.out (Nat.le_refl _) S)
    replace X_a := Lib.hid (X_a.out.below S)
    replace X_b := Lib.hid (X_b.out.below S)
    replace X_c := Lib.hid (X_c.out.below S)
    have X_d := Lib.hid ((Box.new w5 _ _ _ _).below hb)
    replace R_a := Lib.hid (R_a.out.below S)
    replace R_b := Lib.hid (R_b.out.below S)
    replace R_c := Lib.hid (R_c.out.below S)
    replace R_d := Lib.hid (R_d.out.below S)
    clear hb S
    go_wp2_with fail
    refine (exactLives_any _ (HT.out.below B.out)).mono ?_
    rintro r w7 ⟨rfl, hb⟩
    have S : Below w6.heap.size w6 w7 := hb
    replace B := Lib.hid (bl_thru B.out (Nat.le_refl _) S)
    replace X_a := Lib.hid (X_a.out.below S)
    replace X_b := Lib.hid (X_b.out.below S)
    replace X_c := Lib.hid (X_c.out.below S)
    replace X_d := Lib.hid (X_d.out.below S)
    replace R_a := Lib.hid (R_a.out.below S)
    replace R_b := Lib.hid (R_b.out.below S)
    replace R_c := Lib.hid (R_c.out.below S)
    replace R_d := Lib.hid (R_d.out.below S)
    clear hb S
    go_wp2
    go_ret
    exact ⟨rfl, B.out⟩
end Go.Proofs.YtapdjclhpcakeaaDoor
