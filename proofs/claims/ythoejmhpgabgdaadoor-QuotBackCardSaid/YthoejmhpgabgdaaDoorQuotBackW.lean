/-
  THE WALK of the law QuotBack.
-/
import Derived.Test.YthoejmhpgabgdaaDoorQc
import Derived.Test.YthoejmhpgabgdaaDoorQl
import Derived.Test.YthoejmhpgabgdaaDoorPe
import Derived.Test.YthoejmhpgabgdaaDoorSp
import Derived.Test.YthoejmhpgabgdaaDoorVl
import Derived.Test.YthoejmhpgabgdaaDoorEx2
import Derived.Test.YthoejmhpgabgdaaDoorBw
set_option linter.unusedVariables false
set_option linter.unusedSimpArgs false
namespace Go.Proofs.YthoejmhpgabgdaaDoor
open Go.RowKit Nt Fm Fl

theorem mul_fitq (v1 v2 : Value) (d1 d2 S : D) (w : World) (hT : Tab w) (h1 : RD w v1 0 d1) (h2 : RD w v2 0 d2) (hS : times d1 d2 = S) (hf : Fit S) :
    Calls Tryd.prog 44 #[v1, v2] w (RetR w 0 S) := by
  have := mul_any v1 v2 0 0 d1 d2 w hT h1 h2
  rw [hS, (opE_zero S).1, (opE_zero S).2, fitE_of hf, if_pos rfl] at this
  exact this
theorem sub_fitq (v1 v2 : Value) (d1 d2 S : D) (w : World) (hT : Tab w) (h1 : RD w v1 0 d1) (h2 : RD w v2 0 d2) (hS : plus d1 (opp d2) = S) (hf : Fit S) :
    Calls Tryd.prog 45 #[v1, v2] w (RetR w 0 S) := by
  have := sub_any v1 v2 0 0 d1 d2 w hT h1 h2
  rw [hS, (opE_zero S).1, (opE_zero S).2, fitE_of hf, if_pos rfl] at this
  exact this
theorem same_toq {d1 d2 : D} (hs : d1 = d2) (v1 v2 : Value) (w : World) (h1 : DV w v1 d1) (h2 : DV w v2 d2) :
    Calls Tryd.prog 48 #[v1, v2] w fun r w' => r = .returned (.bool true) ∧ Below w.heap.size w w' := by
  have := same_any v1 v2 d1 d2 w h1 h2
  rw [hs, sameB_refl] at this; exact this
theorem ofD_yesq {x : Int} (h : hasV x = true) : ofD x = valD x := by unfold ofD; rw [if_pos h]
theorem left_fit (x y q : Int) (x0 : 0 ≤ x) (x1 : x ≤ 18446744073709551615) (y0 : 0 ≤ y) (y1 : y ≤ 18446744073709551615) (q0 : 0 ≤ q) (q1 : q ≤ 18446744073709551615) : Fit (leftD x y q) := by
  have hb := fneg_bd q0 q1
  have h1 := prD_smlP (fneg q) y hb.1 hb.2 y0 y1
  have h2 := prD_smlP x 4607182418800017408 x0 x1 (by decide) (by decide)
  rw [prD_one] at h2
  have h3 : SmlP (1 + 1) (leftD x y q) := by rw [← left_fs q0 q1]; exact h1.plus h2
  obtain ⟨⟨k, hk, hm⟩, e0, e1⟩ := h3.bds (by decide)
  exact fit_of (plus_Nf _ _) (by omega) hm (by omega) (by omega)
theorem prod_fitq (x y : Int) (x0 : 0 ≤ x) (x1 : x ≤ 18446744073709551615) (y0 : 0 ≤ y) (y1 : y ≤ 18446744073709551615) : Fit (prD x y) := by
  obtain ⟨p1, p2, p3⟩ := prD_bd x y x0 x1 y0 y1
  exact fit_of (prD_nf x y) (by decide) p1 (by omega) (by omega)
theorem len_ofq {w : World} {a : Option Addr} {n c m : Nat} (h : NV w (.slice a n c) m) : (m = 0 ∧ n = 0) ∨ (m ≠ 0 ∧ 1 ≤ n) := by
  obtain ⟨ao', n', c', h1, -, -, h2⟩ := nv_len h
  simp only [Value.slice.injEq] at h1
  obtain ⟨-, rfl, -⟩ := h1
  exact h2
theorem adEq_0' {mode : Int} (h : adE mode = 0) : knownB mode = true := by
  unfold adE at h; cases hk : knownB mode
  · rw [hk] at h; exact absurd h (by decide)
  · rfl
theorem ul_bdq {x : Int} : -1074 ≤ ulE x ∧ ulE x ≤ 1000 := by
  have := fexp_bd x
  unfold ulE; omega
set_option maxRecDepth 100000 in
set_option maxHeartbeats 16000000 in
theorem walkQuotBack (x : Int) (x0 : 0 ≤ x) (x1 : x ≤ 18446744073709551615) (y : Int) (y0 : 0 ≤ y) (y1 : y ≤ 18446744073709551615) (mode : Int) (mode0 : -9223372036854775808 ≤ mode) (mode1 : mode ≤ 9223372036854775807) (w : World) (hT : Tab w) :
    Calls Tryd.prog 11 #[.int .u64 x, .int .u64 y, .int .i64 mode] w fun e w' => e = .returned (.bool true) ∧ Below w.heap.size w w' := by
  have pb := dvV_bd x y mode
  have HM := Lib.hid (fun w' h => qdiv_any x y mode x0 x1 y0 y1 w' h)
  have HA := Lib.hid (fun w' h => valu_any x x0 x1 w' h)
  have HB := Lib.hid (fun w' h => valu_any y y0 y1 w' h)
  have HC := Lib.hid (fun w' h => valu_any (dvV x y mode) pb.1 pb.2 w' h)
  have F_a := Lib.hid (ofD_fit x x0 x1)
  have F_b := Lib.hid (ofD_fit y y0 y1)
  have F_c := Lib.hid (ofD_fit (dvV x y mode) pb.1 pb.2)
  have HT := Lib.hid hT
  clear hT
  have hcase : adE mode ≠ 0 ∨ (adE mode = 0 ∧ (hasV x = false ∨ (hasV x = true ∧ (hasV y = false ∨ (hasV y = true ∧ (hasV (dvV x y mode) = false ∨ (hasV (dvV x y mode) = true ∧ ((ofD y).m = 0 ∨ (ofD y).m ≠ 0)))))))) := by
    cases hasV x <;> cases hasV y <;> cases hasV (dvV x y mode) <;> simp <;> omega
  rcases hcase with hE | ⟨hE, vx | ⟨vx, vy | ⟨vy, vq | ⟨vq, hz | hz⟩⟩⟩⟩
  · obtain ⟨D_a, hD_a⟩ : ∃ D, D = ofD x := ⟨_, rfl⟩
    obtain ⟨D_b, hD_b⟩ : ∃ D, D = ofD y := ⟨_, rfl⟩
    obtain ⟨D_c, hD_c⟩ : ∃ D, D = ofD (dvV x y mode) := ⟨_, rfl⟩
    rw [← hD_a] at HA F_a
    rw [← hD_b] at HB F_b
    rw [← hD_c] at HC F_c
    have hE2 : (adE mode != 0) = true := by rw [bne_iff_ne]; exact hE
    clear hE
    skip
    clear hD_a hD_b hD_c
    generalize dvV x y mode = q at *
    generalize dvC x y mode = C at *
    generalize hasV x = hx at *
    generalize hasV y = hy at *
    generalize hasV q = hq at *
    generalize adE mode = E at *
    go_enter Tryd.func11, Tryd.ntmps11
    go_wp2_with fail
    refine (HM.out _ HT.out).mono ?_
    rintro r w1 ⟨rfl, hb⟩
    have S : Below w.heap.size w w1 := hb
    have B := Lib.hid S
    clear hb S
    go_wp2_with fail
    refine (HA.out _ (HT.out.below B.out)).mono ?_
    rintro r w2 ⟨a_a, n_a, k_a, rfl, hv, hb⟩
    have S : Below w1.heap.size w1 w2 := hb
    replace B := Lib.hid (bl_thru B.out (Nat.le_refl _) S)
    have R_a := Lib.hid (rd_of (d := D_a) hv F_a.out)
    clear hb S hv
    go_wp2_with fail
    refine (HB.out _ (HT.out.below (by have := B.out; have := B.out.size; go_grown))).mono ?_
    rintro r w3 ⟨a_b, n_b, k_b, rfl, hv, hb⟩
    have S : Below w2.heap.size w2 w3 := bl_thru (by go_grown) (Nat.le_refl _) hb
    replace B := Lib.hid (bl_thru B.out (Nat.le_refl _) S)
    have X_a := Lib.hid ((Box.new w2 _ _ _ _).below hb)
    replace R_a := Lib.hid (R_a.out.below S)
    have R_b := Lib.hid (rd_of (d := D_b) hv F_b.out)
    clear hb S hv
    go_wp2_with fail
    refine (HC.out _ (HT.out.below (by have := B.out; have := B.out.size; go_grown))).mono ?_
    rintro r w4 ⟨a_c, n_c, k_c, rfl, hv, hb⟩
    have S : Below w3.heap.size w3 w4 := bl_thru (by go_grown) (Nat.le_refl _) hb
    replace B := Lib.hid (bl_thru B.out (Nat.le_refl _) S)
    replace X_a := Lib.hid (X_a.out.below S)
    have X_b := Lib.hid ((Box.new w3 _ _ _ _).below hb)
    replace R_a := Lib.hid (R_a.out.below S)
    replace R_b := Lib.hid (R_b.out.below S)
    have R_c := Lib.hid (rd_of (d := D_c) hv F_c.out)
    clear hb S hv
    go_wp2_with fail
    refine (quotLives_any _ (HT.out.below (by have := B.out; have := B.out.size; go_grown))).mono ?_
    rintro r w5 ⟨rfl, hb⟩
    have S : Below w4.heap.size w4 w5 := bl_thru (by go_grown) (Nat.le_refl _) hb
    replace B := Lib.hid (bl_thru B.out (Nat.le_refl _) S)
    replace X_a := Lib.hid (X_a.out.below S)
    replace X_b := Lib.hid (X_b.out.below S)
    have X_c := Lib.hid ((Box.new w4 _ _ _ _).below hb)
    replace R_a := Lib.hid (R_a.out.below S)
    replace R_b := Lib.hid (R_b.out.below S)
    replace R_c := Lib.hid (R_c.out.below S)
    clear hb S
    go_wp2_with fail
    refine (quotLives_any _ (HT.out.below B.out)).mono ?_
    rintro r w6 ⟨rfl, hb⟩
    have S : Below w5.heap.size w5 w6 := hb
    replace B := Lib.hid (bl_thru B.out (Nat.le_refl _) S)
    replace X_a := Lib.hid (X_a.out.below S)
    replace X_b := Lib.hid (X_b.out.below S)
    replace X_c := Lib.hid (X_c.out.below S)
    replace R_a := Lib.hid (R_a.out.below S)
    replace R_b := Lib.hid (R_b.out.below S)
    replace R_c := Lib.hid (R_c.out.below S)
    clear hb S
    go_wp2
    go_ret
    exact ⟨rfl, B.out⟩
  · obtain ⟨D_a, hD_a⟩ : ∃ D, D = ofD x := ⟨_, rfl⟩
    obtain ⟨D_b, hD_b⟩ : ∃ D, D = ofD y := ⟨_, rfl⟩
    obtain ⟨D_c, hD_c⟩ : ∃ D, D = ofD (dvV x y mode) := ⟨_, rfl⟩
    rw [← hD_a] at HA F_a
    rw [← hD_b] at HB F_b
    rw [← hD_c] at HC F_c
    rw [hE] at HM
    clear hE
    rw [vx] at HA
    clear vx
    clear hD_a hD_b hD_c
    generalize dvV x y mode = q at *
    generalize dvC x y mode = C at *
    generalize hasV x = hx at *
    generalize hasV y = hy at *
    generalize hasV q = hq at *
    generalize adE mode = E at *
    go_enter Tryd.func11, Tryd.ntmps11
    go_wp2_with fail
    refine (HM.out _ HT.out).mono ?_
    rintro r w1 ⟨rfl, hb⟩
    have S : Below w.heap.size w w1 := hb
    have B := Lib.hid S
    clear hb S
    go_wp2_with fail
    refine (HA.out _ (HT.out.below B.out)).mono ?_
    rintro r w2 ⟨a_a, n_a, k_a, rfl, hv, hb⟩
    have S : Below w1.heap.size w1 w2 := hb
    replace B := Lib.hid (bl_thru B.out (Nat.le_refl _) S)
    have R_a := Lib.hid (rd_of (d := D_a) hv F_a.out)
    clear hb S hv
    go_wp2_with fail
    refine (HB.out _ (HT.out.below (by have := B.out; have := B.out.size; go_grown))).mono ?_
    rintro r w3 ⟨a_b, n_b, k_b, rfl, hv, hb⟩
    have S : Below w2.heap.size w2 w3 := bl_thru (by go_grown) (Nat.le_refl _) hb
    replace B := Lib.hid (bl_thru B.out (Nat.le_refl _) S)
    have X_a := Lib.hid ((Box.new w2 _ _ _ _).below hb)
    replace R_a := Lib.hid (R_a.out.below S)
    have R_b := Lib.hid (rd_of (d := D_b) hv F_b.out)
    clear hb S hv
    go_wp2_with fail
    refine (HC.out _ (HT.out.below (by have := B.out; have := B.out.size; go_grown))).mono ?_
    rintro r w4 ⟨a_c, n_c, k_c, rfl, hv, hb⟩
    have S : Below w3.heap.size w3 w4 := bl_thru (by go_grown) (Nat.le_refl _) hb
    replace B := Lib.hid (bl_thru B.out (Nat.le_refl _) S)
    replace X_a := Lib.hid (X_a.out.below S)
    have X_b := Lib.hid ((Box.new w3 _ _ _ _).below hb)
    replace R_a := Lib.hid (R_a.out.below S)
    replace R_b := Lib.hid (R_b.out.below S)
    have R_c := Lib.hid (rd_of (d := D_c) hv F_c.out)
    clear hb S hv
    go_wp2_with fail
    refine (quotLives_any _ (HT.out.below (by have := B.out; have := B.out.size; go_grown))).mono ?_
    rintro r w5 ⟨rfl, hb⟩
    have S : Below w4.heap.size w4 w5 := bl_thru (by go_grown) (Nat.le_refl _) hb
    replace B := Lib.hid (bl_thru B.out (Nat.le_refl _) S)
    replace X_a := Lib.hid (X_a.out.below S)
    replace X_b := Lib.hid (X_b.out.below S)
    have X_c := Lib.hid ((Box.new w4 _ _ _ _).below hb)
    replace R_a := Lib.hid (R_a.out.below S)
    replace R_b := Lib.hid (R_b.out.below S)
    replace R_c := Lib.hid (R_c.out.below S)
    clear hb S
    go_wp2_with fail
    refine (quotLives_any _ (HT.out.below B.out)).mono ?_
    rintro r w6 ⟨rfl, hb⟩
    have S : Below w5.heap.size w5 w6 := hb
    replace B := Lib.hid (bl_thru B.out (Nat.le_refl _) S)
    replace X_a := Lib.hid (X_a.out.below S)
    replace X_b := Lib.hid (X_b.out.below S)
    replace X_c := Lib.hid (X_c.out.below S)
    replace R_a := Lib.hid (R_a.out.below S)
    replace R_b := Lib.hid (R_b.out.below S)
    replace R_c := Lib.hid (R_c.out.below S)
    clear hb S
    go_wp2
    go_ret
    exact ⟨rfl, B.out⟩
  · obtain ⟨D_a, hD_a⟩ : ∃ D, D = ofD x := ⟨_, rfl⟩
    obtain ⟨D_b, hD_b⟩ : ∃ D, D = ofD y := ⟨_, rfl⟩
    obtain ⟨D_c, hD_c⟩ : ∃ D, D = ofD (dvV x y mode) := ⟨_, rfl⟩
    rw [← hD_a] at HA F_a
    rw [← hD_b] at HB F_b
    rw [← hD_c] at HC F_c
    rw [hE] at HM
    clear hE
    rw [vx] at HA
    rw [vy] at HB
    clear vx vy
    clear hD_a hD_b hD_c
    generalize dvV x y mode = q at *
    generalize dvC x y mode = C at *
    generalize hasV x = hx at *
    generalize hasV y = hy at *
    generalize hasV q = hq at *
    generalize adE mode = E at *
    go_enter Tryd.func11, Tryd.ntmps11
    go_wp2_with fail
    refine (HM.out _ HT.out).mono ?_
    rintro r w1 ⟨rfl, hb⟩
    have S : Below w.heap.size w w1 := hb
    have B := Lib.hid S
    clear hb S
    go_wp2_with fail
    refine (HA.out _ (HT.out.below B.out)).mono ?_
    rintro r w2 ⟨a_a, n_a, k_a, rfl, hv, hb⟩
    have S : Below w1.heap.size w1 w2 := hb
    replace B := Lib.hid (bl_thru B.out (Nat.le_refl _) S)
    have R_a := Lib.hid (rd_of (d := D_a) hv F_a.out)
    clear hb S hv
    go_wp2_with fail
    refine (HB.out _ (HT.out.below (by have := B.out; have := B.out.size; go_grown))).mono ?_
    rintro r w3 ⟨a_b, n_b, k_b, rfl, hv, hb⟩
    have S : Below w2.heap.size w2 w3 := bl_thru (by go_grown) (Nat.le_refl _) hb
    replace B := Lib.hid (bl_thru B.out (Nat.le_refl _) S)
    have X_a := Lib.hid ((Box.new w2 _ _ _ _).below hb)
    replace R_a := Lib.hid (R_a.out.below S)
    have R_b := Lib.hid (rd_of (d := D_b) hv F_b.out)
    clear hb S hv
    go_wp2_with fail
    refine (HC.out _ (HT.out.below (by have := B.out; have := B.out.size; go_grown))).mono ?_
    rintro r w4 ⟨a_c, n_c, k_c, rfl, hv, hb⟩
    have S : Below w3.heap.size w3 w4 := bl_thru (by go_grown) (Nat.le_refl _) hb
    replace B := Lib.hid (bl_thru B.out (Nat.le_refl _) S)
    replace X_a := Lib.hid (X_a.out.below S)
    have X_b := Lib.hid ((Box.new w3 _ _ _ _).below hb)
    replace R_a := Lib.hid (R_a.out.below S)
    replace R_b := Lib.hid (R_b.out.below S)
    have R_c := Lib.hid (rd_of (d := D_c) hv F_c.out)
    clear hb S hv
    go_wp2_with fail
    refine (quotLives_any _ (HT.out.below (by have := B.out; have := B.out.size; go_grown))).mono ?_
    rintro r w5 ⟨rfl, hb⟩
    have S : Below w4.heap.size w4 w5 := bl_thru (by go_grown) (Nat.le_refl _) hb
    replace B := Lib.hid (bl_thru B.out (Nat.le_refl _) S)
    replace X_a := Lib.hid (X_a.out.below S)
    replace X_b := Lib.hid (X_b.out.below S)
    have X_c := Lib.hid ((Box.new w4 _ _ _ _).below hb)
    replace R_a := Lib.hid (R_a.out.below S)
    replace R_b := Lib.hid (R_b.out.below S)
    replace R_c := Lib.hid (R_c.out.below S)
    clear hb S
    go_wp2_with fail
    refine (quotLives_any _ (HT.out.below B.out)).mono ?_
    rintro r w6 ⟨rfl, hb⟩
    have S : Below w5.heap.size w5 w6 := hb
    replace B := Lib.hid (bl_thru B.out (Nat.le_refl _) S)
    replace X_a := Lib.hid (X_a.out.below S)
    replace X_b := Lib.hid (X_b.out.below S)
    replace X_c := Lib.hid (X_c.out.below S)
    replace R_a := Lib.hid (R_a.out.below S)
    replace R_b := Lib.hid (R_b.out.below S)
    replace R_c := Lib.hid (R_c.out.below S)
    clear hb S
    go_wp2
    go_ret
    exact ⟨rfl, B.out⟩
  · obtain ⟨D_a, hD_a⟩ : ∃ D, D = ofD x := ⟨_, rfl⟩
    obtain ⟨D_b, hD_b⟩ : ∃ D, D = ofD y := ⟨_, rfl⟩
    obtain ⟨D_c, hD_c⟩ : ∃ D, D = ofD (dvV x y mode) := ⟨_, rfl⟩
    rw [← hD_a] at HA F_a
    rw [← hD_b] at HB F_b
    rw [← hD_c] at HC F_c
    rw [hE] at HM
    clear hE
    rw [vx] at HA
    rw [vy] at HB
    rw [vq] at HC
    clear vx vy vq
    clear hD_a hD_b hD_c
    generalize dvV x y mode = q at *
    generalize dvC x y mode = C at *
    generalize hasV x = hx at *
    generalize hasV y = hy at *
    generalize hasV q = hq at *
    generalize adE mode = E at *
    go_enter Tryd.func11, Tryd.ntmps11
    go_wp2_with fail
    refine (HM.out _ HT.out).mono ?_
    rintro r w1 ⟨rfl, hb⟩
    have S : Below w.heap.size w w1 := hb
    have B := Lib.hid S
    clear hb S
    go_wp2_with fail
    refine (HA.out _ (HT.out.below B.out)).mono ?_
    rintro r w2 ⟨a_a, n_a, k_a, rfl, hv, hb⟩
    have S : Below w1.heap.size w1 w2 := hb
    replace B := Lib.hid (bl_thru B.out (Nat.le_refl _) S)
    have R_a := Lib.hid (rd_of (d := D_a) hv F_a.out)
    clear hb S hv
    go_wp2_with fail
    refine (HB.out _ (HT.out.below (by have := B.out; have := B.out.size; go_grown))).mono ?_
    rintro r w3 ⟨a_b, n_b, k_b, rfl, hv, hb⟩
    have S : Below w2.heap.size w2 w3 := bl_thru (by go_grown) (Nat.le_refl _) hb
    replace B := Lib.hid (bl_thru B.out (Nat.le_refl _) S)
    have X_a := Lib.hid ((Box.new w2 _ _ _ _).below hb)
    replace R_a := Lib.hid (R_a.out.below S)
    have R_b := Lib.hid (rd_of (d := D_b) hv F_b.out)
    clear hb S hv
    go_wp2_with fail
    refine (HC.out _ (HT.out.below (by have := B.out; have := B.out.size; go_grown))).mono ?_
    rintro r w4 ⟨a_c, n_c, k_c, rfl, hv, hb⟩
    have S : Below w3.heap.size w3 w4 := bl_thru (by go_grown) (Nat.le_refl _) hb
    replace B := Lib.hid (bl_thru B.out (Nat.le_refl _) S)
    replace X_a := Lib.hid (X_a.out.below S)
    have X_b := Lib.hid ((Box.new w3 _ _ _ _).below hb)
    replace R_a := Lib.hid (R_a.out.below S)
    replace R_b := Lib.hid (R_b.out.below S)
    have R_c := Lib.hid (rd_of (d := D_c) hv F_c.out)
    clear hb S hv
    go_wp2_with fail
    refine (quotLives_any _ (HT.out.below (by have := B.out; have := B.out.size; go_grown))).mono ?_
    rintro r w5 ⟨rfl, hb⟩
    have S : Below w4.heap.size w4 w5 := bl_thru (by go_grown) (Nat.le_refl _) hb
    replace B := Lib.hid (bl_thru B.out (Nat.le_refl _) S)
    replace X_a := Lib.hid (X_a.out.below S)
    replace X_b := Lib.hid (X_b.out.below S)
    have X_c := Lib.hid ((Box.new w4 _ _ _ _).below hb)
    replace R_a := Lib.hid (R_a.out.below S)
    replace R_b := Lib.hid (R_b.out.below S)
    replace R_c := Lib.hid (R_c.out.below S)
    clear hb S
    go_wp2_with fail
    refine (quotLives_any _ (HT.out.below B.out)).mono ?_
    rintro r w6 ⟨rfl, hb⟩
    have S : Below w5.heap.size w5 w6 := hb
    replace B := Lib.hid (bl_thru B.out (Nat.le_refl _) S)
    replace X_a := Lib.hid (X_a.out.below S)
    replace X_b := Lib.hid (X_b.out.below S)
    replace X_c := Lib.hid (X_c.out.below S)
    replace R_a := Lib.hid (R_a.out.below S)
    replace R_b := Lib.hid (R_b.out.below S)
    replace R_c := Lib.hid (R_c.out.below S)
    clear hb S
    go_wp2
    go_ret
    exact ⟨rfl, B.out⟩
  · obtain ⟨D_a, hD_a⟩ : ∃ D, D = ofD x := ⟨_, rfl⟩
    obtain ⟨D_b, hD_b⟩ : ∃ D, D = ofD y := ⟨_, rfl⟩
    obtain ⟨D_c, hD_c⟩ : ∃ D, D = ofD (dvV x y mode) := ⟨_, rfl⟩
    rw [← hD_a] at HA F_a
    rw [← hD_b] at HB F_b
    rw [← hD_c] at HC F_c
    rw [hE] at HM
    clear hE
    rw [← hD_b] at hz
    rw [vx] at HA
    rw [vy] at HB
    rw [vq] at HC
    clear vx vy vq
    clear hD_a hD_b hD_c
    generalize dvV x y mode = q at *
    generalize dvC x y mode = C at *
    generalize hasV x = hx at *
    generalize hasV y = hy at *
    generalize hasV q = hq at *
    generalize adE mode = E at *
    go_enter Tryd.func11, Tryd.ntmps11
    go_wp2_with fail
    refine (HM.out _ HT.out).mono ?_
    rintro r w1 ⟨rfl, hb⟩
    have S : Below w.heap.size w w1 := hb
    have B := Lib.hid S
    clear hb S
    go_wp2_with fail
    refine (HA.out _ (HT.out.below B.out)).mono ?_
    rintro r w2 ⟨a_a, n_a, k_a, rfl, hv, hb⟩
    have S : Below w1.heap.size w1 w2 := hb
    replace B := Lib.hid (bl_thru B.out (Nat.le_refl _) S)
    have R_a := Lib.hid (rd_of (d := D_a) hv F_a.out)
    clear hb S hv
    go_wp2_with fail
    refine (HB.out _ (HT.out.below (by have := B.out; have := B.out.size; go_grown))).mono ?_
    rintro r w3 ⟨a_b, n_b, k_b, rfl, hv, hb⟩
    have S : Below w2.heap.size w2 w3 := bl_thru (by go_grown) (Nat.le_refl _) hb
    replace B := Lib.hid (bl_thru B.out (Nat.le_refl _) S)
    have X_a := Lib.hid ((Box.new w2 _ _ _ _).below hb)
    replace R_a := Lib.hid (R_a.out.below S)
    have R_b := Lib.hid (rd_of (d := D_b) hv F_b.out)
    clear hb S hv
    go_wp2_with fail
    refine (HC.out _ (HT.out.below (by have := B.out; have := B.out.size; go_grown))).mono ?_
    rintro r w4 ⟨a_c, n_c, k_c, rfl, hv, hb⟩
    have S : Below w3.heap.size w3 w4 := bl_thru (by go_grown) (Nat.le_refl _) hb
    replace B := Lib.hid (bl_thru B.out (Nat.le_refl _) S)
    replace X_a := Lib.hid (X_a.out.below S)
    have X_b := Lib.hid ((Box.new w3 _ _ _ _).below hb)
    replace R_a := Lib.hid (R_a.out.below S)
    replace R_b := Lib.hid (R_b.out.below S)
    have R_c := Lib.hid (rd_of (d := D_c) hv F_c.out)
    clear hb S hv
    go_wp2_with fail
    refine (quotLives_any _ (HT.out.below (by have := B.out; have := B.out.size; go_grown))).mono ?_
    rintro r w5 ⟨rfl, hb⟩
    have S : Below w4.heap.size w4 w5 := bl_thru (by go_grown) (Nat.le_refl _) hb
    replace B := Lib.hid (bl_thru B.out (Nat.le_refl _) S)
    replace X_a := Lib.hid (X_a.out.below S)
    replace X_b := Lib.hid (X_b.out.below S)
    have X_c := Lib.hid ((Box.new w4 _ _ _ _).below hb)
    replace R_a := Lib.hid (R_a.out.below S)
    replace R_b := Lib.hid (R_b.out.below S)
    replace R_c := Lib.hid (R_c.out.below S)
    clear hb S
    have hlen := len_ofq (nv_of_rd R_b.out)
    obtain rfl : n_b = 0 := by omega
    clear hlen hz
    obtain ⟨c0_b, c1_b, c2_b, d0_b, d1_b, d2_b⟩ := X_b.out.cells
    have l_b := X_b.out.lt
    go_wp2_with fail
    refine (quotLives_any _ (HT.out.below B.out)).mono ?_
    rintro r w6 ⟨rfl, hb⟩
    have S : Below w5.heap.size w5 w6 := hb
    replace B := Lib.hid (bl_thru B.out (Nat.le_refl _) S)
    replace X_a := Lib.hid (X_a.out.below S)
    replace X_b := Lib.hid (X_b.out.below S)
    replace X_c := Lib.hid (X_c.out.below S)
    replace R_a := Lib.hid (R_a.out.below S)
    replace R_b := Lib.hid (R_b.out.below S)
    replace R_c := Lib.hid (R_c.out.below S)
    clear hb S c0_b c1_b c2_b d0_b d1_b d2_b l_b
    go_wp2
    go_ret
    exact ⟨rfl, B.out⟩
  · have hk : knownB mode = true := adEq_0' hE
    have hym : (valD y).m ≠ 0 := by rw [← ofD_yesq vy]; exact hz
    obtain ⟨lw1, lw2⟩ := quotBack_a x0 x1 y0 y1 hk vx vy vq hym
    have hm : times (ofD y) (ofD (dvV x y mode)) = prD y (dvV x y mode) := by rw [ofD_yesq vy, ofD_yesq vq]; rfl
    have hl : plus (ofD x) (opp (prD y (dvV x y mode))) = leftD x y (dvV x y mode) := by rw [ofD_yesq vx]; rfl
    have hf1 := prod_fitq y (dvV x y mode) y0 y1 pb.1 pb.2
    have hf2 := left_fit x y (dvV x y mode) x0 x1 y0 y1 pb.1 pb.2
    have hux := fun w' => ulp_any x x0 x1 w'
    have huy := fun w' => ulp_any y y0 y1 w'
    have huq := fun w' => ulp_any (dvV x y mode) pb.1 pb.2 w'
    have e1 : ∀ z, hasV z = true → ulV z = ulE z ∧ ofE z = 0 := fun z hz => by unfold ulV ofE; rw [hz]; exact ⟨rfl, rfl⟩
    rw [(e1 _ vx).1, (e1 _ vx).2] at hux
    rw [(e1 _ vy).1, (e1 _ vy).2] at huy
    rw [(e1 _ vq).1, (e1 _ vq).2] at huq
    have HCL := Lib.hid (fun w' => class_any (dvV x y mode) pb.1 pb.2 w')
    have HAB := Lib.hid (fun w' => abs_any (dvV x y mode) pb.1 pb.2 w')
    have HNG := Lib.hid (fun w' => neg_any (dvV x y mode) pb.1 pb.2 w')
    have nb := fneg_bd pb.1 pb.2
    have HFM := Lib.hid (fun w' h => pfma_any (fneg (dvV x y mode)) y x 0 nb.1 nb.2 y0 y1 x0 x1 w' h)
    have hr := fmV_bd (fneg (dvV x y mode)) y x 0 x0 x1
    have HR := Lib.hid (fun w' h => valu_any (fmV (fneg (dvV x y mode)) y x 0) hr.1 hr.2 w' h)
    have F_r := Lib.hid (ofD_fit (fmV (fneg (dvV x y mode)) y x 0) hr.1 hr.2)
    have had : adE 0 = 0 := by decide
    rw [had] at HFM
    obtain ⟨ux0, ux1⟩ := ul_bdq (x := x)
    obtain ⟨uy0, uy1⟩ := ul_bdq (x := y)
    obtain ⟨uq0, uq1⟩ := ul_bdq (x := dvV x y mode)
    have lw3 : -1074 ≤ ulE (dvV x y mode) + ulE y → fcls (dvV x y mode) = 3 → fabs (dvV x y mode) ≠ 9218868437227405311 → fmC (fneg (dvV x y mode)) y x 0 = false ∧ hasV (fmV (fneg (dvV x y mode)) y x 0) = true ∧ ofD (fmV (fneg (dvV x y mode)) y x 0) = leftD x y (dvV x y mode) := fun a b c => by
      obtain ⟨p1, p2, p3⟩ := lw2 a b c
      exact ⟨p1, p2, by rw [ofD_yesq p2]; exact p3⟩
    clear lw2 hr nb had hym hk e1
    have ok2m := ok2_mk
    have ok3m : ok3 0 0 0 = true := by decide
    obtain ⟨D_a, hD_a⟩ : ∃ D, D = ofD x := ⟨_, rfl⟩
    obtain ⟨D_b, hD_b⟩ : ∃ D, D = ofD y := ⟨_, rfl⟩
    obtain ⟨D_c, hD_c⟩ : ∃ D, D = ofD (dvV x y mode) := ⟨_, rfl⟩
    rw [← hD_a] at HA F_a
    rw [← hD_b] at HB F_b
    rw [← hD_c] at HC F_c
    obtain ⟨D_p, hD_p⟩ : ∃ D, D = prD y (dvV x y mode) := ⟨_, rfl⟩
    obtain ⟨D_d, hD_d⟩ : ∃ D, D = leftD x y (dvV x y mode) := ⟨_, rfl⟩
    obtain ⟨D_r, hD_r⟩ : ∃ D, D = ofD (fmV (fneg (dvV x y mode)) y x 0) := ⟨_, rfl⟩
    rw [← hD_b, ← hD_c, ← hD_p] at hm
    rw [← hD_a, ← hD_p, ← hD_d] at hl
    rw [← hD_p] at hf1
    rw [← hD_d] at hf2 lw1 lw3
    rw [← hD_r] at HR F_r lw3
    rw [← hD_b] at hz
    rw [vx] at HA
    rw [vy] at HB
    rw [vq] at HC
    rw [hE] at HM
    have HMU := Lib.hid (fun v1 v2 w' h0 h1 h2 => mul_fitq v1 v2 D_b D_c D_p w' h0 h1 h2 hm hf1)
    have HSU := Lib.hid (fun v1 v2 w' h0 h1 h2 => sub_fitq v1 v2 D_a D_p D_d w' h0 h1 h2 hl hf2)
    have F_p := Lib.hid hf1
    have F_d := Lib.hid hf2
    have SMT := Lib.hid (fun (hs : D_r = D_d) v1 v2 w' h1 h2 => same_toq hs v1 v2 w' h1 h2)
    have HUX := Lib.hid hux
    have HUY := Lib.hid huy
    have HUQ := Lib.hid huq
    clear vx vy vq hE hm hl hf1 hf2 hux huy huq hD_a hD_b hD_c hD_p hD_d hD_r
    generalize fmV (fneg (dvV x y mode)) y x 0 = r at *
    generalize fmC (fneg (dvV x y mode)) y x 0 = rc at *
    generalize fneg (dvV x y mode) = nq at *
    generalize hasV r = hr at *
    generalize fcls (dvV x y mode) = cq at *
    generalize fabs (dvV x y mode) = aq at *
    generalize ulE (dvV x y mode) = uq at *
    generalize dvV x y mode = q at *
    generalize dvC x y mode = C at *
    generalize ulE x = ux at *
    generalize ulE y = uy at *
    have hway : (uq + uy < -1074 ∨ (-1074 ≤ uq + uy ∧ ((cq != 3) = true ∨ ((cq != 3) = false ∧ aq = 9218868437227405311)))) ∨ (-1074 ≤ uq + uy ∧ (cq != 3) = false ∧ (aq == 9218868437227405311) = false ∧ rc = false ∧ hr = true ∧ Hid (D_r = D_d ∧ True)) := by
      by_cases h1 : uq + uy < -1074
      · exact Or.inl (Or.inl h1)
      · by_cases h2 : cq = 3
        · by_cases h3 : aq = 9218868437227405311
          · exact Or.inl (Or.inr ⟨by omega, Or.inr ⟨by rw [bne_eq_false_iff_eq]; exact h2, h3⟩⟩)
          · obtain ⟨p1, p2, p3⟩ := lw3 (by omega) h2 h3
            exact Or.inr ⟨by omega, by rw [bne_eq_false_iff_eq]; exact h2, by rw [beq_eq_false_iff_ne]; exact h3, p1, p2, Lib.hid ⟨p3, trivial⟩⟩
        · exact Or.inl (Or.inr ⟨by omega, Or.inl (by rw [bne_iff_ne]; exact h2)⟩)
    have LW := Lib.hid lw1
    have WAY := Lib.hid hway
    clear lw1 lw3 hway
    go_enter Tryd.func11, Tryd.ntmps11
    go_wp2_with fail
    refine (HM.out _ HT.out).mono ?_
    rintro r w1 ⟨rfl, hb⟩
    have S : Below w.heap.size w w1 := hb
    have B := Lib.hid S
    clear hb S
    go_wp2_with fail
    refine (HA.out _ (HT.out.below B.out)).mono ?_
    rintro r w2 ⟨a_a, n_a, k_a, rfl, hv, hb⟩
    have S : Below w1.heap.size w1 w2 := hb
    replace B := Lib.hid (bl_thru B.out (Nat.le_refl _) S)
    have R_a := Lib.hid (rd_of (d := D_a) hv F_a.out)
    clear hb S hv
    go_wp2_with fail
    refine (HB.out _ (HT.out.below (by have := B.out; have := B.out.size; go_grown))).mono ?_
    rintro r w3 ⟨a_b, n_b, k_b, rfl, hv, hb⟩
    have S : Below w2.heap.size w2 w3 := bl_thru (by go_grown) (Nat.le_refl _) hb
    replace B := Lib.hid (bl_thru B.out (Nat.le_refl _) S)
    have X_a := Lib.hid ((Box.new w2 _ _ _ _).below hb)
    replace R_a := Lib.hid (R_a.out.below S)
    have R_b := Lib.hid (rd_of (d := D_b) hv F_b.out)
    clear hb S hv
    go_wp2_with fail
    refine (HC.out _ (HT.out.below (by have := B.out; have := B.out.size; go_grown))).mono ?_
    rintro r w4 ⟨a_c, n_c, k_c, rfl, hv, hb⟩
    have S : Below w3.heap.size w3 w4 := bl_thru (by go_grown) (Nat.le_refl _) hb
    replace B := Lib.hid (bl_thru B.out (Nat.le_refl _) S)
    replace X_a := Lib.hid (X_a.out.below S)
    have X_b := Lib.hid ((Box.new w3 _ _ _ _).below hb)
    replace R_a := Lib.hid (R_a.out.below S)
    replace R_b := Lib.hid (R_b.out.below S)
    have R_c := Lib.hid (rd_of (d := D_c) hv F_c.out)
    clear hb S hv
    go_wp2_with fail
    refine (quotLives_any _ (HT.out.below (by have := B.out; have := B.out.size; go_grown))).mono ?_
    rintro r w5 ⟨rfl, hb⟩
    have S : Below w4.heap.size w4 w5 := bl_thru (by go_grown) (Nat.le_refl _) hb
    replace B := Lib.hid (bl_thru B.out (Nat.le_refl _) S)
    replace X_a := Lib.hid (X_a.out.below S)
    replace X_b := Lib.hid (X_b.out.below S)
    have X_c := Lib.hid ((Box.new w4 _ _ _ _).below hb)
    replace R_a := Lib.hid (R_a.out.below S)
    replace R_b := Lib.hid (R_b.out.below S)
    replace R_c := Lib.hid (R_c.out.below S)
    clear hb S
    have hlen := len_ofq (nv_of_rd R_b.out)
    have hnb : 1 ≤ n_b := by omega
    clear hlen hz
    obtain ⟨c0_b, c1_b, c2_b, d0_b, d1_b, d2_b⟩ := X_b.out.cells
    have l_b := X_b.out.lt
    obtain ⟨c0_c, c1_c, c2_c, d0_c, d1_c, d2_c⟩ := X_c.out.cells
    have l_c := X_c.out.lt
    go_wp2_with fail
    refine (HMU.out _ _ _ (HT.out.below B.out) R_b.out R_c.out).mono ?_
    rintro r w6 ⟨a_p, n_p, k_p, rfl, hv, hb⟩
    have S : Below w5.heap.size w5 w6 := hb
    replace B := Lib.hid (bl_thru B.out (Nat.le_refl _) S)
    replace X_a := Lib.hid (X_a.out.below S)
    clear X_b
    clear X_c
    replace R_a := Lib.hid (R_a.out.below S)
    clear R_b
    clear R_c
    have R_p := Lib.hid (rd_of (d := D_p) hv F_p.out)
    clear hb S hv c0_b c1_b c2_b d0_b d1_b d2_b l_b c0_c c1_c c2_c d0_c d1_c d2_c l_c
    obtain ⟨c0_a, c1_a, c2_a, d0_a, d1_a, d2_a⟩ := X_a.out.cells
    have l_a := X_a.out.lt
    go_wp2_with fail
    refine (HSU.out _ _ _ (HT.out.below (by have := B.out; have := B.out.size; go_grown)) (R_a.out.below (by go_grown)) (R_p.out.below (by go_grown))).mono ?_
    rintro r w7 ⟨a_d, n_d, k_d, rfl, hv, hb⟩
    have S : Below w6.heap.size w6 w7 := bl_thru (by go_grown) (Nat.le_refl _) hb
    replace B := Lib.hid (bl_thru B.out (Nat.le_refl _) S)
    clear X_a
    clear R_a
    clear R_p
    have R_d := Lib.hid (rd_of (d := D_d) hv F_d.out)
    clear hb S hv c0_a c1_a c2_a d0_a d1_a d2_a l_a
    have hlen := len_ofq (nv_of_rd R_d.out)
    have hC : (C = false ∧ n_d = 0) ∨ (C = true ∧ 1 ≤ n_d) := by
      have := LW.out
      cases C
      · left; exact ⟨rfl, by have := this.1 rfl; omega⟩
      · right; refine ⟨rfl, ?_⟩
        have h2 : D_d.m ≠ 0 := fun h => by have := this.2 h; cases this
        omega
    clear hlen LW
    rcases hC with ⟨rfl, rfl⟩ | ⟨rfl, hnd⟩
    · rcases WAY.out with (h1 | ⟨h1, h2 | ⟨h2, rfl⟩⟩) | ⟨h1, h2, h3, rfl, rfl, HS⟩
      · clear WAY SMT HFM HR F_r HNG
        go_wp2_with (first
          | (go_at_call 18; first | ((with_reducible refine (ok_new2 _ _ _ _ (by simp)).mono ?_); rintro e w' ⟨rfl, rfl⟩) | ((with_reducible refine (ok_new3 _ _ _ _ _ (by simp)).mono ?_); rintro e w' ⟨rfl, rfl⟩))
          | (go_at_call 46; first | ((with_reducible refine (HUX.out _).mono ?_); rintro e w' ⟨rfl, rfl⟩) | ((with_reducible refine (HUQ.out _).mono ?_); rintro e w' ⟨rfl, rfl⟩) | ((with_reducible refine (HUY.out _).mono ?_); rintro e w' ⟨rfl, rfl⟩))
          | (go_at_call 19; (with_reducible refine (HCL.out _).mono ?_); rintro e w' ⟨rfl, rfl⟩)
          | (go_at_call 23; (with_reducible refine (HAB.out _).mono ?_); rintro e w' ⟨rfl, rfl⟩))
        all_goals (go_ret; exact ⟨rfl, (by have := B.out; have := B.out.size; go_grown)⟩)
      · clear WAY SMT HFM HR F_r HNG
        go_wp2_with (first
          | (go_at_call 18; first | ((with_reducible refine (ok_new2 _ _ _ _ (by simp)).mono ?_); rintro e w' ⟨rfl, rfl⟩) | ((with_reducible refine (ok_new3 _ _ _ _ _ (by simp)).mono ?_); rintro e w' ⟨rfl, rfl⟩))
          | (go_at_call 46; first | ((with_reducible refine (HUX.out _).mono ?_); rintro e w' ⟨rfl, rfl⟩) | ((with_reducible refine (HUQ.out _).mono ?_); rintro e w' ⟨rfl, rfl⟩) | ((with_reducible refine (HUY.out _).mono ?_); rintro e w' ⟨rfl, rfl⟩))
          | (go_at_call 19; (with_reducible refine (HCL.out _).mono ?_); rintro e w' ⟨rfl, rfl⟩)
          | (go_at_call 23; (with_reducible refine (HAB.out _).mono ?_); rintro e w' ⟨rfl, rfl⟩))
        all_goals (go_ret; exact ⟨rfl, (by have := B.out; have := B.out.size; go_grown)⟩)
      · clear WAY SMT HFM HR F_r HNG
        go_wp2_with (first
          | (go_at_call 18; first | ((with_reducible refine (ok_new2 _ _ _ _ (by simp)).mono ?_); rintro e w' ⟨rfl, rfl⟩) | ((with_reducible refine (ok_new3 _ _ _ _ _ (by simp)).mono ?_); rintro e w' ⟨rfl, rfl⟩))
          | (go_at_call 46; first | ((with_reducible refine (HUX.out _).mono ?_); rintro e w' ⟨rfl, rfl⟩) | ((with_reducible refine (HUQ.out _).mono ?_); rintro e w' ⟨rfl, rfl⟩) | ((with_reducible refine (HUY.out _).mono ?_); rintro e w' ⟨rfl, rfl⟩))
          | (go_at_call 19; (with_reducible refine (HCL.out _).mono ?_); rintro e w' ⟨rfl, rfl⟩)
          | (go_at_call 23; (with_reducible refine (HAB.out _).mono ?_); rintro e w' ⟨rfl, rfl⟩))
        all_goals (go_ret; exact ⟨rfl, (by have := B.out; have := B.out.size; go_grown)⟩)
      · clear WAY
        go_wp2_with (first
          | (go_at_call 18; first | ((with_reducible refine (ok_new2 _ _ _ _ (by simp)).mono ?_); rintro e w' ⟨rfl, rfl⟩) | ((with_reducible refine (ok_new3 _ _ _ _ _ (by simp)).mono ?_); rintro e w' ⟨rfl, rfl⟩))
          | (go_at_call 46; first | ((with_reducible refine (HUX.out _).mono ?_); rintro e w' ⟨rfl, rfl⟩) | ((with_reducible refine (HUQ.out _).mono ?_); rintro e w' ⟨rfl, rfl⟩) | ((with_reducible refine (HUY.out _).mono ?_); rintro e w' ⟨rfl, rfl⟩))
          | (go_at_call 19; (with_reducible refine (HCL.out _).mono ?_); rintro e w' ⟨rfl, rfl⟩)
          | (go_at_call 23; (with_reducible refine (HAB.out _).mono ?_); rintro e w' ⟨rfl, rfl⟩)
          | (go_at_call 20; (with_reducible refine (HNG.out _).mono ?_); rintro e w' ⟨rfl, rfl⟩))
        refine (HFM.out _ (HT.out.below (by have := B.out; have := B.out.size; go_grown))).mono ?_
        rintro r w8 ⟨rfl, hb⟩
        have S : Below w7.heap.size w7 w8 := bl_thru (by go_grown) (Nat.le_refl _) hb
        replace B := Lib.hid (bl_thru B.out (Nat.le_refl _) S)
        have X_d := Lib.hid ((((Box.new w7 _ _ _ _).alloc _).alloc _).below hb)
        replace R_d := Lib.hid (R_d.out.below S)
        clear hb S
        go_wp2_with fail
        refine (HR.out _ (HT.out.below B.out)).mono ?_
        rintro r w9 ⟨a_r, n_r, k_r, rfl, hv, hb⟩
        have S : Below w8.heap.size w8 w9 := hb
        replace B := Lib.hid (bl_thru B.out (Nat.le_refl _) S)
        replace X_d := Lib.hid (X_d.out.below S)
        replace R_d := Lib.hid (R_d.out.below S)
        have R_r := Lib.hid (rd_of (d := D_r) hv F_r.out)
        clear hb S hv
        have SM2 := Lib.hid (SMT.out HS.out.1)
        clear SMT HS
        obtain ⟨c0_d, c1_d, c2_d, d0_d, d1_d, d2_d⟩ := X_d.out.cells
        have l_d := X_d.out.lt
        go_wp2_with fail
        refine (SM2.out _ _ _ (R_r.out.below (by go_grown)).dv (R_d.out.below (by go_grown)).dv).mono ?_
        rintro r w10 ⟨rfl, hb⟩
        have S : Below w9.heap.size w9 w10 := bl_thru (by go_grown) (Nat.le_refl _) hb
        replace B := Lib.hid (bl_thru B.out (Nat.le_refl _) S)
        clear X_d
        clear R_d
        clear R_r
        clear hb S c0_d c1_d c2_d d0_d d1_d d2_d l_d
        go_wp2
        go_ret
        exact ⟨rfl, B.out⟩
    · rcases WAY.out with (h1 | ⟨h1, h2 | ⟨h2, rfl⟩⟩) | ⟨h1, h2, h3, rfl, rfl, HS⟩
      · clear WAY SMT HFM HR F_r HNG
        go_wp2_with (first
          | (go_at_call 18; first | ((with_reducible refine (ok_new2 _ _ _ _ (by simp)).mono ?_); rintro e w' ⟨rfl, rfl⟩) | ((with_reducible refine (ok_new3 _ _ _ _ _ (by simp)).mono ?_); rintro e w' ⟨rfl, rfl⟩))
          | (go_at_call 46; first | ((with_reducible refine (HUX.out _).mono ?_); rintro e w' ⟨rfl, rfl⟩) | ((with_reducible refine (HUQ.out _).mono ?_); rintro e w' ⟨rfl, rfl⟩) | ((with_reducible refine (HUY.out _).mono ?_); rintro e w' ⟨rfl, rfl⟩))
          | (go_at_call 19; (with_reducible refine (HCL.out _).mono ?_); rintro e w' ⟨rfl, rfl⟩)
          | (go_at_call 23; (with_reducible refine (HAB.out _).mono ?_); rintro e w' ⟨rfl, rfl⟩))
        all_goals (go_ret; exact ⟨rfl, (by have := B.out; have := B.out.size; go_grown)⟩)
      · clear WAY SMT HFM HR F_r HNG
        go_wp2_with (first
          | (go_at_call 18; first | ((with_reducible refine (ok_new2 _ _ _ _ (by simp)).mono ?_); rintro e w' ⟨rfl, rfl⟩) | ((with_reducible refine (ok_new3 _ _ _ _ _ (by simp)).mono ?_); rintro e w' ⟨rfl, rfl⟩))
          | (go_at_call 46; first | ((with_reducible refine (HUX.out _).mono ?_); rintro e w' ⟨rfl, rfl⟩) | ((with_reducible refine (HUQ.out _).mono ?_); rintro e w' ⟨rfl, rfl⟩) | ((with_reducible refine (HUY.out _).mono ?_); rintro e w' ⟨rfl, rfl⟩))
          | (go_at_call 19; (with_reducible refine (HCL.out _).mono ?_); rintro e w' ⟨rfl, rfl⟩)
          | (go_at_call 23; (with_reducible refine (HAB.out _).mono ?_); rintro e w' ⟨rfl, rfl⟩))
        all_goals (go_ret; exact ⟨rfl, (by have := B.out; have := B.out.size; go_grown)⟩)
      · clear WAY SMT HFM HR F_r HNG
        go_wp2_with (first
          | (go_at_call 18; first | ((with_reducible refine (ok_new2 _ _ _ _ (by simp)).mono ?_); rintro e w' ⟨rfl, rfl⟩) | ((with_reducible refine (ok_new3 _ _ _ _ _ (by simp)).mono ?_); rintro e w' ⟨rfl, rfl⟩))
          | (go_at_call 46; first | ((with_reducible refine (HUX.out _).mono ?_); rintro e w' ⟨rfl, rfl⟩) | ((with_reducible refine (HUQ.out _).mono ?_); rintro e w' ⟨rfl, rfl⟩) | ((with_reducible refine (HUY.out _).mono ?_); rintro e w' ⟨rfl, rfl⟩))
          | (go_at_call 19; (with_reducible refine (HCL.out _).mono ?_); rintro e w' ⟨rfl, rfl⟩)
          | (go_at_call 23; (with_reducible refine (HAB.out _).mono ?_); rintro e w' ⟨rfl, rfl⟩))
        all_goals (go_ret; exact ⟨rfl, (by have := B.out; have := B.out.size; go_grown)⟩)
      · clear WAY
        go_wp2_with (first
          | (go_at_call 18; first | ((with_reducible refine (ok_new2 _ _ _ _ (by simp)).mono ?_); rintro e w' ⟨rfl, rfl⟩) | ((with_reducible refine (ok_new3 _ _ _ _ _ (by simp)).mono ?_); rintro e w' ⟨rfl, rfl⟩))
          | (go_at_call 46; first | ((with_reducible refine (HUX.out _).mono ?_); rintro e w' ⟨rfl, rfl⟩) | ((with_reducible refine (HUQ.out _).mono ?_); rintro e w' ⟨rfl, rfl⟩) | ((with_reducible refine (HUY.out _).mono ?_); rintro e w' ⟨rfl, rfl⟩))
          | (go_at_call 19; (with_reducible refine (HCL.out _).mono ?_); rintro e w' ⟨rfl, rfl⟩)
          | (go_at_call 23; (with_reducible refine (HAB.out _).mono ?_); rintro e w' ⟨rfl, rfl⟩)
          | (go_at_call 20; (with_reducible refine (HNG.out _).mono ?_); rintro e w' ⟨rfl, rfl⟩))
        refine (HFM.out _ (HT.out.below (by have := B.out; have := B.out.size; go_grown))).mono ?_
        rintro r w8 ⟨rfl, hb⟩
        have S : Below w7.heap.size w7 w8 := bl_thru (by go_grown) (Nat.le_refl _) hb
        replace B := Lib.hid (bl_thru B.out (Nat.le_refl _) S)
        have X_d := Lib.hid ((((Box.new w7 _ _ _ _).alloc _).alloc _).below hb)
        replace R_d := Lib.hid (R_d.out.below S)
        clear hb S
        go_wp2_with fail
        refine (HR.out _ (HT.out.below B.out)).mono ?_
        rintro r w9 ⟨a_r, n_r, k_r, rfl, hv, hb⟩
        have S : Below w8.heap.size w8 w9 := hb
        replace B := Lib.hid (bl_thru B.out (Nat.le_refl _) S)
        replace X_d := Lib.hid (X_d.out.below S)
        replace R_d := Lib.hid (R_d.out.below S)
        have R_r := Lib.hid (rd_of (d := D_r) hv F_r.out)
        clear hb S hv
        have SM2 := Lib.hid (SMT.out HS.out.1)
        clear SMT HS
        obtain ⟨c0_d, c1_d, c2_d, d0_d, d1_d, d2_d⟩ := X_d.out.cells
        have l_d := X_d.out.lt
        go_wp2_with fail
        refine (SM2.out _ _ _ (R_r.out.below (by go_grown)).dv (R_d.out.below (by go_grown)).dv).mono ?_
        rintro r w10 ⟨rfl, hb⟩
        have S : Below w9.heap.size w9 w10 := bl_thru (by go_grown) (Nat.le_refl _) hb
        replace B := Lib.hid (bl_thru B.out (Nat.le_refl _) S)
        clear X_d
        clear R_d
        clear R_r
        clear hb S c0_d c1_d c2_d d0_d d1_d d2_d l_d
        go_wp2
        go_ret
        exact ⟨rfl, B.out⟩
end Go.Proofs.YthoejmhpgabgdaaDoor
