/-
  THE WALK of the law ProdExact.
-/
import Derived.Test.YtdknfdncgmeimaaDoorVl
import Derived.Test.YtdknfdncgmeimaaDoorPe
import Derived.Test.YtdknfdncgmeimaaDoorEx
import Derived.Test.YtdknfdncgmeimaaDoorEx3
set_option linter.unusedVariables false
set_option linter.unusedSimpArgs false
namespace Go.Proofs.YtdknfdncgmeimaaDoor
open Go.RowKit Nt Fm Fl

theorem same_to {d1 d2 : D} {b : Bool} (hs : sameB d1 d2 = b) (v1 v2 : Value) (w : World) (h1 : DV w v1 d1) (h2 : DV w v2 d2) :
    Calls Tryd.prog 30 #[v1, v2] w fun r w' => r = .returned (.bool b) ∧ Below w.heap.size w w' := by
  have := same_any v1 v2 d1 d2 w h1 h2
  rw [hs] at this; exact this
theorem prD_fit (x y : Int) (x0 : 0 ≤ x) (x1 : x ≤ 18446744073709551615) (y0 : 0 ≤ y) (y1 : y ≤ 18446744073709551615) : Fit (prD x y) := by
  obtain ⟨a, b, c⟩ := prD_bd x y x0 x1 y0 y1
  exact fit_of (prD_nf x y) (by omega) a (by omega) (by omega)
theorem ofD_yes {x : Int} (h : hasV x = true) : ofD x = valD x := by unfold ofD; rw [if_pos h]
theorem hasV_f {x : Int} (h : hasV x = true) : fabs x < 9218868437227405312 := by unfold hasV at h; simpa using h
theorem prodExact_a {x y mode : Int} (hk : knownB mode = true) (hx : hasV x = true) (hy : hasV y = true) :
    (muC x y mode = false ∧ hasV (muV x y mode) = true ∧ sameB (ofD (muV x y mode)) (prD x y) = true) ∨ (muC x y mode = true ∧ hasV (muV x y mode) = false) ∨ (muC x y mode = true ∧ hasV (muV x y mode) = true ∧ sameB (ofD (muV x y mode)) (prD x y) = false) := by
  rw [(muV_yes hk).1, (muV_yes hk).2.1]
  rcases mu_exact (hasV_f hx) (hasV_f hy) mode with ⟨a, b, c⟩ | ⟨a, b⟩
  · left; refine ⟨a, b, ?_⟩; rw [ofD_yes b, c]; exact sameB_refl _
  · cases hh : hasV (muV0 x y mode)
    · right; left; exact ⟨a, rfl⟩
    · right; right; refine ⟨a, rfl, ?_⟩
      rw [ofD_yes hh]
      cases hs : sameB (valD (muV0 x y mode)) (prD x y)
      · rfl
      · exact absurd (sameB_iff.1 hs) (b hh)

set_option maxRecDepth 100000 in
set_option maxHeartbeats 16000000 in
theorem walkProdExact (x : Int) (x0 : 0 ≤ x) (x1 : x ≤ 18446744073709551615) (y : Int) (y0 : 0 ≤ y) (y1 : y ≤ 18446744073709551615) (mode : Int) (mode0 : -9223372036854775808 ≤ mode) (mode1 : mode ≤ 9223372036854775807) (w : World) (hT : Tab w) :
    Calls Tryd.prog 24 #[.int .u64 x, .int .u64 y, .int .i64 mode] w fun e w' => e = .returned (.bool true) ∧ Below w.heap.size w w' := by
  obtain ⟨p0, p1⟩ := muV_bd x y mode
  have HM := Lib.hid (fun w' h => pmul_any x y mode x0 x1 y0 y1 w' h)
  have HA := Lib.hid (fun w' h => valu_any x x0 x1 w' h)
  have HB := Lib.hid (fun w' h => valu_any y y0 y1 w' h)
  have HP := Lib.hid (fun w' h => valu_any (muV x y mode) p0 p1 w' h)
  have F_a := Lib.hid (ofD_fit x x0 x1)
  have F_b := Lib.hid (ofD_fit y y0 y1)
  have F_c := Lib.hid (ofD_fit (muV x y mode) p0 p1)
  have F_d := Lib.hid (prD_fit x y x0 x1 y0 y1)
  have HD : Hid (hasV x = true → hasV y = true → ∀ v1 v2 w', Tab w' → RD w' v1 0 (ofD x) → RD w' v2 0 (ofD y) → Calls Tryd.prog 32 #[v1, v2] w' (RetR w' 0 (prD x y))) := Lib.hid (fun hx hy v1 v2 w' h0 h1 h2 => by
    have := mul_any v1 v2 0 0 (ofD x) (ofD y) w' h0 h1 h2
    have e0 : times (ofD x) (ofD y) = prD x y := by rw [ofD_yes hx, ofD_yes hy]; rfl
    rw [e0, (opE_zero (prD x y)).1, (opE_zero (prD x y)).2, fitE_of F_d.out, if_pos rfl] at this
    exact this)
  have K : Hid (adE mode = 1 ∨ (adE mode = 0 ∧ (hasV x = false ∨ (hasV x = true ∧ (hasV y = false ∨ (hasV y = true ∧ ((muC x y mode = false ∧ hasV (muV x y mode) = true ∧ sameB (ofD (muV x y mode)) (prD x y) = true) ∨ (muC x y mode = true ∧ hasV (muV x y mode) = false) ∨ (muC x y mode = true ∧ hasV (muV x y mode) = true ∧ sameB (ofD (muV x y mode)) (prD x y) = false)))))))) := Lib.hid (by
    cases hk : knownB mode
    · left; unfold adE; rw [hk]; rfl
    · right
      refine ⟨by unfold adE; rw [hk]; rfl, ?_⟩
      cases hx : hasV x
      · exact Or.inl rfl
      · right; refine ⟨rfl, ?_⟩
        cases hy : hasV y
        · exact Or.inl rfl
        · right; exact ⟨rfl, prodExact_a hk hx hy⟩)
  have SM : Hid (∀ b, sameB (ofD (muV x y mode)) (prD x y) = b → ∀ v1 v2 w', DV w' v1 (ofD (muV x y mode)) → DV w' v2 (prD x y) → Calls Tryd.prog 30 #[v1, v2] w' fun r w'' => r = .returned (.bool b) ∧ Below w'.heap.size w' w'') := Lib.hid (fun b hs v1 v2 w' h1 h2 => same_to hs v1 v2 w' h1 h2)
  obtain ⟨D_a, hD_a⟩ : ∃ D, D = ofD x := ⟨_, rfl⟩
  obtain ⟨D_b, hD_b⟩ : ∃ D, D = ofD y := ⟨_, rfl⟩
  obtain ⟨D_c, hD_c⟩ : ∃ D, D = ofD (muV x y mode) := ⟨_, rfl⟩
  obtain ⟨D_d, hD_d⟩ : ∃ D, D = prD x y := ⟨_, rfl⟩
  rw [← hD_a] at HA F_a HD
  rw [← hD_b] at HB F_b HD
  rw [← hD_c] at HP F_c K SM
  rw [← hD_d] at F_d HD K SM
  clear hD_a hD_b hD_c hD_d
  generalize muV x y mode = p at *
  generalize muC x y mode = C at *
  generalize hasV x = hx at *
  generalize hasV y = hy at *
  generalize hasV p = hp at *
  generalize adE mode = E at *
  have HT := Lib.hid hT
  clear hT
  rcases K.out with hE | ⟨hE, h1 | ⟨h1, h2 | ⟨h2, K3⟩⟩⟩
  · subst hE
    clear K
    go_enter Tryd.func24, Tryd.ntmps24
    go_wp2_with fail
    refine (HM.out _ HT.out).mono ?_
    rintro r w1 ⟨rfl, hb⟩
    have S : Below w.heap.size w w1 := hb
    have B := Lib.hid S
    clear hb S
    go_wp2_with fail
    refine (HA.out _ (HT.out.below B.out)).mono ?_
    rintro r w2 ⟨a_a, n_a, k_a, rfl, hv, hb⟩
    have S : Below w1.heap.size w1 w2 := hb
    replace B := Lib.hid (bl_thru B.out (Nat.le_refl _) S)
    have R_a := Lib.hid (rd_of (d := D_a) hv F_a.out)
    clear hb S hv
    go_wp2_with fail
    refine (HB.out _ (HT.out.below (by have := B.out; have := B.out.size; go_grown))).mono ?_
    rintro r w3 ⟨a_b, n_b, k_b, rfl, hv, hb⟩
    have S : Below w2.heap.size w2 w3 := bl_thru (by go_grown) (Nat.le_refl _) hb
    replace B := Lib.hid (bl_thru B.out (Nat.le_refl _) S)
    have X_a := Lib.hid ((Box.new w2 _ _ _ _).below hb)
    replace R_a := Lib.hid (R_a.out.below S)
    have R_b := Lib.hid (rd_of (d := D_b) hv F_b.out)
    clear hb S hv
    go_wp2_with fail
    refine (HP.out _ (HT.out.below (by have := B.out; have := B.out.size; go_grown))).mono ?_
    rintro r w4 ⟨a_c, n_c, k_c, rfl, hv, hb⟩
    have S : Below w3.heap.size w3 w4 := bl_thru (by go_grown) (Nat.le_refl _) hb
    replace B := Lib.hid (bl_thru B.out (Nat.le_refl _) S)
    replace X_a := Lib.hid (X_a.out.below S)
    have X_b := Lib.hid ((Box.new w3 _ _ _ _).below hb)
    replace R_a := Lib.hid (R_a.out.below S)
    replace R_b := Lib.hid (R_b.out.below S)
    have R_c := Lib.hid (rd_of (d := D_c) hv F_c.out)
    clear hb S hv
    go_wp2_with fail
    refine (prodLives_any _ (HT.out.below (by have := B.out; have := B.out.size; go_grown))).mono ?_
    rintro r w5 ⟨rfl, hb⟩
    have S : Below w4.heap.size w4 w5 := bl_thru (by go_grown) (Nat.le_refl _) hb
    replace B := Lib.hid (bl_thru B.out (Nat.le_refl _) S)
    replace X_a := Lib.hid (X_a.out.below S)
    replace X_b := Lib.hid (X_b.out.below S)
    have X_c := Lib.hid ((Box.new w4 _ _ _ _).below hb)
    replace R_a := Lib.hid (R_a.out.below S)
    replace R_b := Lib.hid (R_b.out.below S)
    replace R_c := Lib.hid (R_c.out.below S)
    clear hb S
    go_wp2_with fail
    refine (prodLives_any _ (HT.out.below B.out)).mono ?_
    rintro r w6 ⟨rfl, hb⟩
    have S : Below w5.heap.size w5 w6 := hb
    replace B := Lib.hid (bl_thru B.out (Nat.le_refl _) S)
    replace X_a := Lib.hid (X_a.out.below S)
    replace X_b := Lib.hid (X_b.out.below S)
    replace X_c := Lib.hid (X_c.out.below S)
    replace R_a := Lib.hid (R_a.out.below S)
    replace R_b := Lib.hid (R_b.out.below S)
    replace R_c := Lib.hid (R_c.out.below S)
    clear hb S
    go_wp2
    go_ret
    exact ⟨rfl, B.out⟩
  · subst hE h1
    clear K
    go_enter Tryd.func24, Tryd.ntmps24
    go_wp2_with fail
    refine (HM.out _ HT.out).mono ?_
    rintro r w1 ⟨rfl, hb⟩
    have S : Below w.heap.size w w1 := hb
    have B := Lib.hid S
    clear hb S
    go_wp2_with fail
    refine (HA.out _ (HT.out.below B.out)).mono ?_
    rintro r w2 ⟨a_a, n_a, k_a, rfl, hv, hb⟩
    have S : Below w1.heap.size w1 w2 := hb
    replace B := Lib.hid (bl_thru B.out (Nat.le_refl _) S)
    have R_a := Lib.hid (rd_of (d := D_a) hv F_a.out)
    clear hb S hv
    go_wp2_with fail
    refine (HB.out _ (HT.out.below (by have := B.out; have := B.out.size; go_grown))).mono ?_
    rintro r w3 ⟨a_b, n_b, k_b, rfl, hv, hb⟩
    have S : Below w2.heap.size w2 w3 := bl_thru (by go_grown) (Nat.le_refl _) hb
    replace B := Lib.hid (bl_thru B.out (Nat.le_refl _) S)
    have X_a := Lib.hid ((Box.new w2 _ _ _ _).below hb)
    replace R_a := Lib.hid (R_a.out.below S)
    have R_b := Lib.hid (rd_of (d := D_b) hv F_b.out)
    clear hb S hv
    go_wp2_with fail
    refine (HP.out _ (HT.out.below (by have := B.out; have := B.out.size; go_grown))).mono ?_
    rintro r w4 ⟨a_c, n_c, k_c, rfl, hv, hb⟩
    have S : Below w3.heap.size w3 w4 := bl_thru (by go_grown) (Nat.le_refl _) hb
    replace B := Lib.hid (bl_thru B.out (Nat.le_refl _) S)
    replace X_a := Lib.hid (X_a.out.below S)
    have X_b := Lib.hid ((Box.new w3 _ _ _ _).below hb)
    replace R_a := Lib.hid (R_a.out.below S)
    replace R_b := Lib.hid (R_b.out.below S)
    have R_c := Lib.hid (rd_of (d := D_c) hv F_c.out)
    clear hb S hv
    go_wp2_with fail
    refine (prodLives_any _ (HT.out.below (by have := B.out; have := B.out.size; go_grown))).mono ?_
    rintro r w5 ⟨rfl, hb⟩
    have S : Below w4.heap.size w4 w5 := bl_thru (by go_grown) (Nat.le_refl _) hb
    replace B := Lib.hid (bl_thru B.out (Nat.le_refl _) S)
    replace X_a := Lib.hid (X_a.out.below S)
    replace X_b := Lib.hid (X_b.out.below S)
    have X_c := Lib.hid ((Box.new w4 _ _ _ _).below hb)
    replace R_a := Lib.hid (R_a.out.below S)
    replace R_b := Lib.hid (R_b.out.below S)
    replace R_c := Lib.hid (R_c.out.below S)
    clear hb S
    go_wp2_with fail
    refine (prodLives_any _ (HT.out.below B.out)).mono ?_
    rintro r w6 ⟨rfl, hb⟩
    have S : Below w5.heap.size w5 w6 := hb
    replace B := Lib.hid (bl_thru B.out (Nat.le_refl _) S)
    replace X_a := Lib.hid (X_a.out.below S)
    replace X_b := Lib.hid (X_b.out.below S)
    replace X_c := Lib.hid (X_c.out.below S)
    replace R_a := Lib.hid (R_a.out.below S)
    replace R_b := Lib.hid (R_b.out.below S)
    replace R_c := Lib.hid (R_c.out.below S)
    clear hb S
    go_wp2
    go_ret
    exact ⟨rfl, B.out⟩
  · subst hE h1 h2
    clear K
    go_enter Tryd.func24, Tryd.ntmps24
    go_wp2_with fail
    refine (HM.out _ HT.out).mono ?_
    rintro r w1 ⟨rfl, hb⟩
    have S : Below w.heap.size w w1 := hb
    have B := Lib.hid S
    clear hb S
    go_wp2_with fail
    refine (HA.out _ (HT.out.below B.out)).mono ?_
    rintro r w2 ⟨a_a, n_a, k_a, rfl, hv, hb⟩
    have S : Below w1.heap.size w1 w2 := hb
    replace B := Lib.hid (bl_thru B.out (Nat.le_refl _) S)
    have R_a := Lib.hid (rd_of (d := D_a) hv F_a.out)
    clear hb S hv
    go_wp2_with fail
    refine (HB.out _ (HT.out.below (by have := B.out; have := B.out.size; go_grown))).mono ?_
    rintro r w3 ⟨a_b, n_b, k_b, rfl, hv, hb⟩
    have S : Below w2.heap.size w2 w3 := bl_thru (by go_grown) (Nat.le_refl _) hb
    replace B := Lib.hid (bl_thru B.out (Nat.le_refl _) S)
    have X_a := Lib.hid ((Box.new w2 _ _ _ _).below hb)
    replace R_a := Lib.hid (R_a.out.below S)
    have R_b := Lib.hid (rd_of (d := D_b) hv F_b.out)
    clear hb S hv
    go_wp2_with fail
    refine (HP.out _ (HT.out.below (by have := B.out; have := B.out.size; go_grown))).mono ?_
    rintro r w4 ⟨a_c, n_c, k_c, rfl, hv, hb⟩
    have S : Below w3.heap.size w3 w4 := bl_thru (by go_grown) (Nat.le_refl _) hb
    replace B := Lib.hid (bl_thru B.out (Nat.le_refl _) S)
    replace X_a := Lib.hid (X_a.out.below S)
    have X_b := Lib.hid ((Box.new w3 _ _ _ _).below hb)
    replace R_a := Lib.hid (R_a.out.below S)
    replace R_b := Lib.hid (R_b.out.below S)
    have R_c := Lib.hid (rd_of (d := D_c) hv F_c.out)
    clear hb S hv
    go_wp2_with fail
    refine (prodLives_any _ (HT.out.below (by have := B.out; have := B.out.size; go_grown))).mono ?_
    rintro r w5 ⟨rfl, hb⟩
    have S : Below w4.heap.size w4 w5 := bl_thru (by go_grown) (Nat.le_refl _) hb
    replace B := Lib.hid (bl_thru B.out (Nat.le_refl _) S)
    replace X_a := Lib.hid (X_a.out.below S)
    replace X_b := Lib.hid (X_b.out.below S)
    have X_c := Lib.hid ((Box.new w4 _ _ _ _).below hb)
    replace R_a := Lib.hid (R_a.out.below S)
    replace R_b := Lib.hid (R_b.out.below S)
    replace R_c := Lib.hid (R_c.out.below S)
    clear hb S
    go_wp2_with fail
    refine (prodLives_any _ (HT.out.below B.out)).mono ?_
    rintro r w6 ⟨rfl, hb⟩
    have S : Below w5.heap.size w5 w6 := hb
    replace B := Lib.hid (bl_thru B.out (Nat.le_refl _) S)
    replace X_a := Lib.hid (X_a.out.below S)
    replace X_b := Lib.hid (X_b.out.below S)
    replace X_c := Lib.hid (X_c.out.below S)
    replace R_a := Lib.hid (R_a.out.below S)
    replace R_b := Lib.hid (R_b.out.below S)
    replace R_c := Lib.hid (R_c.out.below S)
    clear hb S
    go_wp2
    go_ret
    exact ⟨rfl, B.out⟩
  · subst hE h1 h2
    have HD2 := Lib.hid (HD.out rfl rfl)
    rcases K3 with ⟨rfl, rfl, hs⟩ | ⟨rfl, rfl⟩ | ⟨rfl, rfl, hs⟩
    · have SM2 := Lib.hid (SM.out _ hs)
      clear hs
      clear SM HD
      clear K
      go_enter Tryd.func24, Tryd.ntmps24
      go_wp2_with fail
      refine (HM.out _ HT.out).mono ?_
      rintro r w1 ⟨rfl, hb⟩
      have S : Below w.heap.size w w1 := hb
      have B := Lib.hid S
      clear hb S
      go_wp2_with fail
      refine (HA.out _ (HT.out.below B.out)).mono ?_
      rintro r w2 ⟨a_a, n_a, k_a, rfl, hv, hb⟩
      have S : Below w1.heap.size w1 w2 := hb
      replace B := Lib.hid (bl_thru B.out (Nat.le_refl _) S)
      have R_a := Lib.hid (rd_of (d := D_a) hv F_a.out)
      clear hb S hv
      go_wp2_with fail
      refine (HB.out _ (HT.out.below (by have := B.out; have := B.out.size; go_grown))).mono ?_
      rintro r w3 ⟨a_b, n_b, k_b, rfl, hv, hb⟩
      have S : Below w2.heap.size w2 w3 := bl_thru (by go_grown) (Nat.le_refl _) hb
      replace B := Lib.hid (bl_thru B.out (Nat.le_refl _) S)
      have X_a := Lib.hid ((Box.new w2 _ _ _ _).below hb)
      replace R_a := Lib.hid (R_a.out.below S)
      have R_b := Lib.hid (rd_of (d := D_b) hv F_b.out)
      clear hb S hv
      go_wp2_with fail
      refine (HP.out _ (HT.out.below (by have := B.out; have := B.out.size; go_grown))).mono ?_
      rintro r w4 ⟨a_c, n_c, k_c, rfl, hv, hb⟩
      have S : Below w3.heap.size w3 w4 := bl_thru (by go_grown) (Nat.le_refl _) hb
      replace B := Lib.hid (bl_thru B.out (Nat.le_refl _) S)
      replace X_a := Lib.hid (X_a.out.below S)
      have X_b := Lib.hid ((Box.new w3 _ _ _ _).below hb)
      replace R_a := Lib.hid (R_a.out.below S)
      replace R_b := Lib.hid (R_b.out.below S)
      have R_c := Lib.hid (rd_of (d := D_c) hv F_c.out)
      clear hb S hv
      go_wp2_with fail
      refine (prodLives_any _ (HT.out.below (by have := B.out; have := B.out.size; go_grown))).mono ?_
      rintro r w5 ⟨rfl, hb⟩
      have S : Below w4.heap.size w4 w5 := bl_thru (by go_grown) (Nat.le_refl _) hb
      replace B := Lib.hid (bl_thru B.out (Nat.le_refl _) S)
      replace X_a := Lib.hid (X_a.out.below S)
      replace X_b := Lib.hid (X_b.out.below S)
      have X_c := Lib.hid ((Box.new w4 _ _ _ _).below hb)
      replace R_a := Lib.hid (R_a.out.below S)
      replace R_b := Lib.hid (R_b.out.below S)
      replace R_c := Lib.hid (R_c.out.below S)
      clear hb S
      obtain ⟨c0_a, c1_a, c2_a, d0_a, d1_a, d2_a⟩ := X_a.out.cells
      have l_a := X_a.out.lt
      obtain ⟨c0_b, c1_b, c2_b, d0_b, d1_b, d2_b⟩ := X_b.out.cells
      have l_b := X_b.out.lt
      go_wp2_with fail
      refine (HD2.out _ _ _ (HT.out.below B.out) R_a.out R_b.out).mono ?_
      rintro r w6 ⟨a_d, n_d, k_d, rfl, hv, hb⟩
      have S : Below w5.heap.size w5 w6 := hb
      replace B := Lib.hid (bl_thru B.out (Nat.le_refl _) S)
      clear X_a
      clear X_b
      replace X_c := Lib.hid (X_c.out.below S)
      clear R_a
      clear R_b
      replace R_c := Lib.hid (R_c.out.below S)
      have R_d := Lib.hid (rd_of (d := D_d) hv F_d.out)
      clear hb S hv c0_a c1_a c2_a d0_a d1_a d2_a l_a c0_b c1_b c2_b d0_b d1_b d2_b l_b
      obtain ⟨c0_c, c1_c, c2_c, d0_c, d1_c, d2_c⟩ := X_c.out.cells
      have l_c := X_c.out.lt
      go_wp2_with fail
      refine (SM2.out _ _ _ (R_c.out.below (by go_grown)).dv (R_d.out.below (by go_grown)).dv).mono ?_
      rintro r w7 ⟨rfl, hb⟩
      have S : Below w6.heap.size w6 w7 := bl_thru (by go_grown) (Nat.le_refl _) hb
      replace B := Lib.hid (bl_thru B.out (Nat.le_refl _) S)
      clear X_c
      clear R_c
      clear R_d
      clear hb S c0_c c1_c c2_c d0_c d1_c d2_c l_c
      go_wp2
      go_ret
      exact ⟨rfl, B.out⟩
    · clear SM HD
      clear K
      go_enter Tryd.func24, Tryd.ntmps24
      go_wp2_with fail
      refine (HM.out _ HT.out).mono ?_
      rintro r w1 ⟨rfl, hb⟩
      have S : Below w.heap.size w w1 := hb
      have B := Lib.hid S
      clear hb S
      go_wp2_with fail
      refine (HA.out _ (HT.out.below B.out)).mono ?_
      rintro r w2 ⟨a_a, n_a, k_a, rfl, hv, hb⟩
      have S : Below w1.heap.size w1 w2 := hb
      replace B := Lib.hid (bl_thru B.out (Nat.le_refl _) S)
      have R_a := Lib.hid (rd_of (d := D_a) hv F_a.out)
      clear hb S hv
      go_wp2_with fail
      refine (HB.out _ (HT.out.below (by have := B.out; have := B.out.size; go_grown))).mono ?_
      rintro r w3 ⟨a_b, n_b, k_b, rfl, hv, hb⟩
      have S : Below w2.heap.size w2 w3 := bl_thru (by go_grown) (Nat.le_refl _) hb
      replace B := Lib.hid (bl_thru B.out (Nat.le_refl _) S)
      have X_a := Lib.hid ((Box.new w2 _ _ _ _).below hb)
      replace R_a := Lib.hid (R_a.out.below S)
      have R_b := Lib.hid (rd_of (d := D_b) hv F_b.out)
      clear hb S hv
      go_wp2_with fail
      refine (HP.out _ (HT.out.below (by have := B.out; have := B.out.size; go_grown))).mono ?_
      rintro r w4 ⟨a_c, n_c, k_c, rfl, hv, hb⟩
      have S : Below w3.heap.size w3 w4 := bl_thru (by go_grown) (Nat.le_refl _) hb
      replace B := Lib.hid (bl_thru B.out (Nat.le_refl _) S)
      replace X_a := Lib.hid (X_a.out.below S)
      have X_b := Lib.hid ((Box.new w3 _ _ _ _).below hb)
      replace R_a := Lib.hid (R_a.out.below S)
      replace R_b := Lib.hid (R_b.out.below S)
      have R_c := Lib.hid (rd_of (d := D_c) hv F_c.out)
      clear hb S hv
      go_wp2_with fail
      refine (prodLives_any _ (HT.out.below (by have := B.out; have := B.out.size; go_grown))).mono ?_
      rintro r w5 ⟨rfl, hb⟩
      have S : Below w4.heap.size w4 w5 := bl_thru (by go_grown) (Nat.le_refl _) hb
      replace B := Lib.hid (bl_thru B.out (Nat.le_refl _) S)
      replace X_a := Lib.hid (X_a.out.below S)
      replace X_b := Lib.hid (X_b.out.below S)
      have X_c := Lib.hid ((Box.new w4 _ _ _ _).below hb)
      replace R_a := Lib.hid (R_a.out.below S)
      replace R_b := Lib.hid (R_b.out.below S)
      replace R_c := Lib.hid (R_c.out.below S)
      clear hb S
      obtain ⟨c0_a, c1_a, c2_a, d0_a, d1_a, d2_a⟩ := X_a.out.cells
      have l_a := X_a.out.lt
      obtain ⟨c0_b, c1_b, c2_b, d0_b, d1_b, d2_b⟩ := X_b.out.cells
      have l_b := X_b.out.lt
      go_wp2_with fail
      refine (HD2.out _ _ _ (HT.out.below B.out) R_a.out R_b.out).mono ?_
      rintro r w6 ⟨a_d, n_d, k_d, rfl, hv, hb⟩
      have S : Below w5.heap.size w5 w6 := hb
      replace B := Lib.hid (bl_thru B.out (Nat.le_refl _) S)
      clear X_a
      clear X_b
      replace X_c := Lib.hid (X_c.out.below S)
      clear R_a
      clear R_b
      replace R_c := Lib.hid (R_c.out.below S)
      have R_d := Lib.hid (rd_of (d := D_d) hv F_d.out)
      clear hb S hv c0_a c1_a c2_a d0_a d1_a d2_a l_a c0_b c1_b c2_b d0_b d1_b d2_b l_b
      go_wp2
      go_ret
      exact ⟨rfl, (by have := B.out; have := B.out.size; go_grown)⟩
    · have SM2 := Lib.hid (SM.out _ hs)
      clear hs
      clear SM HD
      clear K
      go_enter Tryd.func24, Tryd.ntmps24
      go_wp2_with fail
      refine (HM.out _ HT.out).mono ?_
      rintro r w1 ⟨rfl, hb⟩
      have S : Below w.heap.size w w1 := hb
      have B := Lib.hid S
      clear hb S
      go_wp2_with fail
      refine (HA.out _ (HT.out.below B.out)).mono ?_
      rintro r w2 ⟨a_a, n_a, k_a, rfl, hv, hb⟩
      have S : Below w1.heap.size w1 w2 := hb
      replace B := Lib.hid (bl_thru B.out (Nat.le_refl _) S)
      have R_a := Lib.hid (rd_of (d := D_a) hv F_a.out)
      clear hb S hv
      go_wp2_with fail
      refine (HB.out _ (HT.out.below (by have := B.out; have := B.out.size; go_grown))).mono ?_
      rintro r w3 ⟨a_b, n_b, k_b, rfl, hv, hb⟩
      have S : Below w2.heap.size w2 w3 := bl_thru (by go_grown) (Nat.le_refl _) hb
      replace B := Lib.hid (bl_thru B.out (Nat.le_refl _) S)
      have X_a := Lib.hid ((Box.new w2 _ _ _ _).below hb)
      replace R_a := Lib.hid (R_a.out.below S)
      have R_b := Lib.hid (rd_of (d := D_b) hv F_b.out)
      clear hb S hv
      go_wp2_with fail
      refine (HP.out _ (HT.out.below (by have := B.out; have := B.out.size; go_grown))).mono ?_
      rintro r w4 ⟨a_c, n_c, k_c, rfl, hv, hb⟩
      have S : Below w3.heap.size w3 w4 := bl_thru (by go_grown) (Nat.le_refl _) hb
      replace B := Lib.hid (bl_thru B.out (Nat.le_refl _) S)
      replace X_a := Lib.hid (X_a.out.below S)
      have X_b := Lib.hid ((Box.new w3 _ _ _ _).below hb)
      replace R_a := Lib.hid (R_a.out.below S)
      replace R_b := Lib.hid (R_b.out.below S)
      have R_c := Lib.hid (rd_of (d := D_c) hv F_c.out)
      clear hb S hv
      go_wp2_with fail
      refine (prodLives_any _ (HT.out.below (by have := B.out; have := B.out.size; go_grown))).mono ?_
      rintro r w5 ⟨rfl, hb⟩
      have S : Below w4.heap.size w4 w5 := bl_thru (by go_grown) (Nat.le_refl _) hb
      replace B := Lib.hid (bl_thru B.out (Nat.le_refl _) S)
      replace X_a := Lib.hid (X_a.out.below S)
      replace X_b := Lib.hid (X_b.out.below S)
      have X_c := Lib.hid ((Box.new w4 _ _ _ _).below hb)
      replace R_a := Lib.hid (R_a.out.below S)
      replace R_b := Lib.hid (R_b.out.below S)
      replace R_c := Lib.hid (R_c.out.below S)
      clear hb S
      obtain ⟨c0_a, c1_a, c2_a, d0_a, d1_a, d2_a⟩ := X_a.out.cells
      have l_a := X_a.out.lt
      obtain ⟨c0_b, c1_b, c2_b, d0_b, d1_b, d2_b⟩ := X_b.out.cells
      have l_b := X_b.out.lt
      go_wp2_with fail
      refine (HD2.out _ _ _ (HT.out.below B.out) R_a.out R_b.out).mono ?_
      rintro r w6 ⟨a_d, n_d, k_d, rfl, hv, hb⟩
      have S : Below w5.heap.size w5 w6 := hb
      replace B := Lib.hid (bl_thru B.out (Nat.le_refl _) S)
      clear X_a
      clear X_b
      replace X_c := Lib.hid (X_c.out.below S)
      clear R_a
      clear R_b
      replace R_c := Lib.hid (R_c.out.below S)
      have R_d := Lib.hid (rd_of (d := D_d) hv F_d.out)
      clear hb S hv c0_a c1_a c2_a d0_a d1_a d2_a l_a c0_b c1_b c2_b d0_b d1_b d2_b l_b
      obtain ⟨c0_c, c1_c, c2_c, d0_c, d1_c, d2_c⟩ := X_c.out.cells
      have l_c := X_c.out.lt
      go_wp2_with fail
      refine (SM2.out _ _ _ (R_c.out.below (by go_grown)).dv (R_d.out.below (by go_grown)).dv).mono ?_
      rintro r w7 ⟨rfl, hb⟩
      have S : Below w6.heap.size w6 w7 := bl_thru (by go_grown) (Nat.le_refl _) hb
      replace B := Lib.hid (bl_thru B.out (Nat.le_refl _) S)
      clear X_c
      clear R_c
      clear R_d
      clear hb S c0_c c1_c c2_c d0_c d1_c d2_c l_c
      go_wp2
      go_ret
      exact ⟨rfl, B.out⟩
end Go.Proofs.YtdknfdncgmeimaaDoor
