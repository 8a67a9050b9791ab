/-
  THE WALK of the law DyadOrder.
-/
import Derived.Test.YtdknfdncgmeimaaDoorDyadRingW
set_option linter.unusedVariables false
set_option linter.unusedSimpArgs false
namespace Go.Proofs.YtdknfdncgmeimaaDoor
open Go.RowKit Nt Fm Fl

theorem ok2_all {a b : Int} (h : ok2 a b = true) : a = 0 ∧ b = 0 := by
  unfold ok2 at h; simp [and_assoc] at h; exact h
theorem ck2_swap (c1 c2 : Int) : (ck2 c2 c1 == 0) = (ck2 c1 c2 == 0) := by
  unfold ck2
  by_cases h1 : c1 = 0
  · by_cases h2 : c2 = 0
    · rw [h1, h2]
    · rw [if_neg h2, if_pos h1]
  · by_cases h2 : c2 = 0
    · rw [if_pos h2, if_neg h1]
    · rw [if_neg h2, if_neg h1, beq_eq_false_iff_ne.2 h1, beq_eq_false_iff_ne.2 h2]

set_option maxRecDepth 100000 in
set_option maxHeartbeats 16000000 in
theorem walkDyadOrder (va : Value) (ca : Int) (a : D) (vb : Value) (cb : Int) (b : D) (vc : Value) (cc : Int) (c : D) (w : World) (hT : Tab w) (ra : RD w va ca a) (rb : RD w vb cb b) (rc : RD w vc cc c) :
    Calls Tryd.prog 5 #[va, vb, vc] w fun e w' => e = .returned (.bool true) ∧ Below w.heap.size w w' := by
  obtain ⟨K_ab, E_ab, hK_ab, hE_ab⟩ : ∃ K E, K = cmE ca cb (a) (b) ∧ E = ck2 ca cb := ⟨_, _, rfl, rfl⟩
  have HC_ab := Lib.hid (fun v1 v2 w' h0 h1 h2 => by
    have := cmp_any v1 v2 ca cb (a) (b) w' h0 h1 h2
    rw [← hK_ab, ← hE_ab] at this; exact this)
  obtain ⟨K_ba, E_ba, hK_ba, hE_ba⟩ : ∃ K E, K = cmE cb ca (b) (a) ∧ E = ck2 cb ca := ⟨_, _, rfl, rfl⟩
  have HC_ba := Lib.hid (fun v1 v2 w' h0 h1 h2 => by
    have := cmp_any v1 v2 cb ca (b) (a) w' h0 h1 h2
    rw [← hK_ba, ← hE_ba] at this; exact this)
  obtain ⟨K_bc, E_bc, hK_bc, hE_bc⟩ : ∃ K E, K = cmE cb cc (b) (c) ∧ E = ck2 cb cc := ⟨_, _, rfl, rfl⟩
  have HC_bc := Lib.hid (fun v1 v2 w' h0 h1 h2 => by
    have := cmp_any v1 v2 cb cc (b) (c) w' h0 h1 h2
    rw [← hK_bc, ← hE_bc] at this; exact this)
  obtain ⟨K_ac, E_ac, hK_ac, hE_ac⟩ : ∃ K E, K = cmE ca cc (a) (c) ∧ E = ck2 ca cc := ⟨_, _, rfl, rfl⟩
  have HC_ac := Lib.hid (fun v1 v2 w' h0 h1 h2 => by
    have := cmp_any v1 v2 ca cc (a) (c) w' h0 h1 h2
    rw [← hK_ac, ← hE_ac] at this; exact this)
  have te : (E_ba == 0) = (E_ab == 0) := by rw [hE_ba, hE_ab]; exact ck2_swap _ _
  cases k4 : ok4 E_ab E_ba E_bc E_ac
  · clear hK_ab hK_ba hK_bc hK_ac hE_ab hE_ba hE_bc hE_ac
    have R_a := Lib.hid ra
    have R_b := Lib.hid rb
    have R_c := Lib.hid rc
    have HT := Lib.hid hT
    clear hT
    obtain ⟨ga, aa, na, pa, xa, rfl, -⟩ := ra
    obtain ⟨gb, ab, nb, pb, xb, rfl, -⟩ := rb
    obtain ⟨gc, ac, nc, pc, xc, rfl, -⟩ := rc
    go_enter Tryd.func5, Tryd.ntmps5
    go_wp2_with fail
    refine (HC_ab.out _ _ _ (HT.out.below (by go_grown)) (R_a.out.below (by go_grown)) (R_b.out.below (by go_grown))).mono ?_
    rintro r w1 ⟨rfl, hb⟩
    have S : Below w.heap.size w w1 := bl_thru (by go_grown) (Nat.le_refl _) hb
    have B := Lib.hid S
    have X_a := Lib.hid ((((Box.new w _ _ _ _).alloc _).alloc _).below hb)
    have X_b := Lib.hid (((Box.new2 w _ _ _ _ _).alloc _).below hb)
    have X_c := Lib.hid ((Box.new3 w _ _ _ _ _ _).below hb)
    replace R_a := Lib.hid (R_a.out.below S)
    replace R_b := Lib.hid (R_b.out.below S)
    replace R_c := Lib.hid (R_c.out.below S)
    clear hb S
    obtain ⟨c0_b, c1_b, c2_b, d0_b, d1_b, d2_b⟩ := X_b.out.cells
    have l_b := X_b.out.lt
    obtain ⟨c0_a, c1_a, c2_a, d0_a, d1_a, d2_a⟩ := X_a.out.cells
    have l_a := X_a.out.lt
    go_wp2_with fail
    refine (HC_ba.out _ _ _ (HT.out.below B.out) R_b.out R_a.out).mono ?_
    rintro r w2 ⟨rfl, hb⟩
    have S : Below w1.heap.size w1 w2 := hb
    replace B := Lib.hid (bl_thru B.out (Nat.le_refl _) S)
    replace X_a := Lib.hid (X_a.out.below S)
    replace X_b := Lib.hid (X_b.out.below S)
    replace X_c := Lib.hid (X_c.out.below S)
    replace R_a := Lib.hid (R_a.out.below S)
    replace R_b := Lib.hid (R_b.out.below S)
    replace R_c := Lib.hid (R_c.out.below S)
    clear hb S c0_b c1_b c2_b d0_b d1_b d2_b l_b c0_a c1_a c2_a d0_a d1_a d2_a l_a
    obtain ⟨c0_b, c1_b, c2_b, d0_b, d1_b, d2_b⟩ := X_b.out.cells
    have l_b := X_b.out.lt
    obtain ⟨c0_c, c1_c, c2_c, d0_c, d1_c, d2_c⟩ := X_c.out.cells
    have l_c := X_c.out.lt
    go_wp2_with fail
    refine (HC_bc.out _ _ _ (HT.out.below B.out) R_b.out R_c.out).mono ?_
    rintro r w3 ⟨rfl, hb⟩
    have S : Below w2.heap.size w2 w3 := hb
    replace B := Lib.hid (bl_thru B.out (Nat.le_refl _) S)
    replace X_a := Lib.hid (X_a.out.below S)
    replace X_b := Lib.hid (X_b.out.below S)
    replace X_c := Lib.hid (X_c.out.below S)
    replace R_a := Lib.hid (R_a.out.below S)
    replace R_b := Lib.hid (R_b.out.below S)
    replace R_c := Lib.hid (R_c.out.below S)
    clear hb S c0_b c1_b c2_b d0_b d1_b d2_b l_b c0_c c1_c c2_c d0_c d1_c d2_c l_c
    obtain ⟨c0_a, c1_a, c2_a, d0_a, d1_a, d2_a⟩ := X_a.out.cells
    have l_a := X_a.out.lt
    obtain ⟨c0_c, c1_c, c2_c, d0_c, d1_c, d2_c⟩ := X_c.out.cells
    have l_c := X_c.out.lt
    go_wp2_with fail
    refine (HC_ac.out _ _ _ (HT.out.below B.out) R_a.out R_c.out).mono ?_
    rintro r w4 ⟨rfl, hb⟩
    have S : Below w3.heap.size w3 w4 := hb
    replace B := Lib.hid (bl_thru B.out (Nat.le_refl _) S)
    clear X_a
    clear X_b
    clear X_c
    clear R_a
    clear R_b
    clear R_c
    clear hb S c0_a c1_a c2_a d0_a d1_a d2_a l_a c0_c c1_c c2_c d0_c d1_c d2_c l_c
    go_wp2_with fail
    refine (dyadLives_any _ (HT.out.below B.out)).mono ?_
    rintro r w5 ⟨rfl, hb⟩
    have S : Below w4.heap.size w4 w5 := hb
    replace B := Lib.hid (bl_thru B.out (Nat.le_refl _) S)
    clear hb S
    go_wp2_with (go_at_call 31; refine (ok_new4 _ _ _ _  _ _ rfl).mono ?_; rintro e w' ⟨rfl, rfl⟩)
    refine (dyadLives_any _ (HT.out.below (by have := B.out; have := B.out.size; go_grown))).mono ?_
    rintro r w6 ⟨rfl, hb⟩
    have S : Below w5.heap.size w5 w6 := bl_thru (by go_grown) (Nat.le_refl _) hb
    replace B := Lib.hid (bl_thru B.out (Nat.le_refl _) S)
    clear hb S
    go_wp2
    go_ret
    exact ⟨rfl, B.out⟩
  · obtain ⟨k1, k2, k3, k4'⟩ := ok4_all k4
    rw [hE_ab] at k1; rw [hE_bc] at k3
    obtain ⟨rfl, rfl⟩ := ck2_zero k1
    obtain ⟨-, rfl⟩ := ck2_zero k3
    have fa := ra.fit
    have fb := rb.fit
    have z : ck2 0 0 = 0 := rfl
    have hcm : ∀ d1 d2 : D, cmE 0 0 d1 d2 = cmp d1 d2 := fun d1 d2 => by unfold cmE; rw [if_pos z]
    rw [z] at hE_ab hE_ba hE_bc hE_ac
    subst hE_ab hE_ba hE_bc hE_ac
    rw [hcm] at hK_ab hK_ba hK_bc hK_ac
    have hn := cmp_neg b a
    rw [← hK_ab, ← hK_ba] at hn
    subst hn
    have hs0 : sameB a b = (K_ab == 0) := by
      rw [Bool.eq_iff_iff, sameB_iff, beq_iff_eq, hK_ab]; exact (cmp_zero fa.1 fb.1).symm
    have HS := Lib.hid (fun v1 v2 w' h1 h2 => by
      have := same_any v1 v2 a b w' h1 h2
      rw [hs0] at this; exact this)
    have kb := cmp_bd a b
    rw [← hK_ab] at kb
    obtain ⟨kb0, kb1⟩ := kb
    have tri : (decide (K_ab ≤ 0) = false ∨ (K_ab ≤ 0 ∧ decide (K_bc ≤ 0) = false) ∨ (K_ab ≤ 0 ∧ K_bc ≤ 0 ∧ decide (0 < K_ac) = false)) := by
      by_cases h1 : K_ab ≤ 0
      · by_cases h2 : K_bc ≤ 0
        · right; right
          rw [hK_ab] at h1; rw [hK_bc] at h2
          have := cmp_trans h1 h2
          rw [← hK_ac] at this
          rw [← hK_ab] at h1; rw [← hK_bc] at h2
          exact ⟨h1, h2, by rw [decide_eq_false_iff_not]; omega⟩
        · right; left; exact ⟨h1, by rw [decide_eq_false_iff_not]; exact h2⟩
      · left; rw [decide_eq_false_iff_not]; exact h1
    obtain ⟨E_x, D_x, hE_x, hD_x⟩ : ∃ E D, E = opE 0 0 (plus a c) ∧ D = opR 0 0 (plus a c) := ⟨_, _, rfl, rfl⟩
    have HC_x := Lib.hid (fun v1 v2 w' h0 h1 h2 => by
      have := add_any v1 v2 0 0 a c w' h0 h1 h2
      rw [← hE_x, ← hD_x] at this; exact this)
    have F_x : Hid (Fit D_x) := Lib.hid (by rw [hD_x]; exact opR_fit (plus_nf _ _))
    obtain ⟨E_y, D_y, hE_y, hD_y⟩ : ∃ E D, E = opE 0 0 (plus b c) ∧ D = opR 0 0 (plus b c) := ⟨_, _, rfl, rfl⟩
    have HC_y := Lib.hid (fun v1 v2 w' h0 h1 h2 => by
      have := add_any v1 v2 0 0 b c w' h0 h1 h2
      rw [← hE_y, ← hD_y] at this; exact this)
    have F_y : Hid (Fit D_y) := Lib.hid (by rw [hD_y]; exact opR_fit (plus_nf _ _))
    have K2 : Hid (ok2 E_x E_y = false ∨ (ok2 E_x E_y = true ∧ cmp D_x D_y = K_ab)) := Lib.hid (by
      cases hk : ok2 E_x E_y
      · exact Or.inl rfl
      · refine Or.inr ⟨rfl, ?_⟩
        obtain ⟨q1, q2⟩ := ok2_all hk
        rw [hE_x] at q1; rw [hE_y] at q2
        rw [hD_x, hD_y, (opE_eq q1).2.2.2, (opE_eq q2).2.2.2, cmp_plus, hK_ab])
    have HZ := Lib.hid (fun v1 v2 w' h0 h1 h2 => by
      have := cmp_any v1 v2 0 0 D_x D_y w' h0 h1 h2
      rw [hcm, z] at this; exact this)
    have TRI := Lib.hid tri
    clear hK_ab hK_ba hK_bc hK_ac hE_x hE_y hD_x hD_y tri hs0 fa fb hcm z k1 k3 k4'
    have R_a := Lib.hid ra
    have R_b := Lib.hid rb
    have R_c := Lib.hid rc
    have HT := Lib.hid hT
    clear hT
    obtain ⟨ga, aa, na, pa, xa, rfl, -⟩ := ra
    obtain ⟨gb, ab, nb, pb, xb, rfl, -⟩ := rb
    obtain ⟨gc, ac, nc, pc, xc, rfl, -⟩ := rc
    go_enter Tryd.func5, Tryd.ntmps5
    go_wp2_with fail
    refine (HC_ab.out _ _ _ (HT.out.below (by go_grown)) (R_a.out.below (by go_grown)) (R_b.out.below (by go_grown))).mono ?_
    rintro r w1 ⟨rfl, hb⟩
    have S : Below w.heap.size w w1 := bl_thru (by go_grown) (Nat.le_refl _) hb
    have B := Lib.hid S
    have X_a := Lib.hid ((((Box.new w _ _ _ _).alloc _).alloc _).below hb)
    have X_b := Lib.hid (((Box.new2 w _ _ _ _ _).alloc _).below hb)
    have X_c := Lib.hid ((Box.new3 w _ _ _ _ _ _).below hb)
    replace R_a := Lib.hid (R_a.out.below S)
    replace R_b := Lib.hid (R_b.out.below S)
    replace R_c := Lib.hid (R_c.out.below S)
    clear hb S
    obtain ⟨c0_b, c1_b, c2_b, d0_b, d1_b, d2_b⟩ := X_b.out.cells
    have l_b := X_b.out.lt
    obtain ⟨c0_a, c1_a, c2_a, d0_a, d1_a, d2_a⟩ := X_a.out.cells
    have l_a := X_a.out.lt
    go_wp2_with fail
    refine (HC_ba.out _ _ _ (HT.out.below B.out) R_b.out R_a.out).mono ?_
    rintro r w2 ⟨rfl, hb⟩
    have S : Below w1.heap.size w1 w2 := hb
    replace B := Lib.hid (bl_thru B.out (Nat.le_refl _) S)
    replace X_a := Lib.hid (X_a.out.below S)
    replace X_b := Lib.hid (X_b.out.below S)
    replace X_c := Lib.hid (X_c.out.below S)
    replace R_a := Lib.hid (R_a.out.below S)
    replace R_b := Lib.hid (R_b.out.below S)
    replace R_c := Lib.hid (R_c.out.below S)
    clear hb S c0_b c1_b c2_b d0_b d1_b d2_b l_b c0_a c1_a c2_a d0_a d1_a d2_a l_a
    obtain ⟨c0_b, c1_b, c2_b, d0_b, d1_b, d2_b⟩ := X_b.out.cells
    have l_b := X_b.out.lt
    obtain ⟨c0_c, c1_c, c2_c, d0_c, d1_c, d2_c⟩ := X_c.out.cells
    have l_c := X_c.out.lt
    go_wp2_with fail
    refine (HC_bc.out _ _ _ (HT.out.below B.out) R_b.out R_c.out).mono ?_
    rintro r w3 ⟨rfl, hb⟩
    have S : Below w2.heap.size w2 w3 := hb
    replace B := Lib.hid (bl_thru B.out (Nat.le_refl _) S)
    replace X_a := Lib.hid (X_a.out.below S)
    replace X_b := Lib.hid (X_b.out.below S)
    replace X_c := Lib.hid (X_c.out.below S)
    replace R_a := Lib.hid (R_a.out.below S)
    replace R_b := Lib.hid (R_b.out.below S)
    replace R_c := Lib.hid (R_c.out.below S)
    clear hb S c0_b c1_b c2_b d0_b d1_b d2_b l_b c0_c c1_c c2_c d0_c d1_c d2_c l_c
    obtain ⟨c0_a, c1_a, c2_a, d0_a, d1_a, d2_a⟩ := X_a.out.cells
    have l_a := X_a.out.lt
    obtain ⟨c0_c, c1_c, c2_c, d0_c, d1_c, d2_c⟩ := X_c.out.cells
    have l_c := X_c.out.lt
    go_wp2_with fail
    refine (HC_ac.out _ _ _ (HT.out.below B.out) R_a.out R_c.out).mono ?_
    rintro r w4 ⟨rfl, hb⟩
    have S : Below w3.heap.size w3 w4 := hb
    replace B := Lib.hid (bl_thru B.out (Nat.le_refl _) S)
    replace X_a := Lib.hid (X_a.out.below S)
    replace X_b := Lib.hid (X_b.out.below S)
    replace X_c := Lib.hid (X_c.out.below S)
    replace R_a := Lib.hid (R_a.out.below S)
    replace R_b := Lib.hid (R_b.out.below S)
    replace R_c := Lib.hid (R_c.out.below S)
    clear hb S c0_a c1_a c2_a d0_a d1_a d2_a l_a c0_c c1_c c2_c d0_c d1_c d2_c l_c
    go_wp2_with fail
    refine (dyadLives_any _ (HT.out.below B.out)).mono ?_
    rintro r w5 ⟨rfl, hb⟩
    have S : Below w4.heap.size w4 w5 := hb
    replace B := Lib.hid (bl_thru B.out (Nat.le_refl _) S)
    replace X_a := Lib.hid (X_a.out.below S)
    replace X_b := Lib.hid (X_b.out.below S)
    replace X_c := Lib.hid (X_c.out.below S)
    replace R_a := Lib.hid (R_a.out.below S)
    replace R_b := Lib.hid (R_b.out.below S)
    replace R_c := Lib.hid (R_c.out.below S)
    clear hb S
    obtain ⟨c0_a, c1_a, c2_a, d0_a, d1_a, d2_a⟩ := X_a.out.cells
    have l_a := X_a.out.lt
    obtain ⟨c0_b, c1_b, c2_b, d0_b, d1_b, d2_b⟩ := X_b.out.cells
    have l_b := X_b.out.lt
    go_wp2_with (go_at_call 31; refine (ok_new4 _ _ _ _  _ _ rfl).mono ?_; rintro e w' ⟨rfl, rfl⟩)
    refine (HS.out _ _ _ (R_a.out.below (by go_grown)).dv (R_b.out.below (by go_grown)).dv).mono ?_
    rintro r w6 ⟨rfl, hb⟩
    have S : Below w5.heap.size w5 w6 := bl_thru (by go_grown) (Nat.le_refl _) hb
    replace B := Lib.hid (bl_thru B.out (Nat.le_refl _) S)
    replace X_a := Lib.hid (X_a.out.below S)
    replace X_b := Lib.hid (X_b.out.below S)
    replace X_c := Lib.hid (X_c.out.below S)
    replace R_a := Lib.hid (R_a.out.below S)
    replace R_b := Lib.hid (R_b.out.below S)
    replace R_c := Lib.hid (R_c.out.below S)
    clear hb S c0_a c1_a c2_a d0_a d1_a d2_a l_a c0_b c1_b c2_b d0_b d1_b d2_b l_b
    rcases TRI.out with q1 | ⟨q1, q2⟩ | ⟨q1, q2, q3⟩
    all_goals
      obtain ⟨c0_a, c1_a, c2_a, d0_a, d1_a, d2_a⟩ := X_a.out.cells
      have l_a := X_a.out.lt
      obtain ⟨c0_c, c1_c, c2_c, d0_c, d1_c, d2_c⟩ := X_c.out.cells
      have l_c := X_c.out.lt
      go_wp2_with fail
      refine (HC_x.out _ _ _ (HT.out.below B.out) R_a.out R_c.out).mono ?_
      rintro r w7 ⟨a_x, n_x, k_x, rfl, hv, hb⟩
      have S : Below w6.heap.size w6 w7 := hb
      replace B := Lib.hid (bl_thru B.out (Nat.le_refl _) S)
      clear X_a
      replace X_b := Lib.hid (X_b.out.below S)
      replace X_c := Lib.hid (X_c.out.below S)
      clear R_a
      replace R_b := Lib.hid (R_b.out.below S)
      replace R_c := Lib.hid (R_c.out.below S)
      have R_x := Lib.hid (rd_of (d := D_x) hv F_x.out)
      clear hb S hv c0_a c1_a c2_a d0_a d1_a d2_a l_a c0_c c1_c c2_c d0_c d1_c d2_c l_c
      obtain ⟨c0_b, c1_b, c2_b, d0_b, d1_b, d2_b⟩ := X_b.out.cells
      have l_b := X_b.out.lt
      obtain ⟨c0_c, c1_c, c2_c, d0_c, d1_c, d2_c⟩ := X_c.out.cells
      have l_c := X_c.out.lt
      go_wp2_with fail
      refine (HC_y.out _ _ _ (HT.out.below (by have := B.out; have := B.out.size; go_grown)) (R_b.out.below (by go_grown)) (R_c.out.below (by go_grown))).mono ?_
      rintro r w8 ⟨a_y, n_y, k_y, rfl, hv, hb⟩
      have S : Below w7.heap.size w7 w8 := bl_thru (by go_grown) (Nat.le_refl _) hb
      replace B := Lib.hid (bl_thru B.out (Nat.le_refl _) S)
      clear X_b
      clear X_c
      have X_x := Lib.hid ((Box.new w7 _ _ _ _).below hb)
      clear R_b
      clear R_c
      replace R_x := Lib.hid (R_x.out.below S)
      have R_y := Lib.hid (rd_of (d := D_y) hv F_y.out)
      clear hb S hv c0_b c1_b c2_b d0_b d1_b d2_b l_b c0_c c1_c c2_c d0_c d1_c d2_c l_c
      rcases K2.out with k5 | ⟨k5, s5⟩
      · go_wp2_with (go_at_call 31; refine (ok_new2 _ _  _ _ (by simp)).mono ?_; rintro e w' ⟨rfl, rfl⟩)
        go_ret
        exact ⟨rfl, (by have := B.out; have := B.out.size; go_grown)⟩
      · have HZ2 := HZ.out
        rw [s5] at HZ2
        have HZ3 := Lib.hid HZ2
        clear HZ2 s5
        obtain ⟨c0_x, c1_x, c2_x, d0_x, d1_x, d2_x⟩ := X_x.out.cells
        have l_x := X_x.out.lt
        go_wp2_with (go_at_call 31; refine (ok_new2 _ _  _ _ (by simp)).mono ?_; rintro e w' ⟨rfl, rfl⟩)
        refine (HZ3.out _ _ _ (HT.out.below (by have := B.out; have := B.out.size; go_grown)) (R_x.out.below (by go_grown)) (R_y.out.below (by go_grown))).mono ?_
        rintro r w9 ⟨rfl, hb⟩
        have S : Below w8.heap.size w8 w9 := bl_thru (by go_grown) (Nat.le_refl _) hb
        replace B := Lib.hid (bl_thru B.out (Nat.le_refl _) S)
        clear X_x
        clear R_x
        clear R_y
        clear hb S c0_x c1_x c2_x d0_x d1_x d2_x l_x
        go_wp2
        go_ret
        exact ⟨rfl, B.out⟩
end Go.Proofs.YtdknfdncgmeimaaDoor
