/-
  THE WALK of the law RoundNear.
-/
import Derived.Test.YtdknfdncgmeimaaDoorNear
import Derived.Test.YtdknfdncgmeimaaDoorRoundOrderW
import Derived.Test.YtdknfdncgmeimaaDoorDyadRingW
import Derived.Test.YtdknfdncgmeimaaDoorEx2
set_option linter.unusedVariables false
set_option linter.unusedSimpArgs false
namespace Go.Proofs.YtdknfdncgmeimaaDoor
open Go.RowKit Nt Fm Fl

theorem rd_nv {w : World} {g : Bool} {a : Option Addr} {n c : Nat} {x : Int} {d : D} (h : RD w (.agg #[.bool g, .slice a n c, .int .i64 x]) 0 d) : NV w (.slice a n c) d.m := by
  obtain ⟨s, h1, h2⟩ := h.dv
  simp only [Value.agg.injEq, Array.mk.injEq, List.cons.injEq, Value.bool.injEq, Value.int.injEq, and_true, true_and] at h1
  rw [h1.2.1]; exact h2
theorem of_rd (x : Int) (h0 : 0 ≤ x) (h1 : x ≤ 18446744073709551615) (w : World) (hT : Tab w) :
    Calls Tryd.prog 25 #[.int .u64 x] w (RetR w (ofE x) (ofD x)) := by
  refine (of_any x h0 h1 w hT).mono ?_
  rintro r w' ⟨v, rfl, ⟨s, rfl, hv⟩, hb⟩
  obtain ⟨ao, n, c, rfl⟩ := hv.shape
  exact ⟨ao, n, c, rfl, hv, hb⟩

set_option maxRecDepth 100000 in
set_option maxHeartbeats 16000000 in
theorem walkRoundNear (vd : Value) (cd : Int) (d : D) (y : Int) (y0 : 0 ≤ y) (y1 : y ≤ 18446744073709551615) (away : Bool) (w : World) (hT : Tab w) (rd : RD w vd cd d) :
    Calls Tryd.prog 14 #[vd, .int .u64 y, .bool away] w fun e w' => e = .returned (.bool true) ∧ Below w.heap.size w w' := by
  obtain ⟨mode, hmode, hcase⟩ : ∃ mode : Int, (mode = 0 ∨ mode = 4) ∧ ((away = false ∧ mode = 0) ∨ (away = true ∧ mode = 4)) := by
    cases away
    · exact ⟨0, Or.inl rfl, Or.inl ⟨rfl, rfl⟩⟩
    · exact ⟨4, Or.inr rfl, Or.inr ⟨rfl, rfl⟩⟩
  obtain ⟨x, ex, hx, hex⟩ : ∃ x e, x = roV cd mode d ∧ e = roE cd mode := ⟨_, _, rfl, rfl⟩
  have xb := roV_bd cd mode d
  rw [← hx] at xb
  obtain ⟨x0, x1⟩ := xb
  have HX := Lib.hid (fun v w' h => by
    have := to_rd v cd d mode w' h (by omega) (by omega)
    rw [← hx, ← hex] at this; exact this)
  generalize roC cd mode d = bx at *
  obtain ⟨E_c, D_c, hE_c, hD_c⟩ : ∃ E D, E = ofE x ∧ D = ofD x := ⟨_, _, rfl, rfl⟩
  obtain ⟨E_o, D_o, hE_o, hD_o⟩ : ∃ E D, E = ofE y ∧ D = ofD y := ⟨_, _, rfl, rfl⟩
  have HC_c := Lib.hid (fun w' h => by
    have := of_rd x x0 x1 w' h
    rw [← hE_c, ← hD_c] at this; exact this)
  have HC_o := Lib.hid (fun w' h => by
    have := of_rd y y0 y1 w' h
    rw [← hE_o, ← hD_o] at this; exact this)
  have F_c : Hid (Fit D_c) := Lib.hid (by rw [hD_c]; exact valD_fit _ x0 x1)
  have F_o : Hid (Fit D_o) := Lib.hid (by rw [hD_o]; exact valD_fit _ y0 y1)
  obtain ⟨E_p, D_p, hE_p, hD_p⟩ : ∃ E D, E = opE cd 0 (plus d (opp D_c)) ∧ D = opR cd 0 (plus d (opp D_c)) := ⟨_, _, rfl, rfl⟩
  have HC_p := Lib.hid (fun v1 v2 w' h0 h1 h2 => by
    have := sub_any v1 v2 cd 0 d D_c w' h0 h1 h2
    rw [← hE_p, ← hD_p] at this; exact this)
  have F_p : Hid (Fit D_p) := Lib.hid (by rw [hD_p]; exact opR_fit (plus_nf _ _))
  obtain ⟨E_q, D_q, hE_q, hD_q⟩ : ∃ E D, E = opE cd 0 (plus d (opp D_o)) ∧ D = opR cd 0 (plus d (opp D_o)) := ⟨_, _, rfl, rfl⟩
  have HC_q := Lib.hid (fun v1 v2 w' h0 h1 h2 => by
    have := sub_any v1 v2 cd 0 d D_o w' h0 h1 h2
    rw [← hE_q, ← hD_q] at this; exact this)
  have F_q : Hid (Fit D_q) := Lib.hid (by rw [hD_q]; exact opR_fit (plus_nf _ _))
  have A_p := Lib.hid (absD_fit F_p.out)
  have A_q := Lib.hid (absD_fit F_q.out)
  obtain ⟨K_k, hK_k⟩ : ∃ K, K = cmp (absD D_p) (absD D_q) := ⟨_, rfl⟩
  have HC_k := Lib.hid (fun v1 v2 w' h0 h1 h2 => by
    have := cmp_any v1 v2 0 0 (absD D_p) (absD D_q) w' h0 h1 h2
    have e1 : cmE 0 0 (absD D_p) (absD D_q) = K_k := by unfold cmE; rw [if_pos (by rfl), hK_k]
    have e2 : ck2 0 0 = 0 := rfl
    rw [e1, e2] at this; exact this)
  have kb := cmp_bd (absD D_p) (absD D_q)
  rw [← hK_k] at kb
  have TRI : Hid (ok3 ex E_c E_o = false ∨ (ok3 ex E_c E_o = true ∧ (ok3 E_p E_q 0 = false ∨ (ok3 E_p E_q 0 = true ∧ K_k ≤ 0)))) := Lib.hid (by
    cases hk : ok3 ex E_c E_o
    · exact Or.inl rfl
    · refine Or.inr ⟨rfl, ?_⟩
      cases hk2 : ok3 E_p E_q 0
      · exact Or.inl rfl
      · refine Or.inr ⟨rfl, ?_⟩
        obtain ⟨q1, q2, q3⟩ := ok3_all hk
        obtain ⟨r1, r2, -⟩ := ok3_all hk2
        rw [hex] at q1; rw [hE_c] at q2; rw [hE_o] at q3; rw [hE_p] at r1; rw [hE_q] at r2
        have g1 : hasV x = true := by cases hh : hasV x; (unfold ofE at q2; rw [hh] at q2; simp at q2); rfl
        have g2 : hasV y = true := by cases hh : hasV y; (unfold ofE at q3; rw [hh] at q3; simp at q3); rfl
        have g3 : D_c = valD x := by rw [hD_c]; unfold ofD; rw [if_pos g1]
        have g4 : D_o = valD y := by rw [hD_o]; unfold ofD; rw [if_pos g2]
        have g5 : x = numR d mode := by rw [hx]; exact (roV_zero _ q1).1
        rw [hK_k, hD_p, hD_q, (opE_eq r1).2.2.2, (opE_eq r2).2.2.2, g3, g4]
        rw [g5] at g1 ⊢
        exact near_law d y mode hmode y0 y1 g1 g2)
  clear hx hex hE_c hD_c hE_o hD_o hE_p hD_p hE_q hD_q hK_k hmode
  obtain ⟨kb0, kb1⟩ := kb
  have R_d := Lib.hid rd
  have HT := Lib.hid hT
  clear hT
  obtain ⟨gd, ad, nd, pd, xd, rfl, -⟩ := rd
  rcases hcase with ⟨rfl, rfl⟩ | ⟨rfl, rfl⟩
  all_goals
    go_enter Tryd.func14, Tryd.ntmps14
    go_wp2_with fail
    refine (HX.out _ _ (R_d.out.below (by go_grown))).mono ?_
    rintro r w1 ⟨rfl, hb⟩
    have S : Below w.heap.size w w1 := bl_thru (by go_grown) (Nat.le_refl _) hb
    have B := Lib.hid S
    have X_d := Lib.hid ((Box.new w _ _ _ _).below hb)
    replace R_d := Lib.hid (R_d.out.below S)
    clear hb S
    go_wp2_with fail
    refine (HC_c.out _ (HT.out.below B.out)).mono ?_
    rintro r w2 ⟨a_c, n_c, k_c, rfl, hv, hb⟩
    have S : Below w1.heap.size w1 w2 := hb
    replace B := Lib.hid (bl_thru B.out (Nat.le_refl _) S)
    replace X_d := Lib.hid (X_d.out.below S)
    replace R_d := Lib.hid (R_d.out.below S)
    have R_c := Lib.hid (rd_of (d := D_c) hv F_c.out)
    clear hb S hv
    go_wp2_with fail
    refine (HC_o.out _ (HT.out.below (by have := B.out; have := B.out.size; go_grown))).mono ?_
    rintro r w3 ⟨a_o, n_o, k_o, rfl, hv, hb⟩
    have S : Below w2.heap.size w2 w3 := bl_thru (by go_grown) (Nat.le_refl _) hb
    replace B := Lib.hid (bl_thru B.out (Nat.le_refl _) S)
    replace X_d := Lib.hid (X_d.out.below S)
    have X_c := Lib.hid ((Box.new w2 _ _ _ _).below hb)
    replace R_d := Lib.hid (R_d.out.below S)
    replace R_c := Lib.hid (R_c.out.below S)
    have R_o := Lib.hid (rd_of (d := D_o) hv F_o.out)
    clear hb S hv
    go_wp2_with fail
    refine (lives_tab _ (HT.out.below (by have := B.out; have := B.out.size; go_grown))).mono ?_
    rintro r w4 ⟨rfl, hb⟩
    have S : Below w3.heap.size w3 w4 := bl_thru (by go_grown) (Nat.le_refl _) hb
    replace B := Lib.hid (bl_thru B.out (Nat.le_refl _) S)
    replace X_d := Lib.hid (X_d.out.below S)
    replace X_c := Lib.hid (X_c.out.below S)
    have X_o := Lib.hid ((Box.new w3 _ _ _ _).below hb)
    replace R_d := Lib.hid (R_d.out.below S)
    replace R_c := Lib.hid (R_c.out.below S)
    replace R_o := Lib.hid (R_o.out.below S)
    clear hb S
    rcases TRI.out with k3 | ⟨k3, k4⟩
    · go_wp2_with (go_at_call 31; refine (ok_new3 _ _ _  _ _ rfl).mono ?_; rintro e w' ⟨rfl, rfl⟩)
      refine (lives_tab _ (HT.out.below (by have := B.out; have := B.out.size; go_grown))).mono ?_
      rintro r w5 ⟨rfl, hb⟩
      have S : Below w4.heap.size w4 w5 := bl_thru (by go_grown) (Nat.le_refl _) hb
      replace B := Lib.hid (bl_thru B.out (Nat.le_refl _) S)
      replace X_d := Lib.hid (X_d.out.below S)
      replace X_c := Lib.hid (X_c.out.below S)
      replace X_o := Lib.hid (X_o.out.below S)
      replace R_d := Lib.hid (R_d.out.below S)
      replace R_c := Lib.hid (R_c.out.below S)
      replace R_o := Lib.hid (R_o.out.below S)
      clear hb S
      go_wp2
      go_ret
      exact ⟨rfl, B.out⟩
    · obtain ⟨c0_d, c1_d, c2_d, d0_d, d1_d, d2_d⟩ := X_d.out.cells
      have l_d := X_d.out.lt
      obtain ⟨c0_c, c1_c, c2_c, d0_c, d1_c, d2_c⟩ := X_c.out.cells
      have l_c := X_c.out.lt
      go_wp2_with (go_at_call 31; refine (ok_new3 _ _ _  _ _ rfl).mono ?_; rintro e w' ⟨rfl, rfl⟩)
      refine (HC_p.out _ _ _ (HT.out.below (by have := B.out; have := B.out.size; go_grown)) (R_d.out.below (by go_grown)) (R_c.out.below (by go_grown))).mono ?_
      rintro r w5 ⟨a_p, n_p, k_p, rfl, hv, hb⟩
      have S : Below w4.heap.size w4 w5 := bl_thru (by go_grown) (Nat.le_refl _) hb
      replace B := Lib.hid (bl_thru B.out (Nat.le_refl _) S)
      replace X_d := Lib.hid (X_d.out.below S)
      clear X_c
      replace X_o := Lib.hid (X_o.out.below S)
      replace R_d := Lib.hid (R_d.out.below S)
      clear R_c
      replace R_o := Lib.hid (R_o.out.below S)
      have R_p := Lib.hid (rd_of (d := D_p) hv F_p.out)
      clear hb S hv c0_d c1_d c2_d d0_d d1_d d2_d l_d c0_c c1_c c2_c d0_c d1_c d2_c l_c
      have z5 : w.heap.size ≤ w5.heap.size := B.out.size
      obtain ⟨c0_d, c1_d, c2_d, d0_d, d1_d, d2_d⟩ := X_d.out.cells
      have l_d := X_d.out.lt
      obtain ⟨c0_o, c1_o, c2_o, d0_o, d1_o, d2_o⟩ := X_o.out.cells
      have l_o := X_o.out.lt
      go_wp2_with fail
      refine (HC_q.out _ _ _ (HT.out.below (by have := B.out; have := B.out.size; go_grown)) (R_d.out.below (by go_grown)) (R_o.out.below (by go_grown))).mono ?_
      rintro r w6 ⟨a_q, n_q, k_q, rfl, hv, hb⟩
      have S : Below w5.heap.size w5 w6 := bl_thru (by go_grown) (Nat.le_refl _) hb
      replace B := Lib.hid (bl_thru B.out (Nat.le_refl _) S)
      clear X_d
      clear X_o
      have X_p := Lib.hid ((Box.new w5 _ _ _ _).below hb)
      clear R_d
      clear R_o
      replace R_p := Lib.hid (R_p.out.below S)
      have R_q := Lib.hid (rd_of (d := D_q) hv F_q.out)
      clear hb S hv c0_d c1_d c2_d d0_d d1_d d2_d l_d c0_o c1_o c2_o d0_o d1_o d2_o l_o
      obtain ⟨c0_p, c1_p, c2_p, d0_p, d1_p, d2_p⟩ := X_p.out.cells
      have l_p := X_p.out.lt
      go_wp2_with fail
      have N_p := rd_nv R_p.out
      have N_q := rd_nv R_q.out
      have z6 := X_p.out.lt
      have BW : ∀ o v, Below w.heap.size w ((w6.setCell ⟨w5.heap.size, 0, none⟩ v).alloc o) := fun o v => (B.out.setCell z5 v).alloc (by have := B.out.size; simp [World.setCell]; omega) o
      refine (HC_k.out _ _ _ (HT.out.below (BW _ _)) (rd_of (d := absD D_p) ((N_p.setBox X_p.out (noLimb_bool _) (noLimb_slice _ _ _) (noLimb_i64 _) _ _).alloc _) A_p.out) (rd_of (d := absD D_q) ((N_q.setBox X_p.out (noLimb_bool _) (noLimb_slice _ _ _) (noLimb_i64 _) _ _).alloc _) A_q.out)).mono ?_
      rintro r w7 ⟨rfl, hb⟩
      have B7 := Lib.hid (bl_thru (BW _ _) (Nat.le_refl _) hb)
      clear hb BW N_p N_q
      rcases k4 with k5 | ⟨k5, k6⟩
      all_goals
        go_wp2_with (go_at_call 31; refine (ok_new3 _ _ _ _ _ rfl).mono ?_; rintro e w' ⟨rfl, rfl⟩)
        go_ret
        exact ⟨rfl, B7.out.alloc B7.out.size _⟩
end Go.Proofs.YtdknfdncgmeimaaDoor
