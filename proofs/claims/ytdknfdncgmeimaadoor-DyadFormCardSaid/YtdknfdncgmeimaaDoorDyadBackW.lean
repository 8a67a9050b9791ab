/-
  THE WALK of the law DyadBack.
-/
import Derived.Test.YtdknfdncgmeimaaDoorDyadOrderW
import Derived.Test.YtdknfdncgmeimaaDoorEx2
set_option linter.unusedVariables false
set_option linter.unusedSimpArgs false
namespace Go.Proofs.YtdknfdncgmeimaaDoor
open Go.RowKit Nt Fm Fl

theorem nv_zero {w : World} {ao : Option Addr} {n c : Nat} {m : Nat} (h : NV w (.slice ao n c) m) (hm : m = 0) : n = 0 := by
  obtain ⟨ao', n', c', h1, -, -, h2⟩ := nv_len h
  simp only [Value.slice.injEq] at h1
  omega
theorem opE_ne {c1 : Int} (c2 : Int) (S : D) (h : c1 ≠ 0) : opE c1 c2 S = c1 := by unfold opE; rw [if_neg h]
theorem shE_eq {n : Int} {S : D} (h : shE 0 n S = 0) : -20000 ≤ n ∧ n ≤ 20000 ∧ fitE S = 0 ∧ shR 0 n S = S := by
  have h' := h
  unfold shE at h
  rw [if_pos rfl] at h
  split at h
  · omega
  · refine ⟨by omega, by omega, h, ?_⟩
    unfold shR; rw [if_pos h']
theorem shE_of {n : Int} {S : D} (h0 : -20000 ≤ n) (h1 : n ≤ 20000) (hf : Fit S) : shE 0 n S = 0 ∧ shR 0 n S = S := by
  have e : shE 0 n S = 0 := by unfold shE; rw [if_pos rfl, if_neg (by omega)]; exact fitE_of hf
  exact ⟨e, by unfold shR; rw [if_pos e]⟩
theorem shR_fit {c n : Int} {S : D} (h : S.Nf) : Fit (shR c n S) := by
  unfold shR
  split
  · rename_i h1
    unfold shE at h1
    split at h1
    · split at h1
      · omega
      · exact fitE_fit h h1
    · contradiction
  · exact Fit.nz

set_option maxRecDepth 100000 in
set_option maxHeartbeats 16000000 in
theorem walkDyadBack (va : Value) (ca : Int) (a : D) (vb : Value) (cb : Int) (b : D) (n : Int) (n0 : -9223372036854775808 ≤ n) (n1 : n ≤ 9223372036854775807) (w : World) (hT : Tab w) (ra : RD w va ca a) (rb : RD w vb cb b) :
    Calls Tryd.prog 6 #[va, vb, .int .i64 n] w fun e w' => e = .returned (.bool true) ∧ Below w.heap.size w w' := by
  obtain ⟨E_s, D_s, hE_s, hD_s⟩ : ∃ E D, E = opE ca cb (plus a b) ∧ D = opR ca cb (plus a b) := ⟨_, _, rfl, rfl⟩
  have HC_s := Lib.hid (fun v1 v2 w' h0 h1 h2 => by
    have := add_any v1 v2 ca cb a b w' h0 h1 h2
    rw [← hE_s, ← hD_s] at this; exact this)
  have F_s : Hid (Fit D_s) := Lib.hid (by rw [hD_s]; exact opR_fit (plus_nf _ _))
  obtain ⟨E_d, D_d, hE_d, hD_d⟩ : ∃ E D, E = opE 0 cb (plus D_s (opp b)) ∧ D = opR 0 cb (plus D_s (opp b)) := ⟨_, _, rfl, rfl⟩
  have HC_d := Lib.hid (fun v1 v2 w' h0 h1 h2 => by
    have := sub_any v1 v2 0 cb D_s b w' h0 h1 h2
    rw [← hE_d, ← hD_d] at this; exact this)
  have F_d : Hid (Fit D_d) := Lib.hid (by rw [hD_d]; exact opR_fit (plus_nf _ _))
  obtain ⟨E_o, D_o, hE_o, hD_o⟩ : ∃ E D, E = opE ca ca (plus a (opp a)) ∧ D = opR ca ca (plus a (opp a)) := ⟨_, _, rfl, rfl⟩
  have HC_o := Lib.hid (fun v1 v2 w' h0 h1 h2 => by
    have := sub_any v1 v2 ca ca a a w' h0 h1 h2
    rw [← hE_o, ← hD_o] at this; exact this)
  have F_o : Hid (Fit D_o) := Lib.hid (by rw [hD_o]; exact opR_fit (plus_nf _ _))
  by_cases hca : ca = 0
  · subst hca
    have fa := ra.fit
    have ho : E_o = 0 ∧ D_o = nz := by
      have e : opE 0 0 (plus a (opp a)) = 0 := by rw [plus_opp_self, (opE_zero _).1]; exact fitE_of Fit.nz
      refine ⟨by rw [hE_o, e], ?_⟩
      rw [hD_o, (opE_eq e).2.2.2, plus_opp_self]
    obtain ⟨rfl, hDo⟩ := ho
    have HDo := Lib.hid hDo
    have K2 : Hid (ok2 E_s E_d = false ∨ (ok2 E_s E_d = true ∧ sameB D_d a = true)) := Lib.hid (by
      cases hk : ok2 E_s E_d
      · exact Or.inl rfl
      · refine Or.inr ⟨rfl, ?_⟩
        obtain ⟨q1, q2⟩ := ok2_all hk
        rw [hE_s] at q1; rw [hE_d] at q2
        rw [hD_d, (opE_eq q2).2.2.2, hD_s, (opE_eq q1).2.2.2, plus_opp_cancel _ _ fa.1]; exact sameB_refl _)
    obtain ⟨E_x, D_x, hE_x, hD_x⟩ : ∃ E D, E = shE 0 n (norm a.neg a.m (a.e + n)) ∧ D = shR 0 n (norm a.neg a.m (a.e + n)) := ⟨_, _, rfl, rfl⟩
    have HC_x := Lib.hid (fun v1 w' h0 h1 => by
      have := shift_any v1 0 n a w' h0 h1 n0 n1
      rw [← hE_x, ← hD_x] at this; exact this)
    have F_x : Hid (Fit D_x) := Lib.hid (by rw [hD_x]; exact shR_fit (norm_nf _ _ _))
    have KX : Hid ((E_x != 0) = true ∨ (E_x = 0 ∧ -20000 ≤ n ∧ n ≤ 20000 ∧ ∀ v1 w', Tab w' → RD w' v1 0 D_x → Calls Tryd.prog 36 #[v1, .int .i64 (-n)] w' (RetR w' 0 a))) := Lib.hid (by
      by_cases hz : E_x = 0
      · right
        rw [hE_x] at hz
        obtain ⟨q1, q2, q3, q4⟩ := shE_eq hz
        refine ⟨by rw [hE_x]; exact hz, q1, q2, fun v1 w' h0 h1 => ?_⟩
        have := shift_any v1 0 (-n) D_x w' h0 h1 (by omega) (by omega)
        rw [hD_x, q4, norm_shift n fa.1, (shE_of (by omega) (by omega) fa).1, (shE_of (by omega) (by omega) fa).2] at this
        exact this
      · left; rw [bne_iff_ne]; exact hz)
    have SA := Lib.hid (same_true (d1 := a) (d2 := a) (sameB_refl _))
    have F_y := Lib.hid fa
    obtain ⟨D_y, hDy⟩ : ∃ D, D = a := ⟨_, rfl⟩
    clear hE_s hD_s hE_d hD_d hE_o hD_o hE_x hD_x fa hDo
    have R_a := Lib.hid ra
    have R_b := Lib.hid rb
    have HT := Lib.hid hT
    clear hT
    obtain ⟨ga, aa, na, pa, xa, rfl, -⟩ := ra
    obtain ⟨gb, ab, nb, pb, xb, rfl, -⟩ := rb
    go_enter Tryd.func6, Tryd.ntmps6
    go_wp2_with fail
    refine (HC_s.out _ _ _ (HT.out.below (by go_grown)) (R_a.out.below (by go_grown)) (R_b.out.below (by go_grown))).mono ?_
    rintro r w1 ⟨a_s, n_s, k_s, rfl, hv, hb⟩
    have S : Below w.heap.size w w1 := bl_thru (by go_grown) (Nat.le_refl _) hb
    have B := Lib.hid S
    have X_a := Lib.hid (((Box.new w _ _ _ _).alloc _).below hb)
    have X_b := Lib.hid ((Box.new2 w _ _ _ _ _).below hb)
    replace R_a := Lib.hid (R_a.out.below S)
    replace R_b := Lib.hid (R_b.out.below S)
    have R_s := Lib.hid (rd_of (d := D_s) hv F_s.out)
    clear hb S hv
    obtain ⟨c0_b, c1_b, c2_b, d0_b, d1_b, d2_b⟩ := X_b.out.cells
    have l_b := X_b.out.lt
    go_wp2_with fail
    refine (HC_d.out _ _ _ (HT.out.below (by have := B.out; have := B.out.size; go_grown)) (R_s.out.below (by go_grown)) (R_b.out.below (by go_grown))).mono ?_
    rintro r w2 ⟨a_d, n_d, k_d, rfl, hv, hb⟩
    have S : Below w1.heap.size w1 w2 := bl_thru (by go_grown) (Nat.le_refl _) hb
    replace B := Lib.hid (bl_thru B.out (Nat.le_refl _) S)
    replace X_a := Lib.hid (X_a.out.below S)
    replace X_b := Lib.hid (X_b.out.below S)
    have X_s := Lib.hid ((Box.new w1 _ _ _ _).below hb)
    replace R_a := Lib.hid (R_a.out.below S)
    replace R_b := Lib.hid (R_b.out.below S)
    replace R_s := Lib.hid (R_s.out.below S)
    have R_d := Lib.hid (rd_of (d := D_d) hv F_d.out)
    clear hb S hv c0_b c1_b c2_b d0_b d1_b d2_b l_b
    obtain ⟨c0_a, c1_a, c2_a, d0_a, d1_a, d2_a⟩ := X_a.out.cells
    have l_a := X_a.out.lt
    go_wp2_with fail
    refine (HC_o.out _ _ _ (HT.out.below (by have := B.out; have := B.out.size; go_grown)) (R_a.out.below (by go_grown)) (R_a.out.below (by go_grown))).mono ?_
    rintro r w3 ⟨a_o, n_o, k_o, rfl, hv, hb⟩
    have S : Below w2.heap.size w2 w3 := bl_thru (by go_grown) (Nat.le_refl _) hb
    replace B := Lib.hid (bl_thru B.out (Nat.le_refl _) S)
    replace X_a := Lib.hid (X_a.out.below S)
    clear X_b
    clear X_s
    have X_d := Lib.hid ((Box.new w2 _ _ _ _).below hb)
    replace R_a := Lib.hid (R_a.out.below S)
    clear R_b
    clear R_s
    replace R_d := Lib.hid (R_d.out.below S)
    have R_o := Lib.hid (rd_of (d := D_o) hv F_o.out)
    clear hb S hv c0_a c1_a c2_a d0_a d1_a d2_a l_a
    have zo : n_o = 0 := by
      obtain ⟨s', h1, h2⟩ := R_o.out.dv
      simp only [Value.agg.injEq, Array.mk.injEq, List.cons.injEq, and_true, true_and] at h1
      subst h1
      exact nv_zero h2 (by rw [HDo.out]; rfl)
    subst zo
    go_wp2_with fail
    refine (dyadLives_any _ (HT.out.below (by have := B.out; have := B.out.size; go_grown))).mono ?_
    rintro r w4 ⟨rfl, hb⟩
    have S : Below w3.heap.size w3 w4 := bl_thru (by go_grown) (Nat.le_refl _) hb
    replace B := Lib.hid (bl_thru B.out (Nat.le_refl _) S)
    replace X_a := Lib.hid (X_a.out.below S)
    replace X_d := Lib.hid (X_d.out.below S)
    have X_o := Lib.hid ((Box.new w3 _ _ _ _).below hb)
    replace R_a := Lib.hid (R_a.out.below S)
    replace R_d := Lib.hid (R_d.out.below S)
    replace R_o := Lib.hid (R_o.out.below S)
    clear hb S
    obtain ⟨c0_a, c1_a, c2_a, d0_a, d1_a, d2_a⟩ := X_a.out.cells
    have l_a := X_a.out.lt
    go_wp2_with fail
    refine (RD.check (R_a.out)).mono ?_
    rintro r w5 ⟨rfl, hb⟩
    have S : Below w4.heap.size w4 w5 := hb
    replace B := Lib.hid (bl_thru B.out (Nat.le_refl _) S)
    replace X_a := Lib.hid (X_a.out.below S)
    replace X_d := Lib.hid (X_d.out.below S)
    replace X_o := Lib.hid (X_o.out.below S)
    replace R_a := Lib.hid (R_a.out.below S)
    replace R_d := Lib.hid (R_d.out.below S)
    replace R_o := Lib.hid (R_o.out.below S)
    clear hb S c0_a c1_a c2_a d0_a d1_a d2_a l_a
    rcases K2.out with k5 | ⟨k5, s5⟩
    · obtain ⟨c0_a, c1_a, c2_a, d0_a, d1_a, d2_a⟩ := X_a.out.cells
      have l_a := X_a.out.lt
      obtain ⟨c0_o, c1_o, c2_o, d0_o, d1_o, d2_o⟩ := X_o.out.cells
      have l_o := X_o.out.lt
      go_wp2_with (go_at_call 31; refine (ok_new2 _ _  _ _ rfl).mono ?_; rintro e w' ⟨rfl, rfl⟩)
      refine (HC_x.out _ _ (HT.out.below (by have := B.out; have := B.out.size; go_grown)) (R_a.out.below (by go_grown))).mono ?_
      rintro r w6 ⟨a_x, n_x, k_x, rfl, hv, hb⟩
      have S : Below w5.heap.size w5 w6 := bl_thru (by go_grown) (Nat.le_refl _) hb
      replace B := Lib.hid (bl_thru B.out (Nat.le_refl _) S)
      replace X_a := Lib.hid (X_a.out.below S)
      clear X_d
      clear X_o
      replace R_a := Lib.hid (R_a.out.below S)
      clear R_d
      clear R_o
      have R_x := Lib.hid (rd_of (d := D_x) hv F_x.out)
      clear hb S hv c0_a c1_a c2_a d0_a d1_a d2_a l_a c0_o c1_o c2_o d0_o d1_o d2_o l_o
      rcases KX.out with q | ⟨rfl, q1, q2, q3⟩
      · go_wp2
        go_ret
        exact ⟨rfl, (by have := B.out; have := B.out.size; go_grown)⟩
      · have HC_y := Lib.hid q3
        clear q3
        go_wp2_with fail
        refine (HC_y.out _ _ (HT.out.below (by have := B.out; have := B.out.size; go_grown)) (R_x.out.below (by go_grown))).mono ?_
        rintro r w7 ⟨a_y, n_y, k_y, rfl, hv, hb⟩
        have S : Below w6.heap.size w6 w7 := bl_thru (by go_grown) (Nat.le_refl _) hb
        replace B := Lib.hid (bl_thru B.out (Nat.le_refl _) S)
        replace X_a := Lib.hid (X_a.out.below S)
        replace R_a := Lib.hid (R_a.out.below S)
        clear R_x
        clear hb S
        have hv' := Lib.hid (rd_of (d := a) hv F_y.out)
        clear hv
        obtain ⟨c0_a, c1_a, c2_a, d0_a, d1_a, d2_a⟩ := X_a.out.cells
        have l_a := X_a.out.lt
        go_wp2_with fail
        refine (SA.out _ _ _ (hv'.out.below (by go_grown)).dv (R_a.out.below (by go_grown)).dv).mono ?_
        rintro r w8 ⟨rfl, hb⟩
        have S : Below w7.heap.size w7 w8 := bl_thru (by go_grown) (Nat.le_refl _) hb
        replace B := Lib.hid (bl_thru B.out (Nat.le_refl _) S)
        clear X_a
        clear R_a
        clear hb S c0_a c1_a c2_a d0_a d1_a d2_a l_a
        go_wp2
        go_ret
        exact ⟨rfl, B.out⟩
    · have S5 := Lib.hid (same_true s5)
      clear s5
      obtain ⟨c0_a, c1_a, c2_a, d0_a, d1_a, d2_a⟩ := X_a.out.cells
      have l_a := X_a.out.lt
      obtain ⟨c0_d, c1_d, c2_d, d0_d, d1_d, d2_d⟩ := X_d.out.cells
      have l_d := X_d.out.lt
      go_wp2_with (go_at_call 31; refine (ok_new2 _ _  _ _ rfl).mono ?_; rintro e w' ⟨rfl, rfl⟩)
      refine (S5.out _ _ _ (R_d.out.below (by go_grown)).dv (R_a.out.below (by go_grown)).dv).mono ?_
      rintro r w6 ⟨rfl, hb⟩
      have S : Below w5.heap.size w5 w6 := bl_thru (by go_grown) (Nat.le_refl _) hb
      replace B := Lib.hid (bl_thru B.out (Nat.le_refl _) S)
      replace X_a := Lib.hid (X_a.out.below S)
      clear X_d
      replace X_o := Lib.hid (X_o.out.below S)
      replace R_a := Lib.hid (R_a.out.below S)
      clear R_d
      replace R_o := Lib.hid (R_o.out.below S)
      clear hb S c0_a c1_a c2_a d0_a d1_a d2_a l_a c0_d c1_d c2_d d0_d d1_d d2_d l_d
      obtain ⟨c0_a, c1_a, c2_a, d0_a, d1_a, d2_a⟩ := X_a.out.cells
      have l_a := X_a.out.lt
      obtain ⟨c0_o, c1_o, c2_o, d0_o, d1_o, d2_o⟩ := X_o.out.cells
      have l_o := X_o.out.lt
      go_wp2_with fail
      refine (HC_x.out _ _ (HT.out.below B.out) R_a.out).mono ?_
      rintro r w7 ⟨a_x, n_x, k_x, rfl, hv, hb⟩
      have S : Below w6.heap.size w6 w7 := hb
      replace B := Lib.hid (bl_thru B.out (Nat.le_refl _) S)
      replace X_a := Lib.hid (X_a.out.below S)
      clear X_o
      replace R_a := Lib.hid (R_a.out.below S)
      clear R_o
      have R_x := Lib.hid (rd_of (d := D_x) hv F_x.out)
      clear hb S hv c0_a c1_a c2_a d0_a d1_a d2_a l_a c0_o c1_o c2_o d0_o d1_o d2_o l_o
      rcases KX.out with q | ⟨rfl, q1, q2, q3⟩
      · go_wp2
        go_ret
        exact ⟨rfl, (by have := B.out; have := B.out.size; go_grown)⟩
      · have HC_y := Lib.hid q3
        clear q3
        go_wp2_with fail
        refine (HC_y.out _ _ (HT.out.below (by have := B.out; have := B.out.size; go_grown)) (R_x.out.below (by go_grown))).mono ?_
        rintro r w8 ⟨a_y, n_y, k_y, rfl, hv, hb⟩
        have S : Below w7.heap.size w7 w8 := bl_thru (by go_grown) (Nat.le_refl _) hb
        replace B := Lib.hid (bl_thru B.out (Nat.le_refl _) S)
        replace X_a := Lib.hid (X_a.out.below S)
        replace R_a := Lib.hid (R_a.out.below S)
        clear R_x
        clear hb S
        have hv' := Lib.hid (rd_of (d := a) hv F_y.out)
        clear hv
        obtain ⟨c0_a, c1_a, c2_a, d0_a, d1_a, d2_a⟩ := X_a.out.cells
        have l_a := X_a.out.lt
        go_wp2_with fail
        refine (SA.out _ _ _ (hv'.out.below (by go_grown)).dv (R_a.out.below (by go_grown)).dv).mono ?_
        rintro r w9 ⟨rfl, hb⟩
        have S : Below w8.heap.size w8 w9 := bl_thru (by go_grown) (Nat.le_refl _) hb
        replace B := Lib.hid (bl_thru B.out (Nat.le_refl _) S)
        clear X_a
        clear R_a
        clear hb S c0_a c1_a c2_a d0_a d1_a d2_a l_a
        go_wp2
        go_ret
        exact ⟨rfl, B.out⟩
  · have e1 : E_s = ca := by rw [hE_s]; exact opE_ne _ _ hca
    have e2 : E_o = ca := by rw [hE_o]; exact opE_ne _ _ hca
    have hne : (ca != 0) = true := by rw [bne_iff_ne]; exact hca
    subst e1
    subst e2
    clear hE_d hD_s hD_d hE_o hD_o hca
    try clear hE_s
    have R_a := Lib.hid ra
    have R_b := Lib.hid rb
    have HT := Lib.hid hT
    clear hT
    obtain ⟨ga, aa, na, pa, xa, rfl, -⟩ := ra
    obtain ⟨gb, ab, nb, pb, xb, rfl, -⟩ := rb
    go_enter Tryd.func6, Tryd.ntmps6
    go_wp2_with fail
    refine (HC_s.out _ _ _ (HT.out.below (by go_grown)) (R_a.out.below (by go_grown)) (R_b.out.below (by go_grown))).mono ?_
    rintro r w1 ⟨a_s, n_s, k_s, rfl, hv, hb⟩
    have S : Below w.heap.size w w1 := bl_thru (by go_grown) (Nat.le_refl _) hb
    have B := Lib.hid S
    have X_a := Lib.hid (((Box.new w _ _ _ _).alloc _).below hb)
    have X_b := Lib.hid ((Box.new2 w _ _ _ _ _).below hb)
    replace R_a := Lib.hid (R_a.out.below S)
    replace R_b := Lib.hid (R_b.out.below S)
    have R_s := Lib.hid (rd_of (d := D_s) hv F_s.out)
    clear hb S hv
    obtain ⟨c0_b, c1_b, c2_b, d0_b, d1_b, d2_b⟩ := X_b.out.cells
    have l_b := X_b.out.lt
    go_wp2_with fail
    refine (HC_d.out _ _ _ (HT.out.below (by have := B.out; have := B.out.size; go_grown)) (R_s.out.below (by go_grown)) (R_b.out.below (by go_grown))).mono ?_
    rintro r w2 ⟨a_d, n_d, k_d, rfl, hv, hb⟩
    have S : Below w1.heap.size w1 w2 := bl_thru (by go_grown) (Nat.le_refl _) hb
    replace B := Lib.hid (bl_thru B.out (Nat.le_refl _) S)
    replace X_a := Lib.hid (X_a.out.below S)
    replace X_b := Lib.hid (X_b.out.below S)
    have X_s := Lib.hid ((Box.new w1 _ _ _ _).below hb)
    replace R_a := Lib.hid (R_a.out.below S)
    replace R_b := Lib.hid (R_b.out.below S)
    replace R_s := Lib.hid (R_s.out.below S)
    have R_d := Lib.hid (rd_of (d := D_d) hv F_d.out)
    clear hb S hv c0_b c1_b c2_b d0_b d1_b d2_b l_b
    obtain ⟨c0_a, c1_a, c2_a, d0_a, d1_a, d2_a⟩ := X_a.out.cells
    have l_a := X_a.out.lt
    go_wp2_with fail
    refine (HC_o.out _ _ _ (HT.out.below (by have := B.out; have := B.out.size; go_grown)) (R_a.out.below (by go_grown)) (R_a.out.below (by go_grown))).mono ?_
    rintro r w3 ⟨a_o, n_o, k_o, rfl, hv, hb⟩
    have S : Below w2.heap.size w2 w3 := bl_thru (by go_grown) (Nat.le_refl _) hb
    replace B := Lib.hid (bl_thru B.out (Nat.le_refl _) S)
    replace X_a := Lib.hid (X_a.out.below S)
    clear X_b
    clear X_s
    replace R_a := Lib.hid (R_a.out.below S)
    clear R_b
    clear R_s
    clear R_d
    have R_o := Lib.hid (rd_of (d := D_o) hv F_o.out)
    clear hb S hv c0_a c1_a c2_a d0_a d1_a d2_a l_a
    go_wp2_with fail
    refine (dyadLives_any _ (HT.out.below (by have := B.out; have := B.out.size; go_grown))).mono ?_
    rintro r w4 ⟨rfl, hb⟩
    have S : Below w3.heap.size w3 w4 := bl_thru (by go_grown) (Nat.le_refl _) hb
    replace B := Lib.hid (bl_thru B.out (Nat.le_refl _) S)
    replace X_a := Lib.hid (X_a.out.below S)
    replace R_a := Lib.hid (R_a.out.below S)
    clear R_o
    clear hb S
    obtain ⟨c0_a, c1_a, c2_a, d0_a, d1_a, d2_a⟩ := X_a.out.cells
    have l_a := X_a.out.lt
    go_wp2_with fail
    refine (RD.check (R_a.out)).mono ?_
    rintro r w5 ⟨rfl, hb⟩
    have S : Below w4.heap.size w4 w5 := hb
    replace B := Lib.hid (bl_thru B.out (Nat.le_refl _) S)
    replace X_a := Lib.hid (X_a.out.below S)
    replace R_a := Lib.hid (R_a.out.below S)
    clear hb S c0_a c1_a c2_a d0_a d1_a d2_a l_a
    go_wp2_with fail
    refine (dyadLives_any _ (HT.out.below B.out)).mono ?_
    rintro r w6 ⟨rfl, hb⟩
    have S : Below w5.heap.size w5 w6 := hb
    replace B := Lib.hid (bl_thru B.out (Nat.le_refl _) S)
    replace X_a := Lib.hid (X_a.out.below S)
    replace R_a := Lib.hid (R_a.out.below S)
    clear hb S
    go_wp2
    go_ret
    exact ⟨rfl, B.out⟩
end Go.Proofs.YtdknfdncgmeimaaDoor
