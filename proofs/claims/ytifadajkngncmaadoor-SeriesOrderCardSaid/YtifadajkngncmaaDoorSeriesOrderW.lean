/-
  THE WALK of the law SeriesOrder.
-/
import Derived.Test.YtifadajkngncmaaDoorPds
set_option linter.unusedVariables false
set_option linter.unusedSimpArgs false
namespace Go.Proofs.YtifadajkngncmaaDoor
open Go.RowKit Nt Fm
open Ea (IsFl IsLg)

set_option maxRecDepth 100000 in
set_option maxHeartbeats 16000000 in
theorem walkSeriesOrder (vc : Value) (cc : Int) (c : D) (vd : Value) (cd : Int) (d : D) (pl : Int) (pl0 : -9223372036854775808 ≤ pl) (pl1 : pl ≤ 9223372036854775807) (w : World) (hT : Tab w) (rc : RD w vc cc c) (rd : RD w vd cd d) :
    Calls Tryd.prog 3 #[vc, vd, .int .i64 pl] w fun e w' => e = .returned (.bool true) ∧ Below w.heap.size w w' := by
  obtain ⟨E_x0, D_x0, hE_x0, hD_x0⟩ : ∃ E D, E = sexE cc c (pl) ∧ D = sexR cc c (pl) := ⟨_, _, rfl, rfl⟩
  have HC_x0 := Lib.hid (fun v w' ht hr => by
    have := sexpT v cc (pl) c w' ht hr pl0 pl1
    rw [← hE_x0, ← hD_x0] at this; exact this)
  obtain ⟨E_y0, D_y0, hE_y0, hD_y0⟩ : ∃ E D, E = sexE cd d (pl) ∧ D = sexR cd d (pl) := ⟨_, _, rfl, rfl⟩
  have HC_y0 := Lib.hid (fun v w' ht hr => by
    have := sexpT v cd (pl) d w' ht hr pl0 pl1
    rw [← hE_y0, ← hD_y0] at this; exact this)
  obtain ⟨E_x1, D_x1, hE_x1, hD_x1⟩ : ∃ E D, E = slgE cc c (pl) ∧ D = slgR cc c (pl) := ⟨_, _, rfl, rfl⟩
  have HC_x1 := Lib.hid (fun v w' ht hr => by
    have := slogT v cc (pl) c w' ht hr pl0 pl1
    rw [← hE_x1, ← hD_x1] at this; exact this)
  obtain ⟨E_y1, D_y1, hE_y1, hD_y1⟩ : ∃ E D, E = slgE cd d (pl) ∧ D = slgR cd d (pl) := ⟨_, _, rfl, rfl⟩
  have HC_y1 := Lib.hid (fun v w' ht hr => by
    have := slogT v cd (pl) d w' ht hr pl0 pl1
    rw [← hE_y1, ← hD_y1] at this; exact this)
  have L0 : Hid (rv c ≤ rv d → ok2 E_x0 E_y0 = true → Tel (IsFl (rv c)) E_x0 D_x0 pl → Tel (IsFl (rv d)) E_y0 D_y0 pl → cmp D_x0 D_y0 ≤ 0) := Lib.hid (fun h k tx ty => by
    obtain ⟨q1, q2⟩ := ok2_two k
    exact tel_order (fl_pls h) tx ty q1 q2)
  have L1 : Hid (rv c ≤ rv d → ok2 E_x1 E_y1 = true → Tel (IsLg (rv c)) E_x1 D_x1 pl → Tel (IsLg (rv d)) E_y1 D_y1 pl → cmp D_x1 D_y1 ≤ 0) := Lib.hid (fun h k tx ty => by
    obtain ⟨q1, q2⟩ := ok2_two k
    exact tel_order (lg_pls (slg_pos (hE_x1.symm.trans q1)) h) tx ty q1 q2)
  have hle : nmB cc cd c d = true → rv c ≤ rv d := fun h => by
    unfold nmB at h
    simp only [Bool.and_eq_true, decide_eq_true_eq] at h
    obtain ⟨h1, h2⟩ := h
    unfold cmE at h2
    rw [if_pos h1] at h2
    exact rv_le.1 h2
  have NM := Lib.hid (fun v1 v2 w' h0 h1 h2 => noMore_any v1 v2 cc cd c d w' h0 h1 h2)
  have HLE := Lib.hid hle
  generalize nmB cc cd c d = nb at *
  clear hE_x0 hD_x0 hE_y0 hD_y0 hE_x1 hD_x1 hE_y1 hD_y1 hle
  have R_c := Lib.hid rc
  have R_d := Lib.hid rd
  have HT := Lib.hid hT
  clear hT
  obtain ⟨gc, ac, nc, pc, xc, rfl, -⟩ := rc
  obtain ⟨gd, ad, nd, pd, xd, rfl, -⟩ := rd
  cases nb
  · clear L0 L1 HC_x0 HC_y0 HC_x1 HC_y1
    clear HLE
    go_enter Tryd.func3, Tryd.ntmps3
    go_wp2_with fail
    refine (seriesLives_any _ (HT.out.below (by go_grown))).mono ?_
    rintro r w1 ⟨rfl, hb⟩
    have S : Below w.heap.size w w1 := bl_thru (by go_grown) (Nat.le_refl _) hb
    have B := Lib.hid S
    have X_c := Lib.hid (((Box.new w _ _ _ _).alloc _).below hb)
    have X_d := Lib.hid ((Box.new2 w _ _ _ _ _).below hb)
    replace R_c := Lib.hid (R_c.out.below S)
    replace R_d := Lib.hid (R_d.out.below S)
    clear hb S
    obtain ⟨c0_c, c1_c, c2_c, d0_c, d1_c, d2_c⟩ := X_c.out.cells
    have l_c := X_c.out.lt
    obtain ⟨c0_d, c1_d, c2_d, d0_d, d1_d, d2_d⟩ := X_d.out.cells
    have l_d := X_d.out.lt
    go_wp2_with fail
    refine (NM.out _ _ _ (HT.out.below B.out) R_c.out R_d.out).mono ?_
    rintro r w2 ⟨rfl, hb⟩
    have S : Below w1.heap.size w1 w2 := hb
    replace B := Lib.hid (bl_thru B.out (Nat.le_refl _) S)
    clear X_c
    clear X_d
    clear R_c
    clear R_d
    clear hb S c0_c c1_c c2_c d0_c d1_c d2_c l_c c0_d c1_d c2_d d0_d d1_d d2_d l_d
    go_wp2_with fail
    refine (seriesLives_any _ (HT.out.below B.out)).mono ?_
    rintro r w3 ⟨rfl, hb⟩
    have S : Below w2.heap.size w2 w3 := hb
    replace B := Lib.hid (bl_thru B.out (Nat.le_refl _) S)
    clear hb S
    go_wp2
    go_ret
    exact ⟨rfl, B.out⟩
  · have hle := Lib.hid (HLE.out rfl)
    have j0 : ∀ w : World, (Instr.index 28 (.agg #[.func (.func 16) #[] #[], .func (.func 17) #[] #[]]) (.int .i64 0)).run Tryd.prog w = .ok (.func (.func 16) #[] #[]) w := fun _ => by kernel_rfl
    have j1 : ∀ w : World, (Instr.index 28 (.agg #[.func (.func 16) #[] #[], .func (.func 17) #[] #[]]) (.int .i64 1)).run Tryd.prog w = .ok (.func (.func 17) #[] #[]) w := fun _ => by kernel_rfl
    clear HLE
    go_enter Tryd.func3, Tryd.ntmps3
    go_wp2_with fail
    refine (seriesLives_any _ (HT.out.below (by go_grown))).mono ?_
    rintro r w1 ⟨rfl, hb⟩
    have S : Below w.heap.size w w1 := bl_thru (by go_grown) (Nat.le_refl _) hb
    have B := Lib.hid S
    have X_c := Lib.hid (((Box.new w _ _ _ _).alloc _).below hb)
    have X_d := Lib.hid ((Box.new2 w _ _ _ _ _).below hb)
    replace R_c := Lib.hid (R_c.out.below S)
    replace R_d := Lib.hid (R_d.out.below S)
    clear hb S
    obtain ⟨c0_c, c1_c, c2_c, d0_c, d1_c, d2_c⟩ := X_c.out.cells
    have l_c := X_c.out.lt
    obtain ⟨c0_d, c1_d, c2_d, d0_d, d1_d, d2_d⟩ := X_d.out.cells
    have l_d := X_d.out.lt
    go_wp2_with fail
    refine (NM.out _ _ _ (HT.out.below B.out) R_c.out R_d.out).mono ?_
    rintro r w2 ⟨rfl, hb⟩
    have S : Below w1.heap.size w1 w2 := hb
    replace B := Lib.hid (bl_thru B.out (Nat.le_refl _) S)
    replace X_c := Lib.hid (X_c.out.below S)
    replace X_d := Lib.hid (X_d.out.below S)
    replace R_c := Lib.hid (R_c.out.below S)
    replace R_d := Lib.hid (R_d.out.below S)
    clear hb S c0_c c1_c c2_c d0_c d1_c d2_c l_c c0_d c1_d c2_d d0_d d1_d d2_d l_d
    go_wp2
    go_loopw [23] (fun i wr => ∃ k : Nat, k ≤ 2 ∧ i = .int .i64 k ∧ Hid (Box wr w.heap.size 24 (.bool gc) (.slice ac nc pc) (.int .i64 xc)) ∧ Hid (Box wr (w.heap.size + 1) 24 (.bool gd) (.slice ad nd pd) (.int .i64 xd)) ∧ Hid (RD wr (.agg #[.bool gc, .slice ac nc pc, .int .i64 xc]) cc c) ∧ Hid (RD wr (.agg #[.bool gd, .slice ad nd pd, .int .i64 xd]) cd d) ∧ Hid (Below w.heap.size w wr)) (fun i _ => 2 - (intOf i).toNat)
    case atStart => exact ⟨0, by omega, rfl, X_c, X_d, R_c, R_d, B⟩
    case round =>
      clear X_c X_d R_c R_d B
      obtain ⟨k, hk, rfl, X_c, X_d, R_c, R_d, B⟩ := hrel
      have hk4 : k = 0 ∨ k = 1 ∨ k = 2 := by omega
      rcases hk4 with rfl | rfl | rfl
      · obtain ⟨c0_c, c1_c, c2_c, d0_c, d1_c, d2_c⟩ := X_c.out.cells
        have l_c := X_c.out.lt
        go_wp2_with fail
        refine (HC_x0.out _ _ (HT.out.below B.out) R_c.out).mono ?_
        rintro r w11 ⟨⟨a_x0, n_x0, k_x0, rfl, hv, hb⟩, ht⟩
        have S : Below wr.heap.size wr w11 := hb
        replace B := Lib.hid (bl_thru B.out (Nat.le_refl _) S)
        replace X_c := Lib.hid (X_c.out.below S)
        replace X_d := Lib.hid (X_d.out.below S)
        replace R_c := Lib.hid (R_c.out.below S)
        replace R_d := Lib.hid (R_d.out.below S)
        have R_x0 := Lib.hid (rd_of (d := D_x0) hv ht.fit)
        clear hb S hv c0_c c1_c c2_c d0_c d1_c d2_c l_c
        have T_x0 := Lib.hid ht
        clear ht
        obtain ⟨c0_d, c1_d, c2_d, d0_d, d1_d, d2_d⟩ := X_d.out.cells
        have l_d := X_d.out.lt
        go_wp2_with fail
        refine (HC_y0.out _ _ (HT.out.below (by have := B.out; have := B.out.size; go_grown)) (R_d.out.below (by go_grown))).mono ?_
        rintro r w12 ⟨⟨a_y0, n_y0, k_y0, rfl, hv, hb⟩, ht⟩
        have S : Below w11.heap.size w11 w12 := bl_thru (by go_grown) (Nat.le_refl _) hb
        replace B := Lib.hid (bl_thru B.out (Nat.le_refl _) S)
        replace X_c := Lib.hid (X_c.out.below S)
        replace X_d := Lib.hid (X_d.out.below S)
        have X_x0 := Lib.hid ((Box.new w11 _ _ _ _).below hb)
        replace R_c := Lib.hid (R_c.out.below S)
        replace R_d := Lib.hid (R_d.out.below S)
        replace R_x0 := Lib.hid (R_x0.out.below S)
        have R_y0 := Lib.hid (rd_of (d := D_y0) hv ht.fit)
        clear hb S hv c0_d c1_d c2_d d0_d d1_d d2_d l_d
        have T_y0 := Lib.hid ht
        clear ht
        cases k2 : ok2 E_x0 E_y0
        · clear T_x0 T_y0
          go_wp2_with (go_at_call 18; refine (ok_new2 _ _  _ _ (by simp)).mono ?_; rintro e w' ⟨rfl, rfl⟩)
          go_roundw
          case rel => exact ⟨1, by omega, by go_num, Lib.hid ((X_c.out.alloc _).alloc _), Lib.hid ((X_d.out.alloc _).alloc _), Lib.hid (R_c.out.below (by go_grown)), Lib.hid (R_d.out.below (by go_grown)), Lib.hid (by have := B.out; have := B.out.size; go_grown)⟩
          case measure => simp [intOf]
        · have n1 := L0.out hle.out k2 T_x0.out T_y0.out
          have N1 := Lib.hid (fun v1 v2 w' h0 h1 h2 => nm_true n1 v1 v2 w' h0 h1 h2)
          clear n1 T_x0 T_y0
          obtain ⟨c0_x0, c1_x0, c2_x0, d0_x0, d1_x0, d2_x0⟩ := X_x0.out.cells
          have l_x0 := X_x0.out.lt
          go_wp2_with (go_at_call 18; refine (ok_new2 _ _  _ _ (by simp)).mono ?_; rintro e w' ⟨rfl, rfl⟩)
          refine (N1.out _ _ _ (HT.out.below (by have := B.out; have := B.out.size; go_grown)) (R_x0.out.below (by go_grown)) (R_y0.out.below (by go_grown))).mono ?_
          rintro r w13 ⟨rfl, hb⟩
          have S : Below w12.heap.size w12 w13 := bl_thru (by go_grown) (Nat.le_refl _) hb
          replace B := Lib.hid (bl_thru B.out (Nat.le_refl _) S)
          replace X_c := Lib.hid (X_c.out.below S)
          replace X_d := Lib.hid (X_d.out.below S)
          clear X_x0
          replace R_c := Lib.hid (R_c.out.below S)
          replace R_d := Lib.hid (R_d.out.below S)
          clear R_x0
          clear R_y0
          clear hb S c0_x0 c1_x0 c2_x0 d0_x0 d1_x0 d2_x0 l_x0
          go_wp2_with fail
          go_roundw
          case rel => exact ⟨1, by omega, by go_num, X_c, X_d, R_c, R_d, B⟩
          case measure => simp [intOf]
      · obtain ⟨c0_c, c1_c, c2_c, d0_c, d1_c, d2_c⟩ := X_c.out.cells
        have l_c := X_c.out.lt
        go_wp2_with fail
        refine (HC_x1.out _ _ (HT.out.below B.out) R_c.out).mono ?_
        rintro r w11 ⟨⟨a_x1, n_x1, k_x1, rfl, hv, hb⟩, ht⟩
        have S : Below wr.heap.size wr w11 := hb
        replace B := Lib.hid (bl_thru B.out (Nat.le_refl _) S)
        replace X_c := Lib.hid (X_c.out.below S)
        replace X_d := Lib.hid (X_d.out.below S)
        replace R_c := Lib.hid (R_c.out.below S)
        replace R_d := Lib.hid (R_d.out.below S)
        have R_x1 := Lib.hid (rd_of (d := D_x1) hv ht.fit)
        clear hb S hv c0_c c1_c c2_c d0_c d1_c d2_c l_c
        have T_x1 := Lib.hid ht
        clear ht
        obtain ⟨c0_d, c1_d, c2_d, d0_d, d1_d, d2_d⟩ := X_d.out.cells
        have l_d := X_d.out.lt
        go_wp2_with fail
        refine (HC_y1.out _ _ (HT.out.below (by have := B.out; have := B.out.size; go_grown)) (R_d.out.below (by go_grown))).mono ?_
        rintro r w12 ⟨⟨a_y1, n_y1, k_y1, rfl, hv, hb⟩, ht⟩
        have S : Below w11.heap.size w11 w12 := bl_thru (by go_grown) (Nat.le_refl _) hb
        replace B := Lib.hid (bl_thru B.out (Nat.le_refl _) S)
        replace X_c := Lib.hid (X_c.out.below S)
        replace X_d := Lib.hid (X_d.out.below S)
        have X_x1 := Lib.hid ((Box.new w11 _ _ _ _).below hb)
        replace R_c := Lib.hid (R_c.out.below S)
        replace R_d := Lib.hid (R_d.out.below S)
        replace R_x1 := Lib.hid (R_x1.out.below S)
        have R_y1 := Lib.hid (rd_of (d := D_y1) hv ht.fit)
        clear hb S hv c0_d c1_d c2_d d0_d d1_d d2_d l_d
        have T_y1 := Lib.hid ht
        clear ht
        cases k2 : ok2 E_x1 E_y1
        · clear T_x1 T_y1
          go_wp2_with (go_at_call 18; refine (ok_new2 _ _  _ _ (by simp)).mono ?_; rintro e w' ⟨rfl, rfl⟩)
          go_roundw
          case rel => exact ⟨2, by omega, by go_num, Lib.hid ((X_c.out.alloc _).alloc _), Lib.hid ((X_d.out.alloc _).alloc _), Lib.hid (R_c.out.below (by go_grown)), Lib.hid (R_d.out.below (by go_grown)), Lib.hid (by have := B.out; have := B.out.size; go_grown)⟩
          case measure => simp [intOf]
        · have n1 := L1.out hle.out k2 T_x1.out T_y1.out
          have N1 := Lib.hid (fun v1 v2 w' h0 h1 h2 => nm_true n1 v1 v2 w' h0 h1 h2)
          clear n1 T_x1 T_y1
          obtain ⟨c0_x1, c1_x1, c2_x1, d0_x1, d1_x1, d2_x1⟩ := X_x1.out.cells
          have l_x1 := X_x1.out.lt
          go_wp2_with (go_at_call 18; refine (ok_new2 _ _  _ _ (by simp)).mono ?_; rintro e w' ⟨rfl, rfl⟩)
          refine (N1.out _ _ _ (HT.out.below (by have := B.out; have := B.out.size; go_grown)) (R_x1.out.below (by go_grown)) (R_y1.out.below (by go_grown))).mono ?_
          rintro r w13 ⟨rfl, hb⟩
          have S : Below w12.heap.size w12 w13 := bl_thru (by go_grown) (Nat.le_refl _) hb
          replace B := Lib.hid (bl_thru B.out (Nat.le_refl _) S)
          replace X_c := Lib.hid (X_c.out.below S)
          replace X_d := Lib.hid (X_d.out.below S)
          clear X_x1
          replace R_c := Lib.hid (R_c.out.below S)
          replace R_d := Lib.hid (R_d.out.below S)
          clear R_x1
          clear R_y1
          clear hb S c0_x1 c1_x1 c2_x1 d0_x1 d1_x1 d2_x1 l_x1
          go_wp2_with fail
          go_roundw
          case rel => exact ⟨2, by omega, by go_num, X_c, X_d, R_c, R_d, B⟩
          case measure => simp [intOf]
      · clear j0 j1 L0 L1 HC_x0 HC_y0 HC_x1 HC_y1
        go_wp2
        go_ret
        exact ⟨rfl, B.out⟩
end Go.Proofs.YtifadajkngncmaaDoor
