/-
  THE WALK of the law SeriesPlaces.
-/
import Derived.Test.YtifadajkngncmaaDoorPds
set_option linter.unusedVariables false
set_option linter.unusedSimpArgs false
namespace Go.Proofs.YtifadajkngncmaaDoor
open Go.RowKit Nt Fm
open Ea (IsFl IsLg)

theorem cmp_00 (a b : D) (v1 v2 : Value) (w : World) (hT : Tab w) (h1 : RD w v1 0 a) (h2 : RD w v2 0 b) : Calls Tryd.prog 20 #[v1, v2] w fun r w' => r = .returned (.tuple #[.int .i64 (cmp a b), .int .i64 0]) ∧ Below w.heap.size w w' := by
  have := cmp_any v1 v2 0 0 a b w hT h1 h2
  have e1 : cmE 0 0 a b = cmp a b := by unfold cmE; rw [if_pos (by rfl)]
  have e2 : ck2 0 0 = 0 := rfl
  rw [e1, e2] at this; exact this
theorem nv_zero {w : World} {ao : Option Addr} {n c : Nat} {m : Nat} (h : NV w (.slice ao n c) m) (hm : m = 0) : n = 0 := by
  obtain ⟨ao', n', c', h1, -, -, h2⟩ := nv_len h
  simp only [Value.slice.injEq] at h1
  omega
theorem rd_zero {w : World} {d : D} {ao : Option Addr} {n c : Nat} (h : RD w (.agg #[.bool d.neg, .slice ao n c, .int .i64 d.e]) 0 d) (hm : d.m = 0) : n = 0 := by
  obtain ⟨s', h1, h2⟩ := h.dv
  simp only [Value.agg.injEq, Array.mk.injEq, List.cons.injEq, and_true, true_and] at h1
  subst h1
  exact nv_zero h2 hm
set_option maxRecDepth 100000 in
set_option maxHeartbeats 16000000 in
theorem walkSeriesPlaces (vd : Value) (cd : Int) (d : D) (pl : Int) (pl0 : -9223372036854775808 ≤ pl) (pl1 : pl ≤ 9223372036854775807) (fw : Int) (fw0 : -9223372036854775808 ≤ fw) (fw1 : fw ≤ 9223372036854775807) (w : World) (hT : Tab w) (rd : RD w vd cd d) :
    Calls Tryd.prog 4 #[vd, .int .i64 pl, .int .i64 fw] w fun e w' => e = .returned (.bool true) ∧ Below w.heap.size w w' := by
  obtain ⟨E_x0, D_x0, hE_x0, hD_x0⟩ : ∃ E D, E = sexE cd d (pl) ∧ D = sexR cd d (pl) := ⟨_, _, rfl, rfl⟩
  have HC_x0 := Lib.hid (fun v w' ht hr => by
    have := sexpT v cd (pl) d w' ht hr pl0 pl1
    rw [← hE_x0, ← hD_x0] at this; exact this)
  obtain ⟨E_y0, D_y0, hE_y0, hD_y0⟩ : ∃ E D, E = sexE cd d (fw) ∧ D = sexR cd d (fw) := ⟨_, _, rfl, rfl⟩
  have HC_y0 := Lib.hid (fun v w' ht hr => by
    have := sexpT v cd (fw) d w' ht hr fw0 fw1
    rw [← hE_y0, ← hD_y0] at this; exact this)
  obtain ⟨E_x1, D_x1, hE_x1, hD_x1⟩ : ∃ E D, E = slgE cd d (pl) ∧ D = slgR cd d (pl) := ⟨_, _, rfl, rfl⟩
  have HC_x1 := Lib.hid (fun v w' ht hr => by
    have := slogT v cd (pl) d w' ht hr pl0 pl1
    rw [← hE_x1, ← hD_x1] at this; exact this)
  obtain ⟨E_y1, D_y1, hE_y1, hD_y1⟩ : ∃ E D, E = slgE cd d (fw) ∧ D = slgR cd d (fw) := ⟨_, _, rfl, rfl⟩
  have HC_y1 := Lib.hid (fun v w' ht hr => by
    have := slogT v cd (fw) d w' ht hr fw0 fw1
    rw [← hE_y1, ← hD_y1] at this; exact this)
  have L0 : Hid (ok2 E_x0 E_y0 = true → fw ≤ pl → Tel (IsFl (rv d)) E_x0 D_x0 pl → Tel (IsFl (rv d)) E_y0 D_y0 fw → (0 ≤ fw ∧ fw ≤ 1300) ∧ Fit (plus D_y0 ⟨false, 1, -fw⟩) ∧ cmp D_x0 (plus D_y0 ⟨false, 1, -fw⟩) < 0 ∧ cmp D_y0 D_x0 ≤ 0 ∧ (D_y0.m = 0 ∨ -fw ≤ D_y0.e) ∧ Fit (⟨false, 1, -fw⟩ : D)) := Lib.hid (fun k hf tx ty => by
    obtain ⟨q1, q2⟩ := ok2_two k
    have := ty.1 q2
    exact ⟨⟨this.1, this.2.1⟩, tel_few (fl_few _) tx ty q1 q2 hf⟩)
  have L1 : Hid (ok2 E_x1 E_y1 = true → fw ≤ pl → Tel (IsLg (rv d)) E_x1 D_x1 pl → Tel (IsLg (rv d)) E_y1 D_y1 fw → (0 ≤ fw ∧ fw ≤ 1300) ∧ Fit (plus D_y1 ⟨false, 1, -fw⟩) ∧ cmp D_x1 (plus D_y1 ⟨false, 1, -fw⟩) < 0 ∧ cmp D_y1 D_x1 ≤ 0 ∧ (D_y1.m = 0 ∨ -fw ≤ D_y1.e) ∧ Fit (⟨false, 1, -fw⟩ : D)) := Lib.hid (fun k hf tx ty => by
    obtain ⟨q1, q2⟩ := ok2_two k
    have := ty.1 q2
    exact ⟨⟨this.1, this.2.1⟩, tel_few (lg_few (slg_pos (hE_x1.symm.trans q1))) tx ty q1 q2 hf⟩)
  have k2m := ok2_mk
  have hfw : pl < fw ∨ fw ≤ pl := by omega
  clear hE_x0 hD_x0 hE_y0 hD_y0 hE_x1 hD_x1 hE_y1 hD_y1
  have R_d := Lib.hid rd
  have HT := Lib.hid hT
  clear hT
  obtain ⟨gd, ad, nd, pd, xd, rfl, -⟩ := rd
  have j0 : ∀ w : World, (Instr.index 28 (.agg #[.func (.func 16) #[] #[], .func (.func 17) #[] #[]]) (.int .i64 0)).run Tryd.prog w = .ok (.func (.func 16) #[] #[]) w := fun _ => by kernel_rfl
  have j1 : ∀ w : World, (Instr.index 28 (.agg #[.func (.func 16) #[] #[], .func (.func 17) #[] #[]]) (.int .i64 1)).run Tryd.prog w = .ok (.func (.func 17) #[] #[]) w := fun _ => by kernel_rfl
  go_enter Tryd.func4, Tryd.ntmps4
  go_wp2
  have X_d := Lib.hid (Box.new w (.bool gd) (.slice ad nd pd) (.int .i64 xd) 24)
  have RR_d := Lib.hid (R_d.out.below ((Below.refl w.heap.size w).alloc (Nat.le_refl _) (.cells #[.bool gd, .slice ad nd pd, .int .i64 xd] 24)))
  have B := Lib.hid ((Below.refl w.heap.size w).alloc (Nat.le_refl _) (.cells #[.bool gd, .slice ad nd pd, .int .i64 xd] 24))
  go_loopw [18] (fun i wr => ∃ k : Nat, k ≤ 2 ∧ i = .int .i64 k ∧ Hid (Box wr w.heap.size 24 (.bool gd) (.slice ad nd pd) (.int .i64 xd)) ∧ Hid (RD wr (.agg #[.bool gd, .slice ad nd pd, .int .i64 xd]) cd d) ∧ Hid (Below w.heap.size w wr)) (fun i _ => 2 - (intOf i).toNat)
  case atStart => exact ⟨0, by omega, rfl, X_d, RR_d, B⟩
  case round =>
    clear X_d R_d RR_d B
    obtain ⟨k, hk, rfl, X_d, R_d, B⟩ := hrel
    have hk4 : k = 0 ∨ k = 1 ∨ k = 2 := by omega
    rcases hk4 with rfl | rfl | rfl
    · obtain ⟨c0_d, c1_d, c2_d, d0_d, d1_d, d2_d⟩ := X_d.out.cells
      have l_d := X_d.out.lt
      go_wp2_with fail
      refine (HC_x0.out _ _ (HT.out.below B.out) R_d.out).mono ?_
      rintro r w11 ⟨⟨a_x0, n_x0, k_x0, rfl, hv, hb⟩, ht⟩
      have S : Below wr.heap.size wr w11 := hb
      replace B := Lib.hid (bl_thru B.out (Nat.le_refl _) S)
      replace X_d := Lib.hid (X_d.out.below S)
      replace R_d := Lib.hid (R_d.out.below S)
      have R_x0 := Lib.hid (rd_of (d := D_x0) hv ht.fit)
      clear hb S hv c0_d c1_d c2_d d0_d d1_d d2_d l_d
      have T_x0 := Lib.hid ht
      clear ht
      obtain ⟨c0_d, c1_d, c2_d, d0_d, d1_d, d2_d⟩ := X_d.out.cells
      have l_d := X_d.out.lt
      go_wp2_with fail
      refine (HC_y0.out _ _ (HT.out.below (by have := B.out; have := B.out.size; go_grown)) (R_d.out.below (by go_grown))).mono ?_
      rintro r w12 ⟨⟨a_y0, n_y0, k_y0, rfl, hv, hb⟩, ht⟩
      have S : Below w11.heap.size w11 w12 := bl_thru (by go_grown) (Nat.le_refl _) hb
      replace B := Lib.hid (bl_thru B.out (Nat.le_refl _) S)
      replace X_d := Lib.hid (X_d.out.below S)
      have X_x0 := Lib.hid ((Box.new w11 _ _ _ _).below hb)
      replace R_d := Lib.hid (R_d.out.below S)
      replace R_x0 := Lib.hid (R_x0.out.below S)
      have R_y0 := Lib.hid (rd_of (d := D_y0) hv ht.fit)
      clear hb S hv c0_d c1_d c2_d d0_d d1_d d2_d l_d
      have T_y0 := Lib.hid ht
      clear ht
      cases k2 : ok2 E_x0 E_y0
      · clear T_x0 T_y0 hfw
        go_wp2_with (go_at_call 18; refine (ok_new2 _ _  _ _ (by simp)).mono ?_; rintro e w' ⟨rfl, rfl⟩)
        go_roundw
        case rel => exact ⟨1, by omega, by go_num, Lib.hid ((X_d.out.alloc _).alloc _), Lib.hid (R_d.out.below (by go_grown)), Lib.hid (by have := B.out; have := B.out.size; go_grown)⟩
        case measure => simp [intOf]
      · rcases hfw with hf | hf
        · clear T_x0 T_y0
          go_wp2_with (go_at_call 18; refine (ok_new2 _ _  _ _ (by simp)).mono ?_; rintro e w' ⟨rfl, rfl⟩)
          go_roundw
          case rel => exact ⟨1, by omega, by go_num, Lib.hid ((X_d.out.alloc _).alloc _), Lib.hid (R_d.out.below (by go_grown)), Lib.hid (by have := B.out; have := B.out.size; go_grown)⟩
          case measure => simp [intOf]
        · obtain ⟨⟨f0, f1⟩, g1, g2, g3, g4, g5⟩ := L0.out k2 hf T_x0.out T_y0.out
          have HC_s := Lib.hid (fun v1 v2 w' h0 h1 h2 => add_fit g1 v1 v2 w' h0 h1 h2)
          have F_s := Lib.hid g1
          have SF := Lib.hid g5
          have HC_m := Lib.hid (fun v1 v2 w' h0 h1 h2 => cmp_00 D_x0 (plus D_y0 ⟨false, 1, -fw⟩) v1 v2 w' h0 h1 h2)
          have N1 := Lib.hid (fun v1 v2 w' h0 h1 h2 => nm_true g3 v1 v2 w' h0 h1 h2)
          have hz : Hid (n_y0 = 0 ∨ -fw ≤ D_y0.e) := Lib.hid (g4.imp (fun h => rd_zero R_y0.out h) id)
          clear g1 g3 g4 g5 T_x0 T_y0 L0 L1
          generalize cmp D_x0 (plus D_y0 ⟨false, 1, -fw⟩) = M at *
          generalize plus D_y0 ⟨false, 1, -fw⟩ = D_s at *
          go_wp2_with (go_at_call 18; refine (ok_new2 _ _  _ _ (by simp)).mono ?_; rintro e w' ⟨rfl, rfl⟩)
          refine (HC_s.out _ _ _ (HT.out.below (by have := B.out; have := B.out.size; go_grown)) (R_y0.out.below (by go_grown)) (rd_of (d := ⟨false, 1, -fw⟩) (nv_uno _ _ 1 _ (by simp) (by decide) (by decide)) SF.out)).mono ?_
          rintro r w13 ⟨a_s, n_s, k_s, rfl, hv, hb⟩
          have S : Below w12.heap.size w12 w13 := bl_thru (by go_grown) (Nat.le_refl _) hb
          replace B := Lib.hid (bl_thru B.out (Nat.le_refl _) S)
          replace X_d := Lib.hid (X_d.out.below S)
          replace X_x0 := Lib.hid (X_x0.out.below S)
          have X_y0 := Lib.hid ((((Box.new w12 _ _ _ _).alloc _).alloc _).below hb)
          replace R_d := Lib.hid (R_d.out.below S)
          replace R_x0 := Lib.hid (R_x0.out.below S)
          replace R_y0 := Lib.hid (R_y0.out.below S)
          have R_s := Lib.hid (rd_of (d := D_s) hv F_s.out)
          clear hb S hv
          obtain ⟨c0_x0, c1_x0, c2_x0, d0_x0, d1_x0, d2_x0⟩ := X_x0.out.cells
          have l_x0 := X_x0.out.lt
          go_wp2_with fail
          refine (HC_m.out _ _ _ (HT.out.below (by have := B.out; have := B.out.size; go_grown)) (R_x0.out.below (by go_grown)) (R_s.out.below (by go_grown))).mono ?_
          rintro r w14 ⟨rfl, hb⟩
          have S : Below w13.heap.size w13 w14 := bl_thru (by go_grown) (Nat.le_refl _) hb
          replace B := Lib.hid (bl_thru B.out (Nat.le_refl _) S)
          replace X_d := Lib.hid (X_d.out.below S)
          replace X_x0 := Lib.hid (X_x0.out.below S)
          replace X_y0 := Lib.hid (X_y0.out.below S)
          replace R_d := Lib.hid (R_d.out.below S)
          replace R_x0 := Lib.hid (R_x0.out.below S)
          replace R_y0 := Lib.hid (R_y0.out.below S)
          clear R_s
          clear hb S c0_x0 c1_x0 c2_x0 d0_x0 d1_x0 d2_x0 l_x0
          obtain ⟨c0_y0, c1_y0, c2_y0, d0_y0, d1_y0, d2_y0⟩ := X_y0.out.cells
          have l_y0 := X_y0.out.lt
          obtain ⟨c0_x0, c1_x0, c2_x0, d0_x0, d1_x0, d2_x0⟩ := X_x0.out.cells
          have l_x0 := X_x0.out.lt
          go_wp2_with (go_at_call 18; refine (ok_new2 _ _  _ _ rfl).mono ?_; rintro e w' ⟨rfl, rfl⟩)
          refine (N1.out _ _ _ (HT.out.below (by have := B.out; have := B.out.size; go_grown)) (R_y0.out.below (by go_grown)) (R_x0.out.below (by go_grown))).mono ?_
          rintro r w15 ⟨rfl, hb⟩
          have S : Below w14.heap.size w14 w15 := bl_thru (by go_grown) (Nat.le_refl _) hb
          replace B := Lib.hid (bl_thru B.out (Nat.le_refl _) S)
          replace X_d := Lib.hid (X_d.out.below S)
          clear X_x0
          replace X_y0 := Lib.hid (X_y0.out.below S)
          replace R_d := Lib.hid (R_d.out.below S)
          clear R_x0
          replace R_y0 := Lib.hid (R_y0.out.below S)
          clear hb S c0_y0 c1_y0 c2_y0 d0_y0 d1_y0 d2_y0 l_y0 c0_x0 c1_x0 c2_x0 d0_x0 d1_x0 d2_x0 l_x0
          obtain ⟨c0_y0, c1_y0, c2_y0, d0_y0, d1_y0, d2_y0⟩ := X_y0.out.cells
          have l_y0 := X_y0.out.lt
          have hz' := hz.out
          clear hz
          have hn : n_y0 = 0 ∨ (0 < n_y0 ∧ -fw ≤ D_y0.e) := by omega
          clear hz'
          rcases hn with hn | ⟨hn, hn2⟩
          · subst hn
            go_wp2_with fail
            go_roundw
            case rel => exact ⟨1, by omega, by go_num, X_d, R_d, B⟩
            case measure => simp [intOf]
          · go_wp2_with fail
            go_roundw
            case rel => exact ⟨1, by omega, by go_num, X_d, R_d, B⟩
            case measure => simp [intOf]
    · obtain ⟨c0_d, c1_d, c2_d, d0_d, d1_d, d2_d⟩ := X_d.out.cells
      have l_d := X_d.out.lt
      go_wp2_with fail
      refine (HC_x1.out _ _ (HT.out.below B.out) R_d.out).mono ?_
      rintro r w11 ⟨⟨a_x1, n_x1, k_x1, rfl, hv, hb⟩, ht⟩
      have S : Below wr.heap.size wr w11 := hb
      replace B := Lib.hid (bl_thru B.out (Nat.le_refl _) S)
      replace X_d := Lib.hid (X_d.out.below S)
      replace R_d := Lib.hid (R_d.out.below S)
      have R_x1 := Lib.hid (rd_of (d := D_x1) hv ht.fit)
      clear hb S hv c0_d c1_d c2_d d0_d d1_d d2_d l_d
      have T_x1 := Lib.hid ht
      clear ht
      obtain ⟨c0_d, c1_d, c2_d, d0_d, d1_d, d2_d⟩ := X_d.out.cells
      have l_d := X_d.out.lt
      go_wp2_with fail
      refine (HC_y1.out _ _ (HT.out.below (by have := B.out; have := B.out.size; go_grown)) (R_d.out.below (by go_grown))).mono ?_
      rintro r w12 ⟨⟨a_y1, n_y1, k_y1, rfl, hv, hb⟩, ht⟩
      have S : Below w11.heap.size w11 w12 := bl_thru (by go_grown) (Nat.le_refl _) hb
      replace B := Lib.hid (bl_thru B.out (Nat.le_refl _) S)
      replace X_d := Lib.hid (X_d.out.below S)
      have X_x1 := Lib.hid ((Box.new w11 _ _ _ _).below hb)
      replace R_d := Lib.hid (R_d.out.below S)
      replace R_x1 := Lib.hid (R_x1.out.below S)
      have R_y1 := Lib.hid (rd_of (d := D_y1) hv ht.fit)
      clear hb S hv c0_d c1_d c2_d d0_d d1_d d2_d l_d
      have T_y1 := Lib.hid ht
      clear ht
      cases k2 : ok2 E_x1 E_y1
      · clear T_x1 T_y1 hfw
        go_wp2_with (go_at_call 18; refine (ok_new2 _ _  _ _ (by simp)).mono ?_; rintro e w' ⟨rfl, rfl⟩)
        go_roundw
        case rel => exact ⟨2, by omega, by go_num, Lib.hid ((X_d.out.alloc _).alloc _), Lib.hid (R_d.out.below (by go_grown)), Lib.hid (by have := B.out; have := B.out.size; go_grown)⟩
        case measure => simp [intOf]
      · rcases hfw with hf | hf
        · clear T_x1 T_y1
          go_wp2_with (go_at_call 18; refine (ok_new2 _ _  _ _ (by simp)).mono ?_; rintro e w' ⟨rfl, rfl⟩)
          go_roundw
          case rel => exact ⟨2, by omega, by go_num, Lib.hid ((X_d.out.alloc _).alloc _), Lib.hid (R_d.out.below (by go_grown)), Lib.hid (by have := B.out; have := B.out.size; go_grown)⟩
          case measure => simp [intOf]
        · obtain ⟨⟨f0, f1⟩, g1, g2, g3, g4, g5⟩ := L1.out k2 hf T_x1.out T_y1.out
          have HC_s := Lib.hid (fun v1 v2 w' h0 h1 h2 => add_fit g1 v1 v2 w' h0 h1 h2)
          have F_s := Lib.hid g1
          have SF := Lib.hid g5
          have HC_m := Lib.hid (fun v1 v2 w' h0 h1 h2 => cmp_00 D_x1 (plus D_y1 ⟨false, 1, -fw⟩) v1 v2 w' h0 h1 h2)
          have N1 := Lib.hid (fun v1 v2 w' h0 h1 h2 => nm_true g3 v1 v2 w' h0 h1 h2)
          have hz : Hid (n_y1 = 0 ∨ -fw ≤ D_y1.e) := Lib.hid (g4.imp (fun h => rd_zero R_y1.out h) id)
          clear g1 g3 g4 g5 T_x1 T_y1 L0 L1
          generalize cmp D_x1 (plus D_y1 ⟨false, 1, -fw⟩) = M at *
          generalize plus D_y1 ⟨false, 1, -fw⟩ = D_s at *
          go_wp2_with (go_at_call 18; refine (ok_new2 _ _  _ _ (by simp)).mono ?_; rintro e w' ⟨rfl, rfl⟩)
          refine (HC_s.out _ _ _ (HT.out.below (by have := B.out; have := B.out.size; go_grown)) (R_y1.out.below (by go_grown)) (rd_of (d := ⟨false, 1, -fw⟩) (nv_uno _ _ 1 _ (by simp) (by decide) (by decide)) SF.out)).mono ?_
          rintro r w13 ⟨a_s, n_s, k_s, rfl, hv, hb⟩
          have S : Below w12.heap.size w12 w13 := bl_thru (by go_grown) (Nat.le_refl _) hb
          replace B := Lib.hid (bl_thru B.out (Nat.le_refl _) S)
          replace X_d := Lib.hid (X_d.out.below S)
          replace X_x1 := Lib.hid (X_x1.out.below S)
          have X_y1 := Lib.hid ((((Box.new w12 _ _ _ _).alloc _).alloc _).below hb)
          replace R_d := Lib.hid (R_d.out.below S)
          replace R_x1 := Lib.hid (R_x1.out.below S)
          replace R_y1 := Lib.hid (R_y1.out.below S)
          have R_s := Lib.hid (rd_of (d := D_s) hv F_s.out)
          clear hb S hv
          obtain ⟨c0_x1, c1_x1, c2_x1, d0_x1, d1_x1, d2_x1⟩ := X_x1.out.cells
          have l_x1 := X_x1.out.lt
          go_wp2_with fail
          refine (HC_m.out _ _ _ (HT.out.below (by have := B.out; have := B.out.size; go_grown)) (R_x1.out.below (by go_grown)) (R_s.out.below (by go_grown))).mono ?_
          rintro r w14 ⟨rfl, hb⟩
          have S : Below w13.heap.size w13 w14 := bl_thru (by go_grown) (Nat.le_refl _) hb
          replace B := Lib.hid (bl_thru B.out (Nat.le_refl _) S)
          replace X_d := Lib.hid (X_d.out.below S)
          replace X_x1 := Lib.hid (X_x1.out.below S)
          replace X_y1 := Lib.hid (X_y1.out.below S)
          replace R_d := Lib.hid (R_d.out.below S)
          replace R_x1 := Lib.hid (R_x1.out.below S)
          replace R_y1 := Lib.hid (R_y1.out.below S)
          clear R_s
          clear hb S c0_x1 c1_x1 c2_x1 d0_x1 d1_x1 d2_x1 l_x1
          obtain ⟨c0_y1, c1_y1, c2_y1, d0_y1, d1_y1, d2_y1⟩ := X_y1.out.cells
          have l_y1 := X_y1.out.lt
          obtain ⟨c0_x1, c1_x1, c2_x1, d0_x1, d1_x1, d2_x1⟩ := X_x1.out.cells
          have l_x1 := X_x1.out.lt
          go_wp2_with (go_at_call 18; refine (ok_new2 _ _  _ _ rfl).mono ?_; rintro e w' ⟨rfl, rfl⟩)
          refine (N1.out _ _ _ (HT.out.below (by have := B.out; have := B.out.size; go_grown)) (R_y1.out.below (by go_grown)) (R_x1.out.below (by go_grown))).mono ?_
          rintro r w15 ⟨rfl, hb⟩
          have S : Below w14.heap.size w14 w15 := bl_thru (by go_grown) (Nat.le_refl _) hb
          replace B := Lib.hid (bl_thru B.out (Nat.le_refl _) S)
          replace X_d := Lib.hid (X_d.out.below S)
          clear X_x1
          replace X_y1 := Lib.hid (X_y1.out.below S)
          replace R_d := Lib.hid (R_d.out.below S)
          clear R_x1
          replace R_y1 := Lib.hid (R_y1.out.below S)
          clear hb S c0_y1 c1_y1 c2_y1 d0_y1 d1_y1 d2_y1 l_y1 c0_x1 c1_x1 c2_x1 d0_x1 d1_x1 d2_x1 l_x1
          obtain ⟨c0_y1, c1_y1, c2_y1, d0_y1, d1_y1, d2_y1⟩ := X_y1.out.cells
          have l_y1 := X_y1.out.lt
          have hz' := hz.out
          clear hz
          have hn : n_y1 = 0 ∨ (0 < n_y1 ∧ -fw ≤ D_y1.e) := by omega
          clear hz'
          rcases hn with hn | ⟨hn, hn2⟩
          · subst hn
            go_wp2_with fail
            go_roundw
            case rel => exact ⟨2, by omega, by go_num, X_d, R_d, B⟩
            case measure => simp [intOf]
          · go_wp2_with fail
            go_roundw
            case rel => exact ⟨2, by omega, by go_num, X_d, R_d, B⟩
            case measure => simp [intOf]
    · clear j0 j1 L0 L1 HC_x0 HC_y0 HC_x1 HC_y1
      go_wp2_with fail
      refine (seriesLives_any _ (HT.out.below B.out)).mono ?_
      rintro r w11 ⟨rfl, hb⟩
      have S : Below wr.heap.size wr w11 := hb
      replace B := Lib.hid (bl_thru B.out (Nat.le_refl _) S)
      clear X_d
      clear R_d
      clear hb S
      go_wp2
      go_ret
      exact ⟨rfl, B.out⟩
end Go.Proofs.YtifadajkngncmaaDoor
