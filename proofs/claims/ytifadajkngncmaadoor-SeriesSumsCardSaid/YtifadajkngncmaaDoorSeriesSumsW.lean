/-
  THE WALK of the law SeriesSums.
-/
import Derived.Test.YtifadajkngncmaaDoorPds
set_option linter.unusedVariables false
set_option linter.unusedSimpArgs false
namespace Go.Proofs.YtifadajkngncmaaDoor
open Go.RowKit Nt Fm
open Ea (IsFl IsLg)

set_option maxRecDepth 100000 in
set_option maxHeartbeats 16000000 in
theorem walkSeriesSums (vc : Value) (cc : Int) (c : D) (vd : Value) (cd : Int) (d : D) (pl : Int) (pl0 : -9223372036854775808 ≤ pl) (pl1 : pl ≤ 9223372036854775807) (w : World) (hT : Tab w) (rc : RD w vc cc c) (rd : RD w vd cd d) :
    Calls Tryd.prog 6 #[vc, vd, .int .i64 pl] w fun e w' => e = .returned (.bool true) ∧ Below w.heap.size w w' := by
  obtain ⟨E_x, D_x, hE_x, hD_x⟩ : ∃ E D, E = slgE cc c (pl) ∧ D = slgR cc c (pl) := ⟨_, _, rfl, rfl⟩
  have HC_x := Lib.hid (fun v w' ht hr => by
    have := slogT v cc (pl) c w' ht hr pl0 pl1
    rw [← hE_x, ← hD_x] at this; exact this)
  obtain ⟨E_y, D_y, hE_y, hD_y⟩ : ∃ E D, E = slgE cd d (pl) ∧ D = slgR cd d (pl) := ⟨_, _, rfl, rfl⟩
  have HC_y := Lib.hid (fun v w' ht hr => by
    have := slogT v cd (pl) d w' ht hr pl0 pl1
    rw [← hE_y, ← hD_y] at this; exact this)
  obtain ⟨E_p, D_p, hE_p, hD_p⟩ : ∃ E D, E = opE cc cd (times c d) ∧ D = opR cc cd (times c d) := ⟨_, _, rfl, rfl⟩
  have HC_p := Lib.hid (fun v1 v2 w' h0 h1 h2 => by
    have := mul_any v1 v2 cc cd c d w' h0 h1 h2
    rw [← hE_p, ← hD_p] at this; exact this)
  have F_p : Hid (Fit D_p) := Lib.hid (by rw [hD_p]; exact opR_fit (times_nf _ _))
  obtain ⟨E_z, D_z, hE_z, hD_z⟩ : ∃ E D, E = slgE 0 D_p (pl) ∧ D = slgR 0 D_p (pl) := ⟨_, _, rfl, rfl⟩
  have HC_z := Lib.hid (fun v w' ht hr => by
    have := slogT v 0 (pl) D_p w' ht hr pl0 pl1
    rw [← hE_z, ← hD_z] at this; exact this)
  have LAW : Hid (ok4 E_x E_y E_p E_z = true → Tel (IsLg (rv c)) E_x D_x pl → Tel (IsLg (rv d)) E_y D_y pl → Tel (IsLg (rv D_p)) E_z D_z pl → (0 ≤ pl ∧ pl ≤ 1300) ∧ Fit (plus D_x D_y) ∧ Fit (plus (plus D_x D_y) ⟨false, 1, 1 - pl⟩) ∧ Fit (⟨false, 1, 1 - pl⟩ : D) ∧ cmp (plus D_x D_y) D_z ≤ 0 ∧ cmp D_z (plus (plus D_x D_y) ⟨false, 1, 1 - pl⟩) ≤ 0) := Lib.hid (fun k tx ty tz => by
    obtain ⟨q1, q2, q3, q4⟩ := ok4_all k
    have a1 := slgE_zero (hE_x.symm.trans q1)
    have a2 := slgE_zero (hE_y.symm.trans q2)
    refine ⟨⟨a1.2.1, a1.2.2.1⟩, sums_law (slg_pos (hE_x.symm.trans q1)) (slg_pos (hE_y.symm.trans q2)) tx ty tz q1 q2 q4 ?_⟩
    rw [hD_p]
    rw [hE_p, a1.1, a2.1] at q3
    rw [a1.1, a2.1]
    exact opE_00 q3)
  have k2 := ok2_mk
  clear hE_x hD_x hE_y hD_y hE_p hD_p hE_z hD_z
  have R_c := Lib.hid rc
  have R_d := Lib.hid rd
  have HT := Lib.hid hT
  clear hT
  obtain ⟨gc, ac, nc, pc, xc, rfl, -⟩ := rc
  obtain ⟨gd, ad, nd, pd, xd, rfl, -⟩ := rd
  go_enter Tryd.func6, Tryd.ntmps6
  go_wp2_with fail
  refine (HC_x.out _ _ (HT.out.below (by go_grown)) (R_c.out.below (by go_grown))).mono ?_
  rintro r w1 ⟨⟨a_x, n_x, k_x, rfl, hv, hb⟩, ht⟩
  have S : Below w.heap.size w w1 := bl_thru (by go_grown) (Nat.le_refl _) hb
  have B := Lib.hid S
  have X_c := Lib.hid (((Box.new w _ _ _ _).alloc _).below hb)
  have X_d := Lib.hid ((Box.new2 w _ _ _ _ _).below hb)
  replace R_c := Lib.hid (R_c.out.below S)
  replace R_d := Lib.hid (R_d.out.below S)
  have R_x := Lib.hid (rd_of (d := D_x) hv ht.fit)
  clear hb S hv
  have T_x := Lib.hid ht
  clear ht
  obtain ⟨c0_d, c1_d, c2_d, d0_d, d1_d, d2_d⟩ := X_d.out.cells
  have l_d := X_d.out.lt
  go_wp2_with fail
  refine (HC_y.out _ _ (HT.out.below (by have := B.out; have := B.out.size; go_grown)) (R_d.out.below (by go_grown))).mono ?_
  rintro r w2 ⟨⟨a_y, n_y, k_y, rfl, hv, hb⟩, ht⟩
  have S : Below w1.heap.size w1 w2 := bl_thru (by go_grown) (Nat.le_refl _) hb
  replace B := Lib.hid (bl_thru B.out (Nat.le_refl _) S)
  replace X_c := Lib.hid (X_c.out.below S)
  replace X_d := Lib.hid (X_d.out.below S)
  have X_x := Lib.hid ((Box.new w1 _ _ _ _).below hb)
  replace R_c := Lib.hid (R_c.out.below S)
  replace R_d := Lib.hid (R_d.out.below S)
  replace R_x := Lib.hid (R_x.out.below S)
  have R_y := Lib.hid (rd_of (d := D_y) hv ht.fit)
  clear hb S hv c0_d c1_d c2_d d0_d d1_d d2_d l_d
  have T_y := Lib.hid ht
  clear ht
  obtain ⟨c0_c, c1_c, c2_c, d0_c, d1_c, d2_c⟩ := X_c.out.cells
  have l_c := X_c.out.lt
  obtain ⟨c0_d, c1_d, c2_d, d0_d, d1_d, d2_d⟩ := X_d.out.cells
  have l_d := X_d.out.lt
  go_wp2_with fail
  refine (HC_p.out _ _ _ (HT.out.below (by have := B.out; have := B.out.size; go_grown)) (R_c.out.below (by go_grown)) (R_d.out.below (by go_grown))).mono ?_
  rintro r w3 ⟨a_p, n_p, k_p, rfl, hv, hb⟩
  have S : Below w2.heap.size w2 w3 := bl_thru (by go_grown) (Nat.le_refl _) hb
  replace B := Lib.hid (bl_thru B.out (Nat.le_refl _) S)
  clear X_c
  clear X_d
  replace X_x := Lib.hid (X_x.out.below S)
  have X_y := Lib.hid ((Box.new w2 _ _ _ _).below hb)
  clear R_c
  clear R_d
  replace R_x := Lib.hid (R_x.out.below S)
  replace R_y := Lib.hid (R_y.out.below S)
  have R_p := Lib.hid (rd_of (d := D_p) hv F_p.out)
  clear hb S hv c0_c c1_c c2_c d0_c d1_c d2_c l_c c0_d c1_d c2_d d0_d d1_d d2_d l_d
  go_wp2_with fail
  refine (HC_z.out _ _ (HT.out.below (by have := B.out; have := B.out.size; go_grown)) (R_p.out.below (by go_grown))).mono ?_
  rintro r w4 ⟨⟨a_z, n_z, k_z, rfl, hv, hb⟩, ht⟩
  have S : Below w3.heap.size w3 w4 := bl_thru (by go_grown) (Nat.le_refl _) hb
  replace B := Lib.hid (bl_thru B.out (Nat.le_refl _) S)
  replace X_x := Lib.hid (X_x.out.below S)
  replace X_y := Lib.hid (X_y.out.below S)
  replace R_x := Lib.hid (R_x.out.below S)
  replace R_y := Lib.hid (R_y.out.below S)
  clear R_p
  have R_z := Lib.hid (rd_of (d := D_z) hv ht.fit)
  clear hb S hv
  have T_z := Lib.hid ht
  clear ht
  go_wp2_with fail
  refine (seriesLives_any _ (HT.out.below (by have := B.out; have := B.out.size; go_grown))).mono ?_
  rintro r w5 ⟨rfl, hb⟩
  have S : Below w4.heap.size w4 w5 := bl_thru (by go_grown) (Nat.le_refl _) hb
  replace B := Lib.hid (bl_thru B.out (Nat.le_refl _) S)
  replace X_x := Lib.hid (X_x.out.below S)
  replace X_y := Lib.hid (X_y.out.below S)
  have X_z := Lib.hid ((Box.new w4 _ _ _ _).below hb)
  replace R_x := Lib.hid (R_x.out.below S)
  replace R_y := Lib.hid (R_y.out.below S)
  replace R_z := Lib.hid (R_z.out.below S)
  clear hb S
  cases k4 : ok4 E_x E_y E_p E_z
  · clear LAW T_x T_y T_z
    go_wp2_with (go_at_call 18; refine (ok_new4 _ _ _ _  _ _ rfl).mono ?_; rintro e w' ⟨rfl, rfl⟩)
    refine (seriesLives_any _ (HT.out.below (by have := B.out; have := B.out.size; go_grown))).mono ?_
    rintro r w6 ⟨rfl, hb⟩
    have S : Below w5.heap.size w5 w6 := bl_thru (by go_grown) (Nat.le_refl _) hb
    replace B := Lib.hid (bl_thru B.out (Nat.le_refl _) S)
    clear X_x
    clear X_y
    clear X_z
    clear R_x
    clear R_y
    clear R_z
    clear hb S
    go_wp2
    go_ret
    exact ⟨rfl, B.out⟩
  · obtain ⟨⟨p0, p1⟩, f1, f2, f3, n1, n2⟩ := LAW.out k4 T_x.out T_y.out T_z.out
    have HC_s := Lib.hid (fun v1 v2 w' h0 h1 h2 => add_fit f1 v1 v2 w' h0 h1 h2)
    have F_s := Lib.hid f1
    have HC_m := Lib.hid (fun v1 v2 w' h0 h1 h2 => add_fit f2 v1 v2 w' h0 h1 h2)
    have F_m := Lib.hid f2
    have SF := Lib.hid f3
    have N1 := Lib.hid (fun v1 v2 w' h0 h1 h2 => nm_true n1 v1 v2 w' h0 h1 h2)
    have N2 := Lib.hid (fun v1 v2 w' h0 h1 h2 => nm_true n2 v1 v2 w' h0 h1 h2)
    clear f1 f2 f3 n1 n2 LAW T_x T_y T_z
    generalize plus (plus D_x D_y) ⟨false, 1, 1 - pl⟩ = D_m at *
    generalize plus D_x D_y = D_s at *
    obtain ⟨c0_x, c1_x, c2_x, d0_x, d1_x, d2_x⟩ := X_x.out.cells
    have l_x := X_x.out.lt
    obtain ⟨c0_y, c1_y, c2_y, d0_y, d1_y, d2_y⟩ := X_y.out.cells
    have l_y := X_y.out.lt
    go_wp2_with (go_at_call 18; refine (ok_new4 _ _ _ _  _ _ rfl).mono ?_; rintro e w' ⟨rfl, rfl⟩)
    refine (HC_s.out _ _ _ (HT.out.below (by have := B.out; have := B.out.size; go_grown)) (R_x.out.below (by go_grown)) (R_y.out.below (by go_grown))).mono ?_
    rintro r w6 ⟨a_s, n_s, k_s, rfl, hv, hb⟩
    have S : Below w5.heap.size w5 w6 := bl_thru (by go_grown) (Nat.le_refl _) hb
    replace B := Lib.hid (bl_thru B.out (Nat.le_refl _) S)
    clear X_x
    clear X_y
    replace X_z := Lib.hid (X_z.out.below S)
    clear R_x
    clear R_y
    replace R_z := Lib.hid (R_z.out.below S)
    have R_s := Lib.hid (rd_of (d := D_s) hv F_s.out)
    clear hb S hv c0_x c1_x c2_x d0_x d1_x d2_x l_x c0_y c1_y c2_y d0_y d1_y d2_y l_y
    go_wp2_with fail
    refine (HC_m.out _ _ _ (HT.out.below (by have := B.out; have := B.out.size; go_grown)) (R_s.out.below (by go_grown)) (rd_of (d := ⟨false, 1, 1 - pl⟩) (nv_uno _ _ 1 _ (by simp) (by decide) (by decide)) SF.out)).mono ?_
    rintro r w7 ⟨a_m, n_m, k_m, rfl, hv, hb⟩
    have S : Below w6.heap.size w6 w7 := bl_thru (by go_grown) (Nat.le_refl _) hb
    replace B := Lib.hid (bl_thru B.out (Nat.le_refl _) S)
    replace X_z := Lib.hid (X_z.out.below S)
    have X_s := Lib.hid (((Box.new w6 _ _ _ _).alloc _).below hb)
    replace R_z := Lib.hid (R_z.out.below S)
    replace R_s := Lib.hid (R_s.out.below S)
    have R_m := Lib.hid (rd_of (d := D_m) hv F_m.out)
    clear hb S hv
    obtain ⟨c0_s, c1_s, c2_s, d0_s, d1_s, d2_s⟩ := X_s.out.cells
    have l_s := X_s.out.lt
    obtain ⟨c0_z, c1_z, c2_z, d0_z, d1_z, d2_z⟩ := X_z.out.cells
    have l_z := X_z.out.lt
    go_wp2_with (go_at_call 18; refine (ok_new2 _ _  _ _ (by simp)).mono ?_; rintro e w' ⟨rfl, rfl⟩)
    refine (N1.out _ _ _ (HT.out.below (by have := B.out; have := B.out.size; go_grown)) (R_s.out.below (by go_grown)) (R_z.out.below (by go_grown))).mono ?_
    rintro r w8 ⟨rfl, hb⟩
    have S : Below w7.heap.size w7 w8 := bl_thru (by go_grown) (Nat.le_refl _) hb
    replace B := Lib.hid (bl_thru B.out (Nat.le_refl _) S)
    replace X_z := Lib.hid (X_z.out.below S)
    clear X_s
    have X_m := Lib.hid (((Box.new w7 _ _ _ _).alloc _).below hb)
    replace R_z := Lib.hid (R_z.out.below S)
    clear R_s
    replace R_m := Lib.hid (R_m.out.below S)
    clear hb S c0_s c1_s c2_s d0_s d1_s d2_s l_s c0_z c1_z c2_z d0_z d1_z d2_z l_z
    obtain ⟨c0_z, c1_z, c2_z, d0_z, d1_z, d2_z⟩ := X_z.out.cells
    have l_z := X_z.out.lt
    obtain ⟨c0_m, c1_m, c2_m, d0_m, d1_m, d2_m⟩ := X_m.out.cells
    have l_m := X_m.out.lt
    go_wp2_with fail
    refine (N2.out _ _ _ (HT.out.below B.out) R_z.out R_m.out).mono ?_
    rintro r w9 ⟨rfl, hb⟩
    have S : Below w8.heap.size w8 w9 := hb
    replace B := Lib.hid (bl_thru B.out (Nat.le_refl _) S)
    clear X_z
    clear X_m
    clear R_z
    clear R_m
    clear hb S c0_z c1_z c2_z d0_z d1_z d2_z l_z c0_m c1_m c2_m d0_m d1_m d2_m l_m
    go_wp2
    go_ret
    exact ⟨rfl, B.out⟩
end Go.Proofs.YtifadajkngncmaaDoor
