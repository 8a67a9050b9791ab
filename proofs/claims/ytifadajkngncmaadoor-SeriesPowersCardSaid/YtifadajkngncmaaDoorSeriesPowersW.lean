/-
  THE WALK of the law SeriesPowers.
-/
import Derived.Test.YtifadajkngncmaaDoorPds
set_option linter.unusedVariables false
set_option linter.unusedSimpArgs false
namespace Go.Proofs.YtifadajkngncmaaDoor
open Go.RowKit Nt Fm
open Ea (IsFl IsLg)

set_option maxRecDepth 100000 in
set_option maxHeartbeats 16000000 in
theorem walkSeriesPowers (vc : Value) (cc : Int) (c : D) (vd : Value) (cd : Int) (d : D) (pl : Int) (pl0 : -9223372036854775808 ≤ pl) (pl1 : pl ≤ 9223372036854775807) (w : World) (hT : Tab w) (rc : RD w vc cc c) (rd : RD w vd cd d) :
    Calls Tryd.prog 7 #[vc, vd, .int .i64 pl] w fun e w' => e = .returned (.bool true) ∧ Below w.heap.size w w' := by
  obtain ⟨E_x, D_x, hE_x, hD_x⟩ : ∃ E D, E = sexE cc c (pl) ∧ D = sexR cc c (pl) := ⟨_, _, rfl, rfl⟩
  have HC_x := Lib.hid (fun v w' ht hr => by
    have := sexpT v cc (pl) c w' ht hr pl0 pl1
    rw [← hE_x, ← hD_x] at this; exact this)
  obtain ⟨E_y, D_y, hE_y, hD_y⟩ : ∃ E D, E = sexE cd d (pl) ∧ D = sexR cd d (pl) := ⟨_, _, rfl, rfl⟩
  have HC_y := Lib.hid (fun v w' ht hr => by
    have := sexpT v cd (pl) d w' ht hr pl0 pl1
    rw [← hE_y, ← hD_y] at this; exact this)
  obtain ⟨E_s, D_s, hE_s, hD_s⟩ : ∃ E D, E = opE cc cd (plus c d) ∧ D = opR cc cd (plus c d) := ⟨_, _, rfl, rfl⟩
  have HC_s := Lib.hid (fun v1 v2 w' h0 h1 h2 => by
    have := add_any v1 v2 cc cd c d w' h0 h1 h2
    rw [← hE_s, ← hD_s] at this; exact this)
  have F_s : Hid (Fit D_s) := Lib.hid (by rw [hD_s]; exact opR_fit (plus_nf _ _))
  obtain ⟨E_z, D_z, hE_z, hD_z⟩ : ∃ E D, E = sexE 0 D_s (pl) ∧ D = sexR 0 D_s (pl) := ⟨_, _, rfl, rfl⟩
  have HC_z := Lib.hid (fun v w' ht hr => by
    have := sexpT v 0 (pl) D_s w' ht hr pl0 pl1
    rw [← hE_z, ← hD_z] at this; exact this)
  have LAW : Hid (ok4 E_x E_y E_s E_z = true → Tel (IsFl (rv c)) E_x D_x pl → Tel (IsFl (rv d)) E_y D_y pl → Tel (IsFl (rv D_s)) E_z D_z pl → (0 ≤ pl ∧ pl ≤ 1300) ∧
      Fit (⟨false, 1, -pl⟩ : D) ∧ Fit (times D_x D_y) ∧ Fit (plus D_z ⟨false, 1, -pl⟩) ∧ Fit (plus D_x ⟨false, 1, -pl⟩) ∧ Fit (plus D_y ⟨false, 1, -pl⟩) ∧ Fit (times (plus D_x ⟨false, 1, -pl⟩) (plus D_y ⟨false, 1, -pl⟩)) ∧
      cmp (times D_x D_y) (plus D_z ⟨false, 1, -pl⟩) ≤ 0 ∧ cmp D_z (times (plus D_x ⟨false, 1, -pl⟩) (plus D_y ⟨false, 1, -pl⟩)) ≤ 0) := Lib.hid (fun k tx ty tz => by
    obtain ⟨q1, q2, q3, q4⟩ := ok4_all k
    have a1 := sexE_zero (hE_x.symm.trans q1)
    have a2 := sexE_zero (hE_y.symm.trans q2)
    refine ⟨⟨a1.2.1, a1.2.2.1⟩, powers_law tx ty tz q1 q2 q4 ?_⟩
    rw [hD_s]
    rw [hE_s, a1.1, a2.1] at q3
    rw [a1.1, a2.1]
    exact opE_00 q3)
  have k5 := ok5_mk
  clear hE_x hD_x hE_y hD_y hE_s hD_s hE_z hD_z
  have R_c := Lib.hid rc
  have R_d := Lib.hid rd
  have HT := Lib.hid hT
  clear hT
  obtain ⟨gc, ac, nc, pc, xc, rfl, -⟩ := rc
  obtain ⟨gd, ad, nd, pd, xd, rfl, -⟩ := rd
  go_enter Tryd.func7, Tryd.ntmps7
  go_wp2_with fail
  refine (HC_x.out _ _ (HT.out.below (by go_grown)) (R_c.out.below (by go_grown))).mono ?_
  rintro r w1 ⟨⟨a_x, n_x, k_x, rfl, hv, hb⟩, ht⟩
  have S : Below w.heap.size w w1 := bl_thru (by go_grown) (Nat.le_refl _) hb
  have B := Lib.hid S
  have X_c := Lib.hid (((Box.new w _ _ _ _).alloc _).below hb)
  have X_d := Lib.hid ((Box.new2 w _ _ _ _ _).below hb)
  replace R_c := Lib.hid (R_c.out.below S)
  replace R_d := Lib.hid (R_d.out.below S)
  have R_x := Lib.hid (rd_of (d := D_x) hv ht.fit)
  clear hb S hv
  have T_x := Lib.hid ht
  clear ht
  obtain ⟨c0_d, c1_d, c2_d, d0_d, d1_d, d2_d⟩ := X_d.out.cells
  have l_d := X_d.out.lt
  go_wp2_with fail
  refine (HC_y.out _ _ (HT.out.below (by have := B.out; have := B.out.size; go_grown)) (R_d.out.below (by go_grown))).mono ?_
  rintro r w2 ⟨⟨a_y, n_y, k_y, rfl, hv, hb⟩, ht⟩
  have S : Below w1.heap.size w1 w2 := bl_thru (by go_grown) (Nat.le_refl _) hb
  replace B := Lib.hid (bl_thru B.out (Nat.le_refl _) S)
  replace X_c := Lib.hid (X_c.out.below S)
  replace X_d := Lib.hid (X_d.out.below S)
  have X_x := Lib.hid ((Box.new w1 _ _ _ _).below hb)
  replace R_c := Lib.hid (R_c.out.below S)
  replace R_d := Lib.hid (R_d.out.below S)
  replace R_x := Lib.hid (R_x.out.below S)
  have R_y := Lib.hid (rd_of (d := D_y) hv ht.fit)
  clear hb S hv c0_d c1_d c2_d d0_d d1_d d2_d l_d
  have T_y := Lib.hid ht
  clear ht
  obtain ⟨c0_c, c1_c, c2_c, d0_c, d1_c, d2_c⟩ := X_c.out.cells
  have l_c := X_c.out.lt
  obtain ⟨c0_d, c1_d, c2_d, d0_d, d1_d, d2_d⟩ := X_d.out.cells
  have l_d := X_d.out.lt
  go_wp2_with fail
  refine (HC_s.out _ _ _ (HT.out.below (by have := B.out; have := B.out.size; go_grown)) (R_c.out.below (by go_grown)) (R_d.out.below (by go_grown))).mono ?_
  rintro r w3 ⟨a_s, n_s, k_s, rfl, hv, hb⟩
  have S : Below w2.heap.size w2 w3 := bl_thru (by go_grown) (Nat.le_refl _) hb
  replace B := Lib.hid (bl_thru B.out (Nat.le_refl _) S)
  clear X_c
  clear X_d
  replace X_x := Lib.hid (X_x.out.below S)
  have X_y := Lib.hid ((Box.new w2 _ _ _ _).below hb)
  clear R_c
  clear R_d
  replace R_x := Lib.hid (R_x.out.below S)
  replace R_y := Lib.hid (R_y.out.below S)
  have R_s := Lib.hid (rd_of (d := D_s) hv F_s.out)
  clear hb S hv c0_c c1_c c2_c d0_c d1_c d2_c l_c c0_d c1_d c2_d d0_d d1_d d2_d l_d
  go_wp2_with fail
  refine (HC_z.out _ _ (HT.out.below (by have := B.out; have := B.out.size; go_grown)) (R_s.out.below (by go_grown))).mono ?_
  rintro r w4 ⟨⟨a_z, n_z, k_z, rfl, hv, hb⟩, ht⟩
  have S : Below w3.heap.size w3 w4 := bl_thru (by go_grown) (Nat.le_refl _) hb
  replace B := Lib.hid (bl_thru B.out (Nat.le_refl _) S)
  replace X_x := Lib.hid (X_x.out.below S)
  replace X_y := Lib.hid (X_y.out.below S)
  replace R_x := Lib.hid (R_x.out.below S)
  replace R_y := Lib.hid (R_y.out.below S)
  clear R_s
  have R_z := Lib.hid (rd_of (d := D_z) hv ht.fit)
  clear hb S hv
  have T_z := Lib.hid ht
  clear ht
  go_wp2_with fail
  refine (seriesLives_any _ (HT.out.below (by have := B.out; have := B.out.size; go_grown))).mono ?_
  rintro r w5 ⟨rfl, hb⟩
  have S : Below w4.heap.size w4 w5 := bl_thru (by go_grown) (Nat.le_refl _) hb
  replace B := Lib.hid (bl_thru B.out (Nat.le_refl _) S)
  replace X_x := Lib.hid (X_x.out.below S)
  replace X_y := Lib.hid (X_y.out.below S)
  have X_z := Lib.hid ((Box.new w4 _ _ _ _).below hb)
  replace R_x := Lib.hid (R_x.out.below S)
  replace R_y := Lib.hid (R_y.out.below S)
  replace R_z := Lib.hid (R_z.out.below S)
  clear hb S
  cases k4 : ok4 E_x E_y E_s E_z
  · clear LAW T_x T_y T_z
    go_wp2_with (go_at_call 18; refine (ok_new4 _ _ _ _  _ _ rfl).mono ?_; rintro e w' ⟨rfl, rfl⟩)
    refine (seriesLives_any _ (HT.out.below (by have := B.out; have := B.out.size; go_grown))).mono ?_
    rintro r w6 ⟨rfl, hb⟩
    have S : Below w5.heap.size w5 w6 := bl_thru (by go_grown) (Nat.le_refl _) hb
    replace B := Lib.hid (bl_thru B.out (Nat.le_refl _) S)
    clear X_x
    clear X_y
    clear X_z
    clear R_x
    clear R_y
    clear R_z
    clear hb S
    go_wp2
    go_ret
    exact ⟨rfl, B.out⟩
  · obtain ⟨⟨p0, p1⟩, f0, f1, f2, f3, f4, f5, n1, n2⟩ := LAW.out k4 T_x.out T_y.out T_z.out
    have HC_p := Lib.hid (fun v1 v2 w' h0 h1 h2 => mul_fit f1 v1 v2 w' h0 h1 h2)
    have F_p := Lib.hid f1
    have HC_v := Lib.hid (fun v1 v2 w' h0 h1 h2 => add_fit f2 v1 v2 w' h0 h1 h2)
    have F_v := Lib.hid f2
    have HC_a := Lib.hid (fun v1 v2 w' h0 h1 h2 => add_fit f3 v1 v2 w' h0 h1 h2)
    have F_a := Lib.hid f3
    have HC_b := Lib.hid (fun v1 v2 w' h0 h1 h2 => add_fit f4 v1 v2 w' h0 h1 h2)
    have F_b := Lib.hid f4
    have HC_q := Lib.hid (fun v1 v2 w' h0 h1 h2 => mul_fit f5 v1 v2 w' h0 h1 h2)
    have F_q := Lib.hid f5
    have F_t := Lib.hid f0
    have N1 := Lib.hid (fun v1 v2 w' h0 h1 h2 => nm_true n1 v1 v2 w' h0 h1 h2)
    have N2 := Lib.hid (fun v1 v2 w' h0 h1 h2 => nm_true n2 v1 v2 w' h0 h1 h2)
    clear f0 f1 f2 f3 f4 f5 n1 n2 LAW T_x T_y T_z
    generalize times (plus D_x ⟨false, 1, -pl⟩) (plus D_y ⟨false, 1, -pl⟩) = D_q at *
    generalize plus D_x ⟨false, 1, -pl⟩ = D_a at *
    generalize plus D_y ⟨false, 1, -pl⟩ = D_b at *
    generalize plus D_z ⟨false, 1, -pl⟩ = D_v at *
    generalize times D_x D_y = D_p at *
    obtain ⟨c0_x, c1_x, c2_x, d0_x, d1_x, d2_x⟩ := X_x.out.cells
    have l_x := X_x.out.lt
    obtain ⟨c0_y, c1_y, c2_y, d0_y, d1_y, d2_y⟩ := X_y.out.cells
    have l_y := X_y.out.lt
    have m_x := Nat.lt_succ_of_lt l_x
    have n9_x := Nat.lt_succ_of_lt m_x
    have o9_x := Nat.ne_of_lt l_x
    have p9_x := Nat.ne_of_lt m_x
    have q9_x := Nat.ne_of_lt n9_x
    have m_y := Nat.lt_succ_of_lt l_y
    have n9_y := Nat.lt_succ_of_lt m_y
    have o9_y := Nat.ne_of_lt l_y
    have p9_y := Nat.ne_of_lt m_y
    have q9_y := Nat.ne_of_lt n9_y
    go_wp2_with (go_at_call 18; refine (ok_new4 _ _ _ _  _ _ rfl).mono ?_; rintro e w' ⟨rfl, rfl⟩)
    refine (HC_p.out _ _ _ (HT.out.below (by have := B.out; have := B.out.size; go_grown)) (R_x.out.below (by go_grown)) (R_y.out.below (by go_grown))).mono ?_
    rintro r w6 ⟨a_p, n_p, k_p, rfl, hv, hb⟩
    have S : Below w5.heap.size w5 w6 := bl_thru (by go_grown) (Nat.le_refl _) hb
    replace B := Lib.hid (bl_thru B.out (Nat.le_refl _) S)
    replace X_x := Lib.hid (X_x.out.below S)
    replace X_y := Lib.hid (X_y.out.below S)
    replace X_z := Lib.hid (X_z.out.below S)
    have X_t := Lib.hid ((Box.new3 w5 _ _ _ _ _ _).below hb)
    replace R_x := Lib.hid (R_x.out.below S)
    replace R_y := Lib.hid (R_y.out.below S)
    replace R_z := Lib.hid (R_z.out.below S)
    have R_t := Lib.hid (rd_of (d := ⟨false, 1, -pl⟩) (((nv_uno (w5.alloc _) (w5.heap.size + 1) 1 _ (size_alloc _ _).symm (by decide) (by decide)).alloc _).below hb) F_t.out)
    have R_p := Lib.hid (rd_of (d := D_p) hv F_p.out)
    clear hb S hv c0_x c1_x c2_x d0_x d1_x d2_x l_x c0_y c1_y c2_y d0_y d1_y d2_y l_y m_x n9_x o9_x p9_x q9_x m_y n9_y o9_y p9_y q9_y
    obtain ⟨c0_z, c1_z, c2_z, d0_z, d1_z, d2_z⟩ := X_z.out.cells
    have l_z := X_z.out.lt
    obtain ⟨c0_t, c1_t, c2_t, d0_t, d1_t, d2_t⟩ := X_t.out.cells
    have l_t := X_t.out.lt
    go_wp2_with fail
    refine (HC_v.out _ _ _ (HT.out.below (by have := B.out; have := B.out.size; go_grown)) (R_z.out.below (by go_grown)) (R_t.out.below (by go_grown))).mono ?_
    rintro r w7 ⟨a_v, n_v, k_v, rfl, hv, hb⟩
    have S : Below w6.heap.size w6 w7 := bl_thru (by go_grown) (Nat.le_refl _) hb
    replace B := Lib.hid (bl_thru B.out (Nat.le_refl _) S)
    replace X_x := Lib.hid (X_x.out.below S)
    replace X_y := Lib.hid (X_y.out.below S)
    replace X_z := Lib.hid (X_z.out.below S)
    replace X_t := Lib.hid (X_t.out.below S)
    have X_p := Lib.hid ((Box.new w6 _ _ _ _).below hb)
    replace R_x := Lib.hid (R_x.out.below S)
    replace R_y := Lib.hid (R_y.out.below S)
    replace R_z := Lib.hid (R_z.out.below S)
    replace R_p := Lib.hid (R_p.out.below S)
    replace R_t := Lib.hid (R_t.out.below S)
    have R_v := Lib.hid (rd_of (d := D_v) hv F_v.out)
    clear hb S hv c0_z c1_z c2_z d0_z d1_z d2_z l_z c0_t c1_t c2_t d0_t d1_t d2_t l_t
    obtain ⟨c0_x, c1_x, c2_x, d0_x, d1_x, d2_x⟩ := X_x.out.cells
    have l_x := X_x.out.lt
    obtain ⟨c0_t, c1_t, c2_t, d0_t, d1_t, d2_t⟩ := X_t.out.cells
    have l_t := X_t.out.lt
    go_wp2_with fail
    refine (HC_a.out _ _ _ (HT.out.below (by have := B.out; have := B.out.size; go_grown)) (R_x.out.below (by go_grown)) (R_t.out.below (by go_grown))).mono ?_
    rintro r w8 ⟨a_a, n_a, k_a, rfl, hv, hb⟩
    have S : Below w7.heap.size w7 w8 := bl_thru (by go_grown) (Nat.le_refl _) hb
    replace B := Lib.hid (bl_thru B.out (Nat.le_refl _) S)
    replace X_x := Lib.hid (X_x.out.below S)
    replace X_y := Lib.hid (X_y.out.below S)
    replace X_z := Lib.hid (X_z.out.below S)
    replace X_t := Lib.hid (X_t.out.below S)
    replace X_p := Lib.hid (X_p.out.below S)
    have X_v := Lib.hid ((Box.new w7 _ _ _ _).below hb)
    replace R_x := Lib.hid (R_x.out.below S)
    replace R_y := Lib.hid (R_y.out.below S)
    replace R_z := Lib.hid (R_z.out.below S)
    replace R_p := Lib.hid (R_p.out.below S)
    replace R_t := Lib.hid (R_t.out.below S)
    replace R_v := Lib.hid (R_v.out.below S)
    have R_a := Lib.hid (rd_of (d := D_a) hv F_a.out)
    clear hb S hv c0_x c1_x c2_x d0_x d1_x d2_x l_x c0_t c1_t c2_t d0_t d1_t d2_t l_t
    obtain ⟨c0_y, c1_y, c2_y, d0_y, d1_y, d2_y⟩ := X_y.out.cells
    have l_y := X_y.out.lt
    obtain ⟨c0_t, c1_t, c2_t, d0_t, d1_t, d2_t⟩ := X_t.out.cells
    have l_t := X_t.out.lt
    go_wp2_with fail
    refine (HC_b.out _ _ _ (HT.out.below (by have := B.out; have := B.out.size; go_grown)) (R_y.out.below (by go_grown)) (R_t.out.below (by go_grown))).mono ?_
    rintro r w9 ⟨a_b, n_b, k_b, rfl, hv, hb⟩
    have S : Below w8.heap.size w8 w9 := bl_thru (by go_grown) (Nat.le_refl _) hb
    replace B := Lib.hid (bl_thru B.out (Nat.le_refl _) S)
    replace X_x := Lib.hid (X_x.out.below S)
    replace X_y := Lib.hid (X_y.out.below S)
    replace X_z := Lib.hid (X_z.out.below S)
    replace X_t := Lib.hid (X_t.out.below S)
    replace X_p := Lib.hid (X_p.out.below S)
    replace X_v := Lib.hid (X_v.out.below S)
    have X_a := Lib.hid ((Box.new w8 _ _ _ _).below hb)
    replace R_x := Lib.hid (R_x.out.below S)
    replace R_y := Lib.hid (R_y.out.below S)
    replace R_z := Lib.hid (R_z.out.below S)
    replace R_p := Lib.hid (R_p.out.below S)
    replace R_t := Lib.hid (R_t.out.below S)
    replace R_v := Lib.hid (R_v.out.below S)
    replace R_a := Lib.hid (R_a.out.below S)
    have R_b := Lib.hid (rd_of (d := D_b) hv F_b.out)
    clear hb S hv c0_y c1_y c2_y d0_y d1_y d2_y l_y c0_t c1_t c2_t d0_t d1_t d2_t l_t
    obtain ⟨c0_a, c1_a, c2_a, d0_a, d1_a, d2_a⟩ := X_a.out.cells
    have l_a := X_a.out.lt
    go_wp2_with fail
    refine (HC_q.out _ _ _ (HT.out.below (by have := B.out; have := B.out.size; go_grown)) (R_a.out.below (by go_grown)) (R_b.out.below (by go_grown))).mono ?_
    rintro r w10 ⟨a_q, n_q, k_q, rfl, hv, hb⟩
    have S : Below w9.heap.size w9 w10 := bl_thru (by go_grown) (Nat.le_refl _) hb
    replace B := Lib.hid (bl_thru B.out (Nat.le_refl _) S)
    clear X_x
    clear X_y
    replace X_z := Lib.hid (X_z.out.below S)
    clear X_t
    replace X_p := Lib.hid (X_p.out.below S)
    replace X_v := Lib.hid (X_v.out.below S)
    clear X_a
    clear R_x
    clear R_y
    replace R_z := Lib.hid (R_z.out.below S)
    replace R_p := Lib.hid (R_p.out.below S)
    clear R_t
    replace R_v := Lib.hid (R_v.out.below S)
    clear R_a
    clear R_b
    have R_q := Lib.hid (rd_of (d := D_q) hv F_q.out)
    clear hb S hv c0_a c1_a c2_a d0_a d1_a d2_a l_a
    obtain ⟨c0_p, c1_p, c2_p, d0_p, d1_p, d2_p⟩ := X_p.out.cells
    have l_p := X_p.out.lt
    obtain ⟨c0_v, c1_v, c2_v, d0_v, d1_v, d2_v⟩ := X_v.out.cells
    have l_v := X_v.out.lt
    go_wp2_with (go_at_call 18; refine (ok_new5 _ _ _ _ _  _ _ (by simp)).mono ?_; rintro e w' ⟨rfl, rfl⟩)
    refine (N1.out _ _ _ (HT.out.below (by have := B.out; have := B.out.size; go_grown)) (R_p.out.below (by go_grown)) (R_v.out.below (by go_grown))).mono ?_
    rintro r w11 ⟨rfl, hb⟩
    have S : Below w10.heap.size w10 w11 := bl_thru (by go_grown) (Nat.le_refl _) hb
    replace B := Lib.hid (bl_thru B.out (Nat.le_refl _) S)
    replace X_z := Lib.hid (X_z.out.below S)
    clear X_p
    clear X_v
    have X_q := Lib.hid (((Box.new w10 _ _ _ _).alloc _).below hb)
    replace R_z := Lib.hid (R_z.out.below S)
    clear R_p
    clear R_v
    replace R_q := Lib.hid (R_q.out.below S)
    clear hb S c0_p c1_p c2_p d0_p d1_p d2_p l_p c0_v c1_v c2_v d0_v d1_v d2_v l_v
    obtain ⟨c0_z, c1_z, c2_z, d0_z, d1_z, d2_z⟩ := X_z.out.cells
    have l_z := X_z.out.lt
    obtain ⟨c0_q, c1_q, c2_q, d0_q, d1_q, d2_q⟩ := X_q.out.cells
    have l_q := X_q.out.lt
    go_wp2_with fail
    refine (N2.out _ _ _ (HT.out.below B.out) R_z.out R_q.out).mono ?_
    rintro r w12 ⟨rfl, hb⟩
    have S : Below w11.heap.size w11 w12 := hb
    replace B := Lib.hid (bl_thru B.out (Nat.le_refl _) S)
    clear X_z
    clear X_q
    clear R_z
    clear R_q
    clear hb S c0_z c1_z c2_z d0_z d1_z d2_z l_z c0_q c1_q c2_q d0_q d1_q d2_q l_q
    go_wp2
    go_ret
    exact ⟨rfl, B.out⟩
end Go.Proofs.YtifadajkngncmaaDoor
