/-
  THE WALK of the law SeriesBack.
-/
import Derived.Test.YtifadajkngncmaaDoorPds
set_option linter.unusedVariables false
set_option linter.unusedSimpArgs false
namespace Go.Proofs.YtifadajkngncmaaDoor
open Go.RowKit Nt Fm
open Ea (IsFl IsLg)

set_option maxRecDepth 100000 in
set_option maxHeartbeats 16000000 in
theorem walkSeriesBack (vd : Value) (cd : Int) (d : D) (pl : Int) (pl0 : -9223372036854775808 ≤ pl) (pl1 : pl ≤ 9223372036854775807) (w : World) (hT : Tab w) (rd : RD w vd cd d) :
    Calls Tryd.prog 5 #[vd, .int .i64 pl] w fun e w' => e = .returned (.bool true) ∧ Below w.heap.size w w' := by
  obtain ⟨E_x, D_x, hE_x, hD_x⟩ : ∃ E D, E = slgE cd d (pl) ∧ D = slgR cd d (pl) := ⟨_, _, rfl, rfl⟩
  have HC_x := Lib.hid (fun v w' ht hr => by
    have := slogT v cd (pl) d w' ht hr pl0 pl1
    rw [← hE_x, ← hD_x] at this; exact this)
  obtain ⟨E_y, D_y, hE_y, hD_y⟩ : ∃ E D, E = sexE 0 D_x (60) ∧ D = sexR 0 D_x (60) := ⟨_, _, rfl, rfl⟩
  have HC_y := Lib.hid (fun v w' ht hr => by
    have := sexpT v 0 (60) D_x w' ht hr (by decide) (by decide)
    rw [← hE_y, ← hD_y] at this; exact this)
  obtain ⟨E_a, D_a, hE_a, hD_a⟩ : ∃ E D, E = opE 0 0 (plus D_x ⟨false, 1, -pl⟩) ∧ D = opR 0 0 (plus D_x ⟨false, 1, -pl⟩) := ⟨_, _, rfl, rfl⟩
  have HC_a := Lib.hid (fun v1 v2 w' h0 h1 h2 => by
    have := add_any v1 v2 0 0 D_x ⟨false, 1, -pl⟩ w' h0 h1 h2
    rw [← hE_a, ← hD_a] at this; exact this)
  have F_a : Hid (Fit D_a) := Lib.hid (by rw [hD_a]; exact opR_fit (plus_nf _ _))
  obtain ⟨E_z, D_z, hE_z, hD_z⟩ : ∃ E D, E = sexE 0 D_a (60) ∧ D = sexR 0 D_a (60) := ⟨_, _, rfl, rfl⟩
  have HC_z := Lib.hid (fun v w' ht hr => by
    have := sexpT v 0 (60) D_a w' ht hr (by decide) (by decide)
    rw [← hE_z, ← hD_z] at this; exact this)
  obtain ⟨E_u, D_u, hE_u, hD_u⟩ : ∃ E D, E = opE 0 0 (plus D_z ⟨false, 1, -60⟩) ∧ D = opR 0 0 (plus D_z ⟨false, 1, -60⟩) := ⟨_, _, rfl, rfl⟩
  have HC_u := Lib.hid (fun v1 v2 w' h0 h1 h2 => by
    have := add_any v1 v2 0 0 D_z ⟨false, 1, -60⟩ w' h0 h1 h2
    rw [← hE_u, ← hD_u] at this; exact this)
  have F_u : Hid (Fit D_u) := Lib.hid (by rw [hD_u]; exact opR_fit (plus_nf _ _))
  have LAW : Hid (E_x = 0 → E_y = 0 → E_a = 0 → E_z = 0 → E_u = 0 → Tel (IsLg (rv d)) E_x D_x pl → Tel (IsFl (rv D_x)) E_y D_y 60 → Tel (IsFl (rv D_a)) E_z D_z 60 → cmp D_y d ≤ 0 ∧ cmp d D_u ≤ 0) := Lib.hid (fun ex ey ea ez eu tx ty tz => by
    refine back_law (slg_pos (hE_x.symm.trans ex)) tx ty tz ex ey ez ?_ ?_
    · rw [hD_a]; rw [hE_a] at ea; exact opE_00 ea
    · rw [hD_u]; rw [hE_u] at eu; exact opE_00 eu)
  have hcase : (E_x ≠ 0) ∨ (E_x = 0 ∧ cd = 0 ∧ 0 ≤ pl ∧ (400 < pl ∨ pl ≤ 400)) := by
    by_cases h : E_x = 0
    · obtain ⟨a, b, -⟩ := slgE_zero (hE_x.symm.trans h)
      right; exact ⟨h, a, b, by omega⟩
    · exact Or.inl h
  have SF := Lib.hid (@one_fit (-60) (by decide) (by decide))
  clear hE_x hD_x hE_y hD_y hE_a hD_a hE_z hD_z hE_u hD_u
  have R_d := Lib.hid rd
  have HT := Lib.hid hT
  clear hT
  obtain ⟨gd, ad, nd, pd, xd, rfl, -⟩ := rd
  rcases hcase with hx | ⟨rfl, rfl, hp, hq | hq⟩
  · clear LAW HC_y HC_a HC_z HC_u F_a F_u SF
    go_enter Tryd.func5, Tryd.ntmps5
    go_wp2_with fail
    refine (HC_x.out _ _ (HT.out.below (by go_grown)) (R_d.out.below (by go_grown))).mono ?_
    rintro r w1 ⟨⟨a_x, n_x, k_x, rfl, hv, hb⟩, ht⟩
    have S : Below w.heap.size w w1 := bl_thru (by go_grown) (Nat.le_refl _) hb
    have B := Lib.hid S
    have X_d := Lib.hid ((Box.new w _ _ _ _).below hb)
    replace R_d := Lib.hid (R_d.out.below S)
    have R_x := Lib.hid (rd_of (d := D_x) hv ht.fit)
    clear hb S hv
    have T_x := Lib.hid ht
    clear ht
    go_wp2_with fail
    refine (seriesLives_any _ (HT.out.below (by have := B.out; have := B.out.size; go_grown))).mono ?_
    rintro r w2 ⟨rfl, hb⟩
    have S : Below w1.heap.size w1 w2 := bl_thru (by go_grown) (Nat.le_refl _) hb
    replace B := Lib.hid (bl_thru B.out (Nat.le_refl _) S)
    clear X_d
    clear R_d
    clear R_x
    clear hb S
    go_wp2_with fail
    refine (seriesLives_any _ (HT.out.below B.out)).mono ?_
    rintro r w3 ⟨rfl, hb⟩
    have S : Below w2.heap.size w2 w3 := hb
    replace B := Lib.hid (bl_thru B.out (Nat.le_refl _) S)
    clear hb S
    go_wp2
    go_ret
    exact ⟨rfl, B.out⟩
  · clear LAW HC_y HC_a HC_z HC_u F_a F_u SF
    go_enter Tryd.func5, Tryd.ntmps5
    go_wp2_with fail
    refine (HC_x.out _ _ (HT.out.below (by go_grown)) (R_d.out.below (by go_grown))).mono ?_
    rintro r w1 ⟨⟨a_x, n_x, k_x, rfl, hv, hb⟩, ht⟩
    have S : Below w.heap.size w w1 := bl_thru (by go_grown) (Nat.le_refl _) hb
    have B := Lib.hid S
    have X_d := Lib.hid ((Box.new w _ _ _ _).below hb)
    replace R_d := Lib.hid (R_d.out.below S)
    have R_x := Lib.hid (rd_of (d := D_x) hv ht.fit)
    clear hb S hv
    have T_x := Lib.hid ht
    clear ht
    go_wp2_with fail
    refine (seriesLives_any _ (HT.out.below (by have := B.out; have := B.out.size; go_grown))).mono ?_
    rintro r w2 ⟨rfl, hb⟩
    have S : Below w1.heap.size w1 w2 := bl_thru (by go_grown) (Nat.le_refl _) hb
    replace B := Lib.hid (bl_thru B.out (Nat.le_refl _) S)
    clear X_d
    clear R_d
    clear R_x
    clear hb S
    go_wp2_with fail
    refine (seriesLives_any _ (HT.out.below B.out)).mono ?_
    rintro r w3 ⟨rfl, hb⟩
    have S : Below w2.heap.size w2 w3 := hb
    replace B := Lib.hid (bl_thru B.out (Nat.le_refl _) S)
    clear hb S
    go_wp2
    go_ret
    exact ⟨rfl, B.out⟩
  · have AF := Lib.hid (@one_fit (-pl) (by omega) (by omega))
    go_enter Tryd.func5, Tryd.ntmps5
    go_wp2_with fail
    refine (HC_x.out _ _ (HT.out.below (by go_grown)) (R_d.out.below (by go_grown))).mono ?_
    rintro r w1 ⟨⟨a_x, n_x, k_x, rfl, hv, hb⟩, ht⟩
    have S : Below w.heap.size w w1 := bl_thru (by go_grown) (Nat.le_refl _) hb
    have B := Lib.hid S
    have X_d := Lib.hid ((Box.new w _ _ _ _).below hb)
    replace R_d := Lib.hid (R_d.out.below S)
    have R_x := Lib.hid (rd_of (d := D_x) hv ht.fit)
    clear hb S hv
    have T_x := Lib.hid ht
    clear ht
    go_wp2_with fail
    refine (seriesLives_any _ (HT.out.below (by have := B.out; have := B.out.size; go_grown))).mono ?_
    rintro r w2 ⟨rfl, hb⟩
    have S : Below w1.heap.size w1 w2 := bl_thru (by go_grown) (Nat.le_refl _) hb
    replace B := Lib.hid (bl_thru B.out (Nat.le_refl _) S)
    replace X_d := Lib.hid (X_d.out.below S)
    have X_x := Lib.hid ((Box.new w1 _ _ _ _).below hb)
    replace R_d := Lib.hid (R_d.out.below S)
    replace R_x := Lib.hid (R_x.out.below S)
    clear hb S
    obtain ⟨c0_x, c1_x, c2_x, d0_x, d1_x, d2_x⟩ := X_x.out.cells
    have l_x := X_x.out.lt
    go_wp2_with fail
    refine (HC_y.out _ _ (HT.out.below B.out) R_x.out).mono ?_
    rintro r w3 ⟨⟨a_y, n_y, k_y, rfl, hv, hb⟩, ht⟩
    have S : Below w2.heap.size w2 w3 := hb
    replace B := Lib.hid (bl_thru B.out (Nat.le_refl _) S)
    replace X_d := Lib.hid (X_d.out.below S)
    replace X_x := Lib.hid (X_x.out.below S)
    replace R_d := Lib.hid (R_d.out.below S)
    replace R_x := Lib.hid (R_x.out.below S)
    have R_y := Lib.hid (rd_of (d := D_y) hv ht.fit)
    clear hb S hv c0_x c1_x c2_x d0_x d1_x d2_x l_x
    have T_y := Lib.hid ht
    clear ht
    obtain ⟨c0_x, c1_x, c2_x, d0_x, d1_x, d2_x⟩ := X_x.out.cells
    have l_x := X_x.out.lt
    go_wp2_with fail
    refine (HC_a.out _ _ _ (HT.out.below (by have := B.out; have := B.out.size; go_grown)) (R_x.out.below (by go_grown)) (rd_of (d := ⟨false, 1, -pl⟩) (nv_uno _ _ 1 _ (by simp) (by decide) (by decide)) AF.out)).mono ?_
    rintro r w4 ⟨a_a, n_a, k_a, rfl, hv, hb⟩
    have S : Below w3.heap.size w3 w4 := bl_thru (by go_grown) (Nat.le_refl _) hb
    replace B := Lib.hid (bl_thru B.out (Nat.le_refl _) S)
    replace X_d := Lib.hid (X_d.out.below S)
    clear X_x
    have X_y := Lib.hid (((Box.new w3 _ _ _ _).alloc _).below hb)
    replace R_d := Lib.hid (R_d.out.below S)
    clear R_x
    replace R_y := Lib.hid (R_y.out.below S)
    have R_a := Lib.hid (rd_of (d := D_a) hv F_a.out)
    clear hb S hv c0_x c1_x c2_x d0_x d1_x d2_x l_x
    go_wp2_with fail
    refine (HC_z.out _ _ (HT.out.below (by have := B.out; have := B.out.size; go_grown)) (R_a.out.below (by go_grown))).mono ?_
    rintro r w5 ⟨⟨a_z, n_z, k_z, rfl, hv, hb⟩, ht⟩
    have S : Below w4.heap.size w4 w5 := bl_thru (by go_grown) (Nat.le_refl _) hb
    replace B := Lib.hid (bl_thru B.out (Nat.le_refl _) S)
    replace X_d := Lib.hid (X_d.out.below S)
    replace X_y := Lib.hid (X_y.out.below S)
    replace R_d := Lib.hid (R_d.out.below S)
    replace R_y := Lib.hid (R_y.out.below S)
    clear R_a
    have R_z := Lib.hid (rd_of (d := D_z) hv ht.fit)
    clear hb S hv
    have T_z := Lib.hid ht
    clear ht
    go_wp2_with fail
    refine (HC_u.out _ _ _ (HT.out.below (by have := B.out; have := B.out.size; go_grown)) (R_z.out.below (by go_grown)) (rd_of (d := ⟨false, 1, -60⟩) (nv_uno _ _ 1 _ (by simp) (by decide) (by decide)) SF.out)).mono ?_
    rintro r w6 ⟨a_u, n_u, k_u, rfl, hv, hb⟩
    have S : Below w5.heap.size w5 w6 := bl_thru (by go_grown) (Nat.le_refl _) hb
    replace B := Lib.hid (bl_thru B.out (Nat.le_refl _) S)
    replace X_d := Lib.hid (X_d.out.below S)
    replace X_y := Lib.hid (X_y.out.below S)
    replace R_d := Lib.hid (R_d.out.below S)
    replace R_y := Lib.hid (R_y.out.below S)
    clear R_z
    have R_u := Lib.hid (rd_of (d := D_u) hv F_u.out)
    clear hb S hv
    cases k4 : ok4 E_y E_a E_z E_u
    · go_wp2_with (go_at_call 18; refine (ok_new4 _ _ _ _  _ _ (by simp)).mono ?_; rintro e w' ⟨rfl, rfl⟩)
      go_ret
      exact ⟨rfl, (by have := B.out; have := B.out.size; go_grown)⟩
    · have LW := LAW.out
      obtain ⟨q1, q2, q3, q4⟩ := ok4_all k4
      have LW2 := LW (by trivial) q1 q2 q3 q4 T_x.out T_y.out T_z.out
      have N1 := Lib.hid (fun v1 v2 w' h0 h1 h2 => nm_true LW2.1 v1 v2 w' h0 h1 h2)
      have N2 := Lib.hid (fun v1 v2 w' h0 h1 h2 => nm_true LW2.2 v1 v2 w' h0 h1 h2)
      clear LW LW2 q1 q2 q3 q4 LAW T_x T_y T_z
      obtain ⟨c0_y, c1_y, c2_y, d0_y, d1_y, d2_y⟩ := X_y.out.cells
      have l_y := X_y.out.lt
      obtain ⟨c0_d, c1_d, c2_d, d0_d, d1_d, d2_d⟩ := X_d.out.cells
      have l_d := X_d.out.lt
      go_wp2_with (go_at_call 18; refine (ok_new4 _ _ _ _  _ _ (by simp)).mono ?_; rintro e w' ⟨rfl, rfl⟩)
      refine (N1.out _ _ _ (HT.out.below (by have := B.out; have := B.out.size; go_grown)) (R_y.out.below (by go_grown)) (R_d.out.below (by go_grown))).mono ?_
      rintro r w7 ⟨rfl, hb⟩
      have S : Below w6.heap.size w6 w7 := bl_thru (by go_grown) (Nat.le_refl _) hb
      replace B := Lib.hid (bl_thru B.out (Nat.le_refl _) S)
      replace X_d := Lib.hid (X_d.out.below S)
      clear X_y
      have X_u := Lib.hid (((Box.new w6 _ _ _ _).alloc _).below hb)
      replace R_d := Lib.hid (R_d.out.below S)
      clear R_y
      replace R_u := Lib.hid (R_u.out.below S)
      clear hb S c0_y c1_y c2_y d0_y d1_y d2_y l_y c0_d c1_d c2_d d0_d d1_d d2_d l_d
      obtain ⟨c0_d, c1_d, c2_d, d0_d, d1_d, d2_d⟩ := X_d.out.cells
      have l_d := X_d.out.lt
      obtain ⟨c0_u, c1_u, c2_u, d0_u, d1_u, d2_u⟩ := X_u.out.cells
      have l_u := X_u.out.lt
      go_wp2_with fail
      refine (N2.out _ _ _ (HT.out.below B.out) R_d.out R_u.out).mono ?_
      rintro r w8 ⟨rfl, hb⟩
      have S : Below w7.heap.size w7 w8 := hb
      replace B := Lib.hid (bl_thru B.out (Nat.le_refl _) S)
      clear X_d
      clear X_u
      clear R_d
      clear R_u
      clear hb S c0_d c1_d c2_d d0_d d1_d d2_d l_d c0_u c1_u c2_u d0_u d1_u d2_u l_u
      go_wp2
      go_ret
      exact ⟨rfl, B.out⟩
end Go.Proofs.YtifadajkngncmaaDoor
