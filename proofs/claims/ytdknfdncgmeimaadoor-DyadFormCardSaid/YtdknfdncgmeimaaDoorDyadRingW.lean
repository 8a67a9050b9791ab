/-
  THE WALK of the law DyadRing.
-/
import Derived.Test.YtdknfdncgmeimaaDoorDLives
import Derived.Test.YtdknfdncgmeimaaDoorBa
set_option linter.unusedVariables false
set_option linter.unusedSimpArgs false
namespace Go.Proofs.YtdknfdncgmeimaaDoor
open Go.RowKit Nt Fm

theorem opE_eq {c1 c2 : Int} {S : D} (h : opE c1 c2 S = 0) : c1 = 0 ∧ c2 = 0 ∧ fitE S = 0 ∧ opR c1 c2 S = S := by
  have h' := h
  unfold opE at h
  split at h
  · rename_i h1
    split at h
    · rename_i h2
      refine ⟨h1, h2, h, ?_⟩
      unfold opR; rw [if_pos h']
    · contradiction
  · contradiction
theorem opE_swap (c1 c2 : Int) (S : D) : (opE c2 c1 S == 0) = (opE c1 c2 S == 0) ∧ opR c2 c1 S = opR c1 c2 S := by
  have h : opE c2 c1 S = 0 ↔ opE c1 c2 S = 0 := by
    constructor
    · intro h; obtain ⟨rfl, rfl, -, -⟩ := opE_eq h; exact h
    · intro h; obtain ⟨rfl, rfl, -, -⟩ := opE_eq h; exact h
  refine ⟨?_, ?_⟩
  · by_cases h1 : opE c1 c2 S = 0
    · rw [h1, h.2 h1]
    · rw [beq_eq_false_iff_ne.2 h1, beq_eq_false_iff_ne.2 (fun h2 => h1 (h.1 h2))]
  · unfold opR
    by_cases h1 : opE c1 c2 S = 0
    · rw [if_pos h1, if_pos (h.2 h1)]
    · rw [if_neg h1, if_neg (fun h2 => h1 (h.1 h2))]
theorem ok4_all {a b c d : Int} (h : ok4 a b c d = true) : a = 0 ∧ b = 0 ∧ c = 0 ∧ d = 0 := by
  unfold ok4 at h; simp [and_assoc] at h; exact h
theorem ok5_all {a b c d e : Int} (h : ok5 a b c d e = true) : a = 0 ∧ b = 0 ∧ c = 0 ∧ d = 0 ∧ e = 0 := by
  unfold ok5 at h; simp [and_assoc] at h; exact h
theorem same_true {d1 d2 : D} (hs : sameB d1 d2 = true) (v1 v2 : Value) (w : World) (h1 : DV w v1 d1) (h2 : DV w v2 d2) :
    Calls Tryd.prog 30 #[v1, v2] w fun r w' => r = .returned (.bool true) ∧ Below w.heap.size w w' := by
  have := same_any v1 v2 d1 d2 w h1 h2
  rw [hs] at this; exact this

set_option maxRecDepth 100000 in
set_option maxHeartbeats 16000000 in
theorem walkDyadRing (va : Value) (ca : Int) (a : D) (vb : Value) (cb : Int) (b : D) (vc : Value) (cc : Int) (c : D) (w : World) (hT : Tab w) (ra : RD w va ca a) (rb : RD w vb cb b) (rc : RD w vc cc c) :
    Calls Tryd.prog 4 #[va, vb, vc] w fun e w' => e = .returned (.bool true) ∧ Below w.heap.size w w' := by
  obtain ⟨E_ab, D_ab, hE_ab, hD_ab⟩ : ∃ E D, E = opE ca cb (plus a b) ∧ D = opR ca cb (plus a b) := ⟨_, _, rfl, rfl⟩
  have HC_ab := Lib.hid (fun v1 v2 w' h0 h1 h2 => by
    have := add_any v1 v2 ca cb a b w' h0 h1 h2
    rw [← hE_ab, ← hD_ab] at this; exact this)
  have F_ab : Hid (Fit D_ab) := Lib.hid (by rw [hD_ab]; exact opR_fit (plus_nf _ _))
  obtain ⟨E_ba, D_ba, hE_ba, hD_ba⟩ : ∃ E D, E = opE cb ca (plus b a) ∧ D = opR cb ca (plus b a) := ⟨_, _, rfl, rfl⟩
  have HC_ba := Lib.hid (fun v1 v2 w' h0 h1 h2 => by
    have := add_any v1 v2 cb ca b a w' h0 h1 h2
    rw [← hE_ba, ← hD_ba] at this; exact this)
  have F_ba : Hid (Fit D_ba) := Lib.hid (by rw [hD_ba]; exact opR_fit (plus_nf _ _))
  obtain ⟨E_bc, D_bc, hE_bc, hD_bc⟩ : ∃ E D, E = opE cb cc (plus b c) ∧ D = opR cb cc (plus b c) := ⟨_, _, rfl, rfl⟩
  have HC_bc := Lib.hid (fun v1 v2 w' h0 h1 h2 => by
    have := add_any v1 v2 cb cc b c w' h0 h1 h2
    rw [← hE_bc, ← hD_bc] at this; exact this)
  have F_bc : Hid (Fit D_bc) := Lib.hid (by rw [hD_bc]; exact opR_fit (plus_nf _ _))
  obtain ⟨E_x, D_x, hE_x, hD_x⟩ : ∃ E D, E = opE 0 cc (plus D_ab c) ∧ D = opR 0 cc (plus D_ab c) := ⟨_, _, rfl, rfl⟩
  have HC_x := Lib.hid (fun v1 v2 w' h0 h1 h2 => by
    have := add_any v1 v2 0 cc D_ab c w' h0 h1 h2
    rw [← hE_x, ← hD_x] at this; exact this)
  have F_x : Hid (Fit D_x) := Lib.hid (by rw [hD_x]; exact opR_fit (plus_nf _ _))
  obtain ⟨E_y, D_y, hE_y, hD_y⟩ : ∃ E D, E = opE ca 0 (plus a D_bc) ∧ D = opR ca 0 (plus a D_bc) := ⟨_, _, rfl, rfl⟩
  have HC_y := Lib.hid (fun v1 v2 w' h0 h1 h2 => by
    have := add_any v1 v2 ca 0 a D_bc w' h0 h1 h2
    rw [← hE_y, ← hD_y] at this; exact this)
  have F_y : Hid (Fit D_y) := Lib.hid (by rw [hD_y]; exact opR_fit (plus_nf _ _))
  obtain ⟨E_p, D_p, hE_p, hD_p⟩ : ∃ E D, E = opE ca cb (times a b) ∧ D = opR ca cb (times a b) := ⟨_, _, rfl, rfl⟩
  have HC_p := Lib.hid (fun v1 v2 w' h0 h1 h2 => by
    have := mul_any v1 v2 ca cb a b w' h0 h1 h2
    rw [← hE_p, ← hD_p] at this; exact this)
  have F_p : Hid (Fit D_p) := Lib.hid (by rw [hD_p]; exact opR_fit (times_nf _ _))
  obtain ⟨E_q, D_q, hE_q, hD_q⟩ : ∃ E D, E = opE cb ca (times b a) ∧ D = opR cb ca (times b a) := ⟨_, _, rfl, rfl⟩
  have HC_q := Lib.hid (fun v1 v2 w' h0 h1 h2 => by
    have := mul_any v1 v2 cb ca b a w' h0 h1 h2
    rw [← hE_q, ← hD_q] at this; exact this)
  have F_q : Hid (Fit D_q) := Lib.hid (by rw [hD_q]; exact opR_fit (times_nf _ _))
  obtain ⟨E_u, D_u, hE_u, hD_u⟩ : ∃ E D, E = opE ca 0 (times a D_bc) ∧ D = opR ca 0 (times a D_bc) := ⟨_, _, rfl, rfl⟩
  have HC_u := Lib.hid (fun v1 v2 w' h0 h1 h2 => by
    have := mul_any v1 v2 ca 0 a D_bc w' h0 h1 h2
    rw [← hE_u, ← hD_u] at this; exact this)
  have F_u : Hid (Fit D_u) := Lib.hid (by rw [hD_u]; exact opR_fit (times_nf _ _))
  obtain ⟨E_v, D_v, hE_v, hD_v⟩ : ∃ E D, E = opE ca cc (times a c) ∧ D = opR ca cc (times a c) := ⟨_, _, rfl, rfl⟩
  have HC_v := Lib.hid (fun v1 v2 w' h0 h1 h2 => by
    have := mul_any v1 v2 ca cc a c w' h0 h1 h2
    rw [← hE_v, ← hD_v] at this; exact this)
  have F_v : Hid (Fit D_v) := Lib.hid (by rw [hD_v]; exact opR_fit (times_nf _ _))
  obtain ⟨E_z, D_z, hE_z, hD_z⟩ : ∃ E D, E = opE 0 0 (plus D_p D_v) ∧ D = opR 0 0 (plus D_p D_v) := ⟨_, _, rfl, rfl⟩
  have HC_z := Lib.hid (fun v1 v2 w' h0 h1 h2 => by
    have := add_any v1 v2 0 0 D_p D_v w' h0 h1 h2
    rw [← hE_z, ← hD_z] at this; exact this)
  have F_z : Hid (Fit D_z) := Lib.hid (by rw [hD_z]; exact opR_fit (plus_nf _ _))
  have ts : (E_ba == 0) = (E_ab == 0) ∧ D_ba = D_ab := by rw [hE_ba, hE_ab, hD_ba, hD_ab, plus_comm b a]; exact opE_swap _ _ _
  have tp : (E_q == 0) = (E_p == 0) ∧ D_q = D_p := by rw [hE_q, hE_p, hD_q, hD_p, times_comm b a]; exact opE_swap _ _ _
  have S_ab := Lib.hid (same_true (d1 := D_ab) (d2 := D_ba) (by rw [ts.2]; exact sameB_refl _))
  have S_pq := Lib.hid (same_true (d1 := D_p) (d2 := D_q) (by rw [tp.2]; exact sameB_refl _))
  have K1 : Hid (ok4 E_ab E_bc E_x E_y = false ∨ (ok4 E_ab E_bc E_x E_y = true ∧ sameB D_x D_y = true)) := Lib.hid (by
    cases hk : ok4 E_ab E_bc E_x E_y
    · exact Or.inl rfl
    · refine Or.inr ⟨rfl, ?_⟩
      obtain ⟨k1, k2, k3, k4⟩ := ok4_all hk
      rw [hE_ab] at k1; rw [hE_bc] at k2; rw [hE_x] at k3; rw [hE_y] at k4
      have e1 := (opE_eq k1).2.2.2
      have e2 := (opE_eq k2).2.2.2
      have e3 := (opE_eq k3).2.2.2
      have e4 := (opE_eq k4).2.2.2
      rw [hD_x, hD_y, e3, e4, hD_ab, hD_bc, e1, e2, plus_assoc]; exact sameB_refl _)
  have K2 : Hid (ok5 E_bc E_p E_u E_v E_z = false ∨ (ok5 E_bc E_p E_u E_v E_z = true ∧ sameB D_u D_z = true)) := Lib.hid (by
    cases hk : ok5 E_bc E_p E_u E_v E_z
    · exact Or.inl rfl
    · refine Or.inr ⟨rfl, ?_⟩
      obtain ⟨k1, k2, k3, k4, k5⟩ := ok5_all hk
      rw [hE_bc] at k1; rw [hE_p] at k2; rw [hE_u] at k3; rw [hE_v] at k4; rw [hE_z] at k5
      have e1 := (opE_eq k1).2.2.2
      have e2 := (opE_eq k2).2.2.2
      have e3 := (opE_eq k3).2.2.2
      have e4 := (opE_eq k4).2.2.2
      have e5 := (opE_eq k5).2.2.2
      rw [hD_u, hD_z, e3, e5, hD_bc, hD_p, hD_v, e1, e2, e4, times_plus]; exact sameB_refl _)
  obtain ⟨ts1, -⟩ := ts
  obtain ⟨tp1, -⟩ := tp
  have R_a := Lib.hid ra
  have R_b := Lib.hid rb
  have R_c := Lib.hid rc
  have HT := Lib.hid hT
  obtain ⟨ga, aa, na, pa, xa, rfl, -⟩ := ra
  obtain ⟨gb, ab, nb, pb, xb, rfl, -⟩ := rb
  obtain ⟨gc, ac, nc, pc, xc, rfl, -⟩ := rc
  clear hT hE_ab hD_ab hE_ba hD_ba hE_bc hD_bc hE_x hD_x hE_y hD_y hE_p hD_p hE_q hD_q hE_u hD_u hE_v hD_v hE_z hD_z
  go_enter Tryd.func4, Tryd.ntmps4
  go_wp2_with fail
  refine (HC_ab.out _ _ _ (HT.out.below (by go_grown)) (R_a.out.below (by go_grown)) (R_b.out.below (by go_grown))).mono ?_
  rintro r w1 ⟨a_ab, n_ab, k_ab, rfl, hv, hb⟩
  have S : Below w.heap.size w w1 := bl_thru (by go_grown) (Nat.le_refl _) hb
  have B := Lib.hid S
  have X_a := Lib.hid ((((Box.new w _ _ _ _).alloc _).alloc _).below hb)
  have X_b := Lib.hid (((Box.new2 w _ _ _ _ _).alloc _).below hb)
  have X_c := Lib.hid ((Box.new3 w _ _ _ _ _ _).below hb)
  replace R_a := Lib.hid (R_a.out.below S)
  replace R_b := Lib.hid (R_b.out.below S)
  replace R_c := Lib.hid (R_c.out.below S)
  have R_ab := Lib.hid (rd_of (d := D_ab) hv F_ab.out)
  clear hb S hv
  obtain ⟨c0_b, c1_b, c2_b, d0_b, d1_b, d2_b⟩ := X_b.out.cells
  have l_b := X_b.out.lt
  obtain ⟨c0_a, c1_a, c2_a, d0_a, d1_a, d2_a⟩ := X_a.out.cells
  have l_a := X_a.out.lt
  go_wp2_with fail
  refine (HC_ba.out _ _ _ (HT.out.below (by have := B.out; have := B.out.size; go_grown)) (R_b.out.below (by go_grown)) (R_a.out.below (by go_grown))).mono ?_
  rintro r w2 ⟨a_ba, n_ba, k_ba, rfl, hv, hb⟩
  have S : Below w1.heap.size w1 w2 := bl_thru (by go_grown) (Nat.le_refl _) hb
  replace B := Lib.hid (bl_thru B.out (Nat.le_refl _) S)
  replace X_a := Lib.hid (X_a.out.below S)
  replace X_b := Lib.hid (X_b.out.below S)
  replace X_c := Lib.hid (X_c.out.below S)
  have X_ab := Lib.hid ((Box.new w1 _ _ _ _).below hb)
  replace R_a := Lib.hid (R_a.out.below S)
  replace R_b := Lib.hid (R_b.out.below S)
  replace R_c := Lib.hid (R_c.out.below S)
  replace R_ab := Lib.hid (R_ab.out.below S)
  have R_ba := Lib.hid (rd_of (d := D_ba) hv F_ba.out)
  clear hb S hv c0_b c1_b c2_b d0_b d1_b d2_b l_b c0_a c1_a c2_a d0_a d1_a d2_a l_a
  obtain ⟨c0_b, c1_b, c2_b, d0_b, d1_b, d2_b⟩ := X_b.out.cells
  have l_b := X_b.out.lt
  obtain ⟨c0_c, c1_c, c2_c, d0_c, d1_c, d2_c⟩ := X_c.out.cells
  have l_c := X_c.out.lt
  go_wp2_with fail
  refine (HC_bc.out _ _ _ (HT.out.below (by have := B.out; have := B.out.size; go_grown)) (R_b.out.below (by go_grown)) (R_c.out.below (by go_grown))).mono ?_
  rintro r w3 ⟨a_bc, n_bc, k_bc, rfl, hv, hb⟩
  have S : Below w2.heap.size w2 w3 := bl_thru (by go_grown) (Nat.le_refl _) hb
  replace B := Lib.hid (bl_thru B.out (Nat.le_refl _) S)
  replace X_a := Lib.hid (X_a.out.below S)
  replace X_b := Lib.hid (X_b.out.below S)
  replace X_c := Lib.hid (X_c.out.below S)
  replace X_ab := Lib.hid (X_ab.out.below S)
  have X_ba := Lib.hid ((Box.new w2 _ _ _ _).below hb)
  replace R_a := Lib.hid (R_a.out.below S)
  replace R_b := Lib.hid (R_b.out.below S)
  replace R_c := Lib.hid (R_c.out.below S)
  replace R_ab := Lib.hid (R_ab.out.below S)
  replace R_ba := Lib.hid (R_ba.out.below S)
  have R_bc := Lib.hid (rd_of (d := D_bc) hv F_bc.out)
  clear hb S hv c0_b c1_b c2_b d0_b d1_b d2_b l_b c0_c c1_c c2_c d0_c d1_c d2_c l_c
  obtain ⟨c0_ab, c1_ab, c2_ab, d0_ab, d1_ab, d2_ab⟩ := X_ab.out.cells
  have l_ab := X_ab.out.lt
  obtain ⟨c0_c, c1_c, c2_c, d0_c, d1_c, d2_c⟩ := X_c.out.cells
  have l_c := X_c.out.lt
  go_wp2_with fail
  refine (HC_x.out _ _ _ (HT.out.below (by have := B.out; have := B.out.size; go_grown)) (R_ab.out.below (by go_grown)) (R_c.out.below (by go_grown))).mono ?_
  rintro r w4 ⟨a_x, n_x, k_x, rfl, hv, hb⟩
  have S : Below w3.heap.size w3 w4 := bl_thru (by go_grown) (Nat.le_refl _) hb
  replace B := Lib.hid (bl_thru B.out (Nat.le_refl _) S)
  replace X_a := Lib.hid (X_a.out.below S)
  replace X_b := Lib.hid (X_b.out.below S)
  replace X_c := Lib.hid (X_c.out.below S)
  replace X_ab := Lib.hid (X_ab.out.below S)
  replace X_ba := Lib.hid (X_ba.out.below S)
  have X_bc := Lib.hid ((Box.new w3 _ _ _ _).below hb)
  replace R_a := Lib.hid (R_a.out.below S)
  replace R_b := Lib.hid (R_b.out.below S)
  replace R_c := Lib.hid (R_c.out.below S)
  replace R_ab := Lib.hid (R_ab.out.below S)
  replace R_ba := Lib.hid (R_ba.out.below S)
  replace R_bc := Lib.hid (R_bc.out.below S)
  have R_x := Lib.hid (rd_of (d := D_x) hv F_x.out)
  clear hb S hv c0_ab c1_ab c2_ab d0_ab d1_ab d2_ab l_ab c0_c c1_c c2_c d0_c d1_c d2_c l_c
  obtain ⟨c0_a, c1_a, c2_a, d0_a, d1_a, d2_a⟩ := X_a.out.cells
  have l_a := X_a.out.lt
  obtain ⟨c0_bc, c1_bc, c2_bc, d0_bc, d1_bc, d2_bc⟩ := X_bc.out.cells
  have l_bc := X_bc.out.lt
  go_wp2_with fail
  refine (HC_y.out _ _ _ (HT.out.below (by have := B.out; have := B.out.size; go_grown)) (R_a.out.below (by go_grown)) (R_bc.out.below (by go_grown))).mono ?_
  rintro r w5 ⟨a_y, n_y, k_y, rfl, hv, hb⟩
  have S : Below w4.heap.size w4 w5 := bl_thru (by go_grown) (Nat.le_refl _) hb
  replace B := Lib.hid (bl_thru B.out (Nat.le_refl _) S)
  replace X_a := Lib.hid (X_a.out.below S)
  replace X_b := Lib.hid (X_b.out.below S)
  replace X_c := Lib.hid (X_c.out.below S)
  replace X_ab := Lib.hid (X_ab.out.below S)
  replace X_ba := Lib.hid (X_ba.out.below S)
  replace X_bc := Lib.hid (X_bc.out.below S)
  have X_x := Lib.hid ((Box.new w4 _ _ _ _).below hb)
  replace R_a := Lib.hid (R_a.out.below S)
  replace R_b := Lib.hid (R_b.out.below S)
  replace R_c := Lib.hid (R_c.out.below S)
  replace R_ab := Lib.hid (R_ab.out.below S)
  replace R_ba := Lib.hid (R_ba.out.below S)
  replace R_bc := Lib.hid (R_bc.out.below S)
  replace R_x := Lib.hid (R_x.out.below S)
  have R_y := Lib.hid (rd_of (d := D_y) hv F_y.out)
  clear hb S hv c0_a c1_a c2_a d0_a d1_a d2_a l_a c0_bc c1_bc c2_bc d0_bc d1_bc d2_bc l_bc
  go_wp2_with fail
  refine (dyadLives_any _ (HT.out.below (by have := B.out; have := B.out.size; go_grown))).mono ?_
  rintro r w6 ⟨rfl, hb⟩
  have S : Below w5.heap.size w5 w6 := bl_thru (by go_grown) (Nat.le_refl _) hb
  replace B := Lib.hid (bl_thru B.out (Nat.le_refl _) S)
  replace X_a := Lib.hid (X_a.out.below S)
  replace X_b := Lib.hid (X_b.out.below S)
  replace X_c := Lib.hid (X_c.out.below S)
  replace X_ab := Lib.hid (X_ab.out.below S)
  replace X_ba := Lib.hid (X_ba.out.below S)
  replace X_bc := Lib.hid (X_bc.out.below S)
  replace X_x := Lib.hid (X_x.out.below S)
  have X_y := Lib.hid ((Box.new w5 _ _ _ _).below hb)
  replace R_a := Lib.hid (R_a.out.below S)
  replace R_b := Lib.hid (R_b.out.below S)
  replace R_c := Lib.hid (R_c.out.below S)
  replace R_ab := Lib.hid (R_ab.out.below S)
  replace R_ba := Lib.hid (R_ba.out.below S)
  replace R_bc := Lib.hid (R_bc.out.below S)
  replace R_x := Lib.hid (R_x.out.below S)
  replace R_y := Lib.hid (R_y.out.below S)
  clear hb S
  obtain ⟨c0_ab, c1_ab, c2_ab, d0_ab, d1_ab, d2_ab⟩ := X_ab.out.cells
  have l_ab := X_ab.out.lt
  obtain ⟨c0_ba, c1_ba, c2_ba, d0_ba, d1_ba, d2_ba⟩ := X_ba.out.cells
  have l_ba := X_ba.out.lt
  go_wp2_with fail
  refine (S_ab.out _ _ _ R_ab.out.dv R_ba.out.dv).mono ?_
  rintro r w7 ⟨rfl, hb⟩
  have S : Below w6.heap.size w6 w7 := hb
  replace B := Lib.hid (bl_thru B.out (Nat.le_refl _) S)
  replace X_a := Lib.hid (X_a.out.below S)
  replace X_b := Lib.hid (X_b.out.below S)
  replace X_c := Lib.hid (X_c.out.below S)
  clear X_ab
  clear X_ba
  replace X_bc := Lib.hid (X_bc.out.below S)
  replace X_x := Lib.hid (X_x.out.below S)
  replace X_y := Lib.hid (X_y.out.below S)
  replace R_a := Lib.hid (R_a.out.below S)
  replace R_b := Lib.hid (R_b.out.below S)
  replace R_c := Lib.hid (R_c.out.below S)
  clear R_ab
  clear R_ba
  replace R_bc := Lib.hid (R_bc.out.below S)
  replace R_x := Lib.hid (R_x.out.below S)
  replace R_y := Lib.hid (R_y.out.below S)
  clear hb S c0_ab c1_ab c2_ab d0_ab d1_ab d2_ab l_ab c0_ba c1_ba c2_ba d0_ba d1_ba d2_ba l_ba
  rcases K1.out with k4 | ⟨k4, s4⟩
  · obtain ⟨c0_a, c1_a, c2_a, d0_a, d1_a, d2_a⟩ := X_a.out.cells
    have l_a := X_a.out.lt
    obtain ⟨c0_b, c1_b, c2_b, d0_b, d1_b, d2_b⟩ := X_b.out.cells
    have l_b := X_b.out.lt
    go_wp2_with (go_at_call 31; refine (ok_new4 _ _ _ _  _ _ rfl).mono ?_; rintro e w' ⟨rfl, rfl⟩)
    refine (HC_p.out _ _ _ (HT.out.below (by have := B.out; have := B.out.size; go_grown)) (R_a.out.below (by go_grown)) (R_b.out.below (by go_grown))).mono ?_
    rintro r w8 ⟨a_p, n_p, k_p, rfl, hv, hb⟩
    have S : Below w7.heap.size w7 w8 := bl_thru (by go_grown) (Nat.le_refl _) hb
    replace B := Lib.hid (bl_thru B.out (Nat.le_refl _) S)
    replace X_a := Lib.hid (X_a.out.below S)
    replace X_b := Lib.hid (X_b.out.below S)
    replace X_c := Lib.hid (X_c.out.below S)
    replace X_bc := Lib.hid (X_bc.out.below S)
    clear X_x
    clear X_y
    replace R_a := Lib.hid (R_a.out.below S)
    replace R_b := Lib.hid (R_b.out.below S)
    replace R_c := Lib.hid (R_c.out.below S)
    replace R_bc := Lib.hid (R_bc.out.below S)
    clear R_x
    clear R_y
    have R_p := Lib.hid (rd_of (d := D_p) hv F_p.out)
    clear hb S hv c0_a c1_a c2_a d0_a d1_a d2_a l_a c0_b c1_b c2_b d0_b d1_b d2_b l_b
    obtain ⟨c0_b, c1_b, c2_b, d0_b, d1_b, d2_b⟩ := X_b.out.cells
    have l_b := X_b.out.lt
    obtain ⟨c0_a, c1_a, c2_a, d0_a, d1_a, d2_a⟩ := X_a.out.cells
    have l_a := X_a.out.lt
    go_wp2_with fail
    refine (HC_q.out _ _ _ (HT.out.below (by have := B.out; have := B.out.size; go_grown)) (R_b.out.below (by go_grown)) (R_a.out.below (by go_grown))).mono ?_
    rintro r w9 ⟨a_q, n_q, k_q, rfl, hv, hb⟩
    have S : Below w8.heap.size w8 w9 := bl_thru (by go_grown) (Nat.le_refl _) hb
    replace B := Lib.hid (bl_thru B.out (Nat.le_refl _) S)
    replace X_a := Lib.hid (X_a.out.below S)
    replace X_b := Lib.hid (X_b.out.below S)
    replace X_c := Lib.hid (X_c.out.below S)
    replace X_bc := Lib.hid (X_bc.out.below S)
    have X_p := Lib.hid ((Box.new w8 _ _ _ _).below hb)
    replace R_a := Lib.hid (R_a.out.below S)
    replace R_b := Lib.hid (R_b.out.below S)
    replace R_c := Lib.hid (R_c.out.below S)
    replace R_bc := Lib.hid (R_bc.out.below S)
    replace R_p := Lib.hid (R_p.out.below S)
    have R_q := Lib.hid (rd_of (d := D_q) hv F_q.out)
    clear hb S hv c0_b c1_b c2_b d0_b d1_b d2_b l_b c0_a c1_a c2_a d0_a d1_a d2_a l_a
    obtain ⟨c0_p, c1_p, c2_p, d0_p, d1_p, d2_p⟩ := X_p.out.cells
    have l_p := X_p.out.lt
    go_wp2_with fail
    refine (S_pq.out _ _ _ (R_p.out.below (by go_grown)).dv (R_q.out.below (by go_grown)).dv).mono ?_
    rintro r w10 ⟨rfl, hb⟩
    have S : Below w9.heap.size w9 w10 := bl_thru (by go_grown) (Nat.le_refl _) hb
    replace B := Lib.hid (bl_thru B.out (Nat.le_refl _) S)
    replace X_a := Lib.hid (X_a.out.below S)
    replace X_b := Lib.hid (X_b.out.below S)
    replace X_c := Lib.hid (X_c.out.below S)
    replace X_bc := Lib.hid (X_bc.out.below S)
    replace X_p := Lib.hid (X_p.out.below S)
    replace R_a := Lib.hid (R_a.out.below S)
    replace R_b := Lib.hid (R_b.out.below S)
    replace R_c := Lib.hid (R_c.out.below S)
    replace R_bc := Lib.hid (R_bc.out.below S)
    replace R_p := Lib.hid (R_p.out.below S)
    clear R_q
    clear hb S c0_p c1_p c2_p d0_p d1_p d2_p l_p
    obtain ⟨c0_a, c1_a, c2_a, d0_a, d1_a, d2_a⟩ := X_a.out.cells
    have l_a := X_a.out.lt
    obtain ⟨c0_bc, c1_bc, c2_bc, d0_bc, d1_bc, d2_bc⟩ := X_bc.out.cells
    have l_bc := X_bc.out.lt
    go_wp2_with fail
    refine (HC_u.out _ _ _ (HT.out.below B.out) R_a.out R_bc.out).mono ?_
    rintro r w11 ⟨a_u, n_u, k_u, rfl, hv, hb⟩
    have S : Below w10.heap.size w10 w11 := hb
    replace B := Lib.hid (bl_thru B.out (Nat.le_refl _) S)
    replace X_a := Lib.hid (X_a.out.below S)
    clear X_b
    replace X_c := Lib.hid (X_c.out.below S)
    clear X_bc
    replace X_p := Lib.hid (X_p.out.below S)
    replace R_a := Lib.hid (R_a.out.below S)
    clear R_b
    replace R_c := Lib.hid (R_c.out.below S)
    clear R_bc
    replace R_p := Lib.hid (R_p.out.below S)
    have R_u := Lib.hid (rd_of (d := D_u) hv F_u.out)
    clear hb S hv c0_a c1_a c2_a d0_a d1_a d2_a l_a c0_bc c1_bc c2_bc d0_bc d1_bc d2_bc l_bc
    obtain ⟨c0_a, c1_a, c2_a, d0_a, d1_a, d2_a⟩ := X_a.out.cells
    have l_a := X_a.out.lt
    obtain ⟨c0_c, c1_c, c2_c, d0_c, d1_c, d2_c⟩ := X_c.out.cells
    have l_c := X_c.out.lt
    go_wp2_with fail
    refine (HC_v.out _ _ _ (HT.out.below (by have := B.out; have := B.out.size; go_grown)) (R_a.out.below (by go_grown)) (R_c.out.below (by go_grown))).mono ?_
    rintro r w12 ⟨a_v, n_v, k_v, rfl, hv, hb⟩
    have S : Below w11.heap.size w11 w12 := bl_thru (by go_grown) (Nat.le_refl _) hb
    replace B := Lib.hid (bl_thru B.out (Nat.le_refl _) S)
    clear X_a
    clear X_c
    replace X_p := Lib.hid (X_p.out.below S)
    have X_u := Lib.hid ((Box.new w11 _ _ _ _).below hb)
    clear R_a
    clear R_c
    replace R_p := Lib.hid (R_p.out.below S)
    replace R_u := Lib.hid (R_u.out.below S)
    have R_v := Lib.hid (rd_of (d := D_v) hv F_v.out)
    clear hb S hv c0_a c1_a c2_a d0_a d1_a d2_a l_a c0_c c1_c c2_c d0_c d1_c d2_c l_c
    obtain ⟨c0_p, c1_p, c2_p, d0_p, d1_p, d2_p⟩ := X_p.out.cells
    have l_p := X_p.out.lt
    go_wp2_with fail
    refine (HC_z.out _ _ _ (HT.out.below (by have := B.out; have := B.out.size; go_grown)) (R_p.out.below (by go_grown)) (R_v.out.below (by go_grown))).mono ?_
    rintro r w13 ⟨a_z, n_z, k_z, rfl, hv, hb⟩
    have S : Below w12.heap.size w12 w13 := bl_thru (by go_grown) (Nat.le_refl _) hb
    replace B := Lib.hid (bl_thru B.out (Nat.le_refl _) S)
    clear X_p
    replace X_u := Lib.hid (X_u.out.below S)
    clear R_p
    replace R_u := Lib.hid (R_u.out.below S)
    clear R_v
    have R_z := Lib.hid (rd_of (d := D_z) hv F_z.out)
    clear hb S hv c0_p c1_p c2_p d0_p d1_p d2_p l_p
    rcases K2.out with k5 | ⟨k5, s5⟩
    · go_wp2_with (go_at_call 31; refine (ok_new5 _ _ _ _ _  _ _ (by simp)).mono ?_; rintro e w' ⟨rfl, rfl⟩)
      go_ret
      exact ⟨rfl, (by have := B.out; have := B.out.size; go_grown)⟩
    · have S5 := Lib.hid (same_true s5)
      clear s5
      obtain ⟨c0_u, c1_u, c2_u, d0_u, d1_u, d2_u⟩ := X_u.out.cells
      have l_u := X_u.out.lt
      go_wp2_with (go_at_call 31; refine (ok_new5 _ _ _ _ _  _ _ (by simp)).mono ?_; rintro e w' ⟨rfl, rfl⟩)
      refine (S5.out _ _ _ (R_u.out.below (by go_grown)).dv (R_z.out.below (by go_grown)).dv).mono ?_
      rintro r w14 ⟨rfl, hb⟩
      have S : Below w13.heap.size w13 w14 := bl_thru (by go_grown) (Nat.le_refl _) hb
      replace B := Lib.hid (bl_thru B.out (Nat.le_refl _) S)
      clear X_u
      clear R_u
      clear R_z
      clear hb S c0_u c1_u c2_u d0_u d1_u d2_u l_u
      go_wp2
      go_ret
      exact ⟨rfl, B.out⟩
  · have S4 := Lib.hid (same_true s4)
    clear s4
    obtain ⟨c0_x, c1_x, c2_x, d0_x, d1_x, d2_x⟩ := X_x.out.cells
    have l_x := X_x.out.lt
    obtain ⟨c0_y, c1_y, c2_y, d0_y, d1_y, d2_y⟩ := X_y.out.cells
    have l_y := X_y.out.lt
    go_wp2_with (go_at_call 31; refine (ok_new4 _ _ _ _  _ _ rfl).mono ?_; rintro e w' ⟨rfl, rfl⟩)
    refine (S4.out _ _ _ (R_x.out.below (by go_grown)).dv (R_y.out.below (by go_grown)).dv).mono ?_
    rintro r w8 ⟨rfl, hb⟩
    have S : Below w7.heap.size w7 w8 := bl_thru (by go_grown) (Nat.le_refl _) hb
    replace B := Lib.hid (bl_thru B.out (Nat.le_refl _) S)
    replace X_a := Lib.hid (X_a.out.below S)
    replace X_b := Lib.hid (X_b.out.below S)
    replace X_c := Lib.hid (X_c.out.below S)
    replace X_bc := Lib.hid (X_bc.out.below S)
    clear X_x
    clear X_y
    replace R_a := Lib.hid (R_a.out.below S)
    replace R_b := Lib.hid (R_b.out.below S)
    replace R_c := Lib.hid (R_c.out.below S)
    replace R_bc := Lib.hid (R_bc.out.below S)
    clear R_x
    clear R_y
    clear hb S c0_x c1_x c2_x d0_x d1_x d2_x l_x c0_y c1_y c2_y d0_y d1_y d2_y l_y
    obtain ⟨c0_a, c1_a, c2_a, d0_a, d1_a, d2_a⟩ := X_a.out.cells
    have l_a := X_a.out.lt
    obtain ⟨c0_b, c1_b, c2_b, d0_b, d1_b, d2_b⟩ := X_b.out.cells
    have l_b := X_b.out.lt
    go_wp2_with fail
    refine (HC_p.out _ _ _ (HT.out.below B.out) R_a.out R_b.out).mono ?_
    rintro r w9 ⟨a_p, n_p, k_p, rfl, hv, hb⟩
    have S : Below w8.heap.size w8 w9 := hb
    replace B := Lib.hid (bl_thru B.out (Nat.le_refl _) S)
    replace X_a := Lib.hid (X_a.out.below S)
    replace X_b := Lib.hid (X_b.out.below S)
    replace X_c := Lib.hid (X_c.out.below S)
    replace X_bc := Lib.hid (X_bc.out.below S)
    replace R_a := Lib.hid (R_a.out.below S)
    replace R_b := Lib.hid (R_b.out.below S)
    replace R_c := Lib.hid (R_c.out.below S)
    replace R_bc := Lib.hid (R_bc.out.below S)
    have R_p := Lib.hid (rd_of (d := D_p) hv F_p.out)
    clear hb S hv c0_a c1_a c2_a d0_a d1_a d2_a l_a c0_b c1_b c2_b d0_b d1_b d2_b l_b
    obtain ⟨c0_b, c1_b, c2_b, d0_b, d1_b, d2_b⟩ := X_b.out.cells
    have l_b := X_b.out.lt
    obtain ⟨c0_a, c1_a, c2_a, d0_a, d1_a, d2_a⟩ := X_a.out.cells
    have l_a := X_a.out.lt
    go_wp2_with fail
    refine (HC_q.out _ _ _ (HT.out.below (by have := B.out; have := B.out.size; go_grown)) (R_b.out.below (by go_grown)) (R_a.out.below (by go_grown))).mono ?_
    rintro r w10 ⟨a_q, n_q, k_q, rfl, hv, hb⟩
    have S : Below w9.heap.size w9 w10 := bl_thru (by go_grown) (Nat.le_refl _) hb
    replace B := Lib.hid (bl_thru B.out (Nat.le_refl _) S)
    replace X_a := Lib.hid (X_a.out.below S)
    replace X_b := Lib.hid (X_b.out.below S)
    replace X_c := Lib.hid (X_c.out.below S)
    replace X_bc := Lib.hid (X_bc.out.below S)
    have X_p := Lib.hid ((Box.new w9 _ _ _ _).below hb)
    replace R_a := Lib.hid (R_a.out.below S)
    replace R_b := Lib.hid (R_b.out.below S)
    replace R_c := Lib.hid (R_c.out.below S)
    replace R_bc := Lib.hid (R_bc.out.below S)
    replace R_p := Lib.hid (R_p.out.below S)
    have R_q := Lib.hid (rd_of (d := D_q) hv F_q.out)
    clear hb S hv c0_b c1_b c2_b d0_b d1_b d2_b l_b c0_a c1_a c2_a d0_a d1_a d2_a l_a
    obtain ⟨c0_p, c1_p, c2_p, d0_p, d1_p, d2_p⟩ := X_p.out.cells
    have l_p := X_p.out.lt
    go_wp2_with fail
    refine (S_pq.out _ _ _ (R_p.out.below (by go_grown)).dv (R_q.out.below (by go_grown)).dv).mono ?_
    rintro r w11 ⟨rfl, hb⟩
    have S : Below w10.heap.size w10 w11 := bl_thru (by go_grown) (Nat.le_refl _) hb
    replace B := Lib.hid (bl_thru B.out (Nat.le_refl _) S)
    replace X_a := Lib.hid (X_a.out.below S)
    replace X_b := Lib.hid (X_b.out.below S)
    replace X_c := Lib.hid (X_c.out.below S)
    replace X_bc := Lib.hid (X_bc.out.below S)
    replace X_p := Lib.hid (X_p.out.below S)
    replace R_a := Lib.hid (R_a.out.below S)
    replace R_b := Lib.hid (R_b.out.below S)
    replace R_c := Lib.hid (R_c.out.below S)
    replace R_bc := Lib.hid (R_bc.out.below S)
    replace R_p := Lib.hid (R_p.out.below S)
    clear R_q
    clear hb S c0_p c1_p c2_p d0_p d1_p d2_p l_p
    obtain ⟨c0_a, c1_a, c2_a, d0_a, d1_a, d2_a⟩ := X_a.out.cells
    have l_a := X_a.out.lt
    obtain ⟨c0_bc, c1_bc, c2_bc, d0_bc, d1_bc, d2_bc⟩ := X_bc.out.cells
    have l_bc := X_bc.out.lt
    go_wp2_with fail
    refine (HC_u.out _ _ _ (HT.out.below B.out) R_a.out R_bc.out).mono ?_
    rintro r w12 ⟨a_u, n_u, k_u, rfl, hv, hb⟩
    have S : Below w11.heap.size w11 w12 := hb
    replace B := Lib.hid (bl_thru B.out (Nat.le_refl _) S)
    replace X_a := Lib.hid (X_a.out.below S)
    clear X_b
    replace X_c := Lib.hid (X_c.out.below S)
    clear X_bc
    replace X_p := Lib.hid (X_p.out.below S)
    replace R_a := Lib.hid (R_a.out.below S)
    clear R_b
    replace R_c := Lib.hid (R_c.out.below S)
    clear R_bc
    replace R_p := Lib.hid (R_p.out.below S)
    have R_u := Lib.hid (rd_of (d := D_u) hv F_u.out)
    clear hb S hv c0_a c1_a c2_a d0_a d1_a d2_a l_a c0_bc c1_bc c2_bc d0_bc d1_bc d2_bc l_bc
    obtain ⟨c0_a, c1_a, c2_a, d0_a, d1_a, d2_a⟩ := X_a.out.cells
    have l_a := X_a.out.lt
    obtain ⟨c0_c, c1_c, c2_c, d0_c, d1_c, d2_c⟩ := X_c.out.cells
    have l_c := X_c.out.lt
    go_wp2_with fail
    refine (HC_v.out _ _ _ (HT.out.below (by have := B.out; have := B.out.size; go_grown)) (R_a.out.below (by go_grown)) (R_c.out.below (by go_grown))).mono ?_
    rintro r w13 ⟨a_v, n_v, k_v, rfl, hv, hb⟩
    have S : Below w12.heap.size w12 w13 := bl_thru (by go_grown) (Nat.le_refl _) hb
    replace B := Lib.hid (bl_thru B.out (Nat.le_refl _) S)
    clear X_a
    clear X_c
    replace X_p := Lib.hid (X_p.out.below S)
    have X_u := Lib.hid ((Box.new w12 _ _ _ _).below hb)
    clear R_a
    clear R_c
    replace R_p := Lib.hid (R_p.out.below S)
    replace R_u := Lib.hid (R_u.out.below S)
    have R_v := Lib.hid (rd_of (d := D_v) hv F_v.out)
    clear hb S hv c0_a c1_a c2_a d0_a d1_a d2_a l_a c0_c c1_c c2_c d0_c d1_c d2_c l_c
    obtain ⟨c0_p, c1_p, c2_p, d0_p, d1_p, d2_p⟩ := X_p.out.cells
    have l_p := X_p.out.lt
    go_wp2_with fail
    refine (HC_z.out _ _ _ (HT.out.below (by have := B.out; have := B.out.size; go_grown)) (R_p.out.below (by go_grown)) (R_v.out.below (by go_grown))).mono ?_
    rintro r w14 ⟨a_z, n_z, k_z, rfl, hv, hb⟩
    have S : Below w13.heap.size w13 w14 := bl_thru (by go_grown) (Nat.le_refl _) hb
    replace B := Lib.hid (bl_thru B.out (Nat.le_refl _) S)
    clear X_p
    replace X_u := Lib.hid (X_u.out.below S)
    clear R_p
    replace R_u := Lib.hid (R_u.out.below S)
    clear R_v
    have R_z := Lib.hid (rd_of (d := D_z) hv F_z.out)
    clear hb S hv c0_p c1_p c2_p d0_p d1_p d2_p l_p
    rcases K2.out with k5 | ⟨k5, s5⟩
    · go_wp2_with (go_at_call 31; refine (ok_new5 _ _ _ _ _  _ _ (by simp)).mono ?_; rintro e w' ⟨rfl, rfl⟩)
      go_ret
      exact ⟨rfl, (by have := B.out; have := B.out.size; go_grown)⟩
    · have S5 := Lib.hid (same_true s5)
      clear s5
      obtain ⟨c0_u, c1_u, c2_u, d0_u, d1_u, d2_u⟩ := X_u.out.cells
      have l_u := X_u.out.lt
      go_wp2_with (go_at_call 31; refine (ok_new5 _ _ _ _ _  _ _ (by simp)).mono ?_; rintro e w' ⟨rfl, rfl⟩)
      refine (S5.out _ _ _ (R_u.out.below (by go_grown)).dv (R_z.out.below (by go_grown)).dv).mono ?_
      rintro r w15 ⟨rfl, hb⟩
      have S : Below w14.heap.size w14 w15 := bl_thru (by go_grown) (Nat.le_refl _) hb
      replace B := Lib.hid (bl_thru B.out (Nat.le_refl _) S)
      clear X_u
      clear R_u
      clear R_z
      clear hb S c0_u c1_u c2_u d0_u d1_u d2_u l_u
      go_wp2
      go_ret
      exact ⟨rfl, B.out⟩
end Go.Proofs.YtdknfdncgmeimaaDoor
