/-
  THE WALK of the law RoundOrder.
-/
import Derived.Test.YtdknfdncgmeimaaDoorToR
import Derived.Test.YtdknfdncgmeimaaDoorRoundLives
import Derived.Test.YtdknfdncgmeimaaDoorEx3
import Derived.Test.YtdknfdncgmeimaaDoorFloatB
set_option linter.unusedVariables false
set_option linter.unusedSimpArgs false
namespace Go.Proofs.YtdknfdncgmeimaaDoor
open Go.RowKit Nt Fm Fl

theorem ok3_all {a b c : Int} (h : ok3 a b c = true) : a = 0 ∧ b = 0 ∧ c = 0 := by
  unfold ok3 at h; simp [and_assoc] at h; exact h
theorem lives_tab (w : World) (h : Tab w) : Calls Tryd.prog 26 #[] w fun e w' => e = .returned (.bool true) ∧ Below w.heap.size w w' := roundLives_any w

set_option maxRecDepth 100000 in
set_option maxHeartbeats 16000000 in
theorem walkRoundOrder (vc : Value) (cc : Int) (c : D) (vd : Value) (cd : Int) (d : D) (mode : Int) (mode0 : -9223372036854775808 ≤ mode) (mode1 : mode ≤ 9223372036854775807) (w : World) (hT : Tab w) (rc : RD w vc cc c) (rd : RD w vd cd d) :
    Calls Tryd.prog 13 #[vc, vd, .int .i64 mode] w fun e w' => e = .returned (.bool true) ∧ Below w.heap.size w w' := by
  obtain ⟨x, ex, hx, hex⟩ : ∃ x e, x = roV cc mode c ∧ e = roE cc mode := ⟨_, _, rfl, rfl⟩
  obtain ⟨y, ey, hy, hey⟩ : ∃ x e, x = roV cd mode d ∧ e = roE cd mode := ⟨_, _, rfl, rfl⟩
  have xb := roV_bd cc mode c
  have yb := roV_bd cd mode d
  rw [← hx] at xb
  rw [← hy] at yb
  obtain ⟨x0, x1⟩ := xb
  obtain ⟨y0, y1⟩ := yb
  have HX := Lib.hid (fun v w' h => by
    have := to_rd v cc c mode w' h mode0 mode1
    rw [← hx, ← hex] at this; exact this)
  have HY := Lib.hid (fun v w' h => by
    have := to_rd v cd d mode w' h mode0 mode1
    rw [← hy, ← hey] at this; exact this)
  generalize roC cc mode c = bx at *
  generalize roC cd mode d = bY at *
  obtain ⟨K_k, E_k, hK_k, hE_k⟩ : ∃ K E, K = cmE cc cd (c) (d) ∧ E = ck2 cc cd := ⟨_, _, rfl, rfl⟩
  have HC_k := Lib.hid (fun v1 v2 w' h0 h1 h2 => by
    have := cmp_any v1 v2 cc cd (c) (d) w' h0 h1 h2
    rw [← hK_k, ← hE_k] at this; exact this)
  have TRI : Hid (ok3 ex ey E_k = false ∨ (ok3 ex ey E_k = true ∧ frerr x = 0 ∧ frerr y = 0 ∧ ((K_k < 0 ∧ frank x ≤ frank y) ∨ (K_k = 0 ∧ frank x = frank y) ∨ (0 < K_k ∧ frank y ≤ frank x)))) := Lib.hid (by
    cases hk : ok3 ex ey E_k
    · exact Or.inl rfl
    · refine Or.inr ⟨rfl, ?_⟩
      obtain ⟨q1, q2, q3⟩ := ok3_all hk
      rw [hex] at q1; rw [hey] at q2; rw [hE_k] at q3
      have z : K_k = cmp c d := by rw [hK_k]; unfold cmE; rw [if_pos q3]
      have hn := cmp_neg c d
      rw [hx, hy, (roV_zero _ q1).1, (roV_zero _ q2).1, z]
      refine ⟨(rank_numR _ _).2, (rank_numR _ _).2, ?_⟩
      have m1 := fun h => rank_mono (c := c) (d := d) mode h
      have m2 := fun h => rank_mono (c := d) (d := c) mode h
      rcases Int.lt_trichotomy (cmp c d) 0 with h | h | h
      · left; exact ⟨h, m1 (by omega)⟩
      · right; left
        have a1 := m1 (by omega)
        have a2 := m2 (by omega)
        exact ⟨h, by omega⟩
      · right; right; exact ⟨h, m2 (by omega)⟩)
  clear hx hy hex hey hK_k hE_k
  have fx := frank_bd x
  have fy := frank_bd y
  have k2 := ok2_mk
  have R_c := Lib.hid rc
  have R_d := Lib.hid rd
  have HT := Lib.hid hT
  clear hT
  obtain ⟨gc, ac, nc, pc, xc, rfl, -⟩ := rc
  obtain ⟨gd, ad, nd, pd, xd, rfl, -⟩ := rd
  go_enter Tryd.func13, Tryd.ntmps13
  go_wp2_with fail
  refine (HX.out _ _ (R_c.out.below (by go_grown))).mono ?_
  rintro r w1 ⟨rfl, hb⟩
  have S : Below w.heap.size w w1 := bl_thru (by go_grown) (Nat.le_refl _) hb
  have B := Lib.hid S
  have X_c := Lib.hid (((Box.new w _ _ _ _).alloc _).below hb)
  have X_d := Lib.hid ((Box.new2 w _ _ _ _ _).below hb)
  replace R_c := Lib.hid (R_c.out.below S)
  replace R_d := Lib.hid (R_d.out.below S)
  clear hb S
  obtain ⟨c0_d, c1_d, c2_d, d0_d, d1_d, d2_d⟩ := X_d.out.cells
  have l_d := X_d.out.lt
  go_wp2_with fail
  refine (HY.out _ _ R_d.out).mono ?_
  rintro r w2 ⟨rfl, hb⟩
  have S : Below w1.heap.size w1 w2 := hb
  replace B := Lib.hid (bl_thru B.out (Nat.le_refl _) S)
  replace X_c := Lib.hid (X_c.out.below S)
  replace X_d := Lib.hid (X_d.out.below S)
  replace R_c := Lib.hid (R_c.out.below S)
  replace R_d := Lib.hid (R_d.out.below S)
  clear hb S c0_d c1_d c2_d d0_d d1_d d2_d l_d
  obtain ⟨c0_c, c1_c, c2_c, d0_c, d1_c, d2_c⟩ := X_c.out.cells
  have l_c := X_c.out.lt
  obtain ⟨c0_d, c1_d, c2_d, d0_d, d1_d, d2_d⟩ := X_d.out.cells
  have l_d := X_d.out.lt
  go_wp2_with fail
  refine (HC_k.out _ _ _ (HT.out.below B.out) R_c.out R_d.out).mono ?_
  rintro r w3 ⟨rfl, hb⟩
  have S : Below w2.heap.size w2 w3 := hb
  replace B := Lib.hid (bl_thru B.out (Nat.le_refl _) S)
  clear X_c
  clear X_d
  clear R_c
  clear R_d
  clear hb S c0_c c1_c c2_c d0_c d1_c d2_c l_c c0_d c1_d c2_d d0_d d1_d d2_d l_d
  go_wp2_with fail
  refine (lives_tab _ (HT.out.below B.out)).mono ?_
  rintro r w4 ⟨rfl, hb⟩
  have S : Below w3.heap.size w3 w4 := hb
  replace B := Lib.hid (bl_thru B.out (Nat.le_refl _) S)
  clear hb S
  rcases TRI.out with k3 | ⟨k3, e1, e2, ⟨g1, g2⟩ | ⟨g1, g2⟩ | ⟨g1, g2⟩⟩
  · go_wp2_with (go_at_call 31; refine (ok_new3 _ _ _  _ _ rfl).mono ?_; rintro e w' ⟨rfl, rfl⟩)
    refine (lives_tab _ (HT.out.below (by have := B.out; have := B.out.size; go_grown))).mono ?_
    rintro r w5 ⟨rfl, hb⟩
    have S : Below w4.heap.size w4 w5 := bl_thru (by go_grown) (Nat.le_refl _) hb
    replace B := Lib.hid (bl_thru B.out (Nat.le_refl _) S)
    clear hb S
    go_wp2
    go_ret
    exact ⟨rfl, B.out⟩
  · have g5 : K_k ≤ 0 := by omega
    go_wp2_with (go_at_call 31; refine (ok_new3 _ _ _  _ _ rfl).mono ?_; rintro e w' ⟨rfl, rfl⟩)
    go_wp2_with (go_at_call 47; refine (rank_any _ (by omega) (by omega) _).mono ?_; rintro e w' ⟨rfl, rfl⟩)
    go_wp2_with (go_at_call 31; refine (ok_new2 _ _  _ _ (by simp)).mono ?_; rintro e w' ⟨rfl, rfl⟩)
    go_ret
    exact ⟨rfl, (by have := B.out; have := B.out.size; go_grown)⟩
  · have g3 : frank y ≤ frank x := by omega
    have g4 : frank x ≤ frank y := by omega
    have g5 : K_k ≤ 0 := by omega
    have g6 : 0 ≤ K_k := by omega
    clear g1 g2
    go_wp2_with (go_at_call 31; refine (ok_new3 _ _ _  _ _ rfl).mono ?_; rintro e w' ⟨rfl, rfl⟩)
    go_wp2_with (go_at_call 47; refine (rank_any _ (by omega) (by omega) _).mono ?_; rintro e w' ⟨rfl, rfl⟩)
    go_wp2_with (go_at_call 31; refine (ok_new2 _ _  _ _ (by simp)).mono ?_; rintro e w' ⟨rfl, rfl⟩)
    go_ret
    exact ⟨rfl, (by have := B.out; have := B.out.size; go_grown)⟩
  · have g5 : 0 ≤ K_k := by omega
    go_wp2_with (go_at_call 31; refine (ok_new3 _ _ _  _ _ rfl).mono ?_; rintro e w' ⟨rfl, rfl⟩)
    go_wp2_with (go_at_call 47; refine (rank_any _ (by omega) (by omega) _).mono ?_; rintro e w' ⟨rfl, rfl⟩)
    go_wp2_with (go_at_call 31; refine (ok_new2 _ _  _ _ (by simp)).mono ?_; rintro e w' ⟨rfl, rfl⟩)
    go_ret
    exact ⟨rfl, (by have := B.out; have := B.out.size; go_grown)⟩
end Go.Proofs.YtdknfdncgmeimaaDoor
