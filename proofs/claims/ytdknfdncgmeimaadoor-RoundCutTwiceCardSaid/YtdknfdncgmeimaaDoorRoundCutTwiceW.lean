/-
  THE WALK of the law RoundCutTwice.
-/
import Derived.Test.YtdknfdncgmeimaaDoorCu
import Derived.Test.YtdknfdncgmeimaaDoorWi
import Derived.Test.YtdknfdncgmeimaaDoorRoundLives
import Derived.Test.YtdknfdncgmeimaaDoorEx3
set_option linter.unusedVariables false
set_option linter.unusedSimpArgs false
namespace Go.Proofs.YtdknfdncgmeimaaDoor
open Go.RowKit Nt Fm Fl

theorem lives_tab2 (w : World) (h : Tab w) : Calls Tryd.prog 26 #[] w fun e w' => e = .returned (.bool true) ∧ Below w.heap.size w w' := roundLives_any w
theorem same_to {d1 d2 : D} {b : Bool} (hs : sameB d1 d2 = b) (v1 v2 : Value) (w : World) (h1 : DV w v1 d1) (h2 : DV w v2 d2) :
    Calls Tryd.prog 30 #[v1, v2] w fun r w' => r = .returned (.bool b) ∧ Below w.heap.size w w' := by
  have := same_any v1 v2 d1 d2 w h1 h2
  rw [hs] at this; exact this
theorem okc2 {a b : Int} (h : ok2 a b = true) : a = 0 ∧ b = 0 := by
  unfold ok2 at h; simp at h; exact h
theorem cutE_0 {c pl mode : Int} {d : D} (h : cutE c pl mode d = 0) : c = 0 ∧ (0 ≤ mode ∧ mode ≤ 4) ∧ -20000 ≤ pl ∧ pl ≤ 20000 ∧ cutR c pl mode d = mulD d pl mode ∧ cutB c pl mode d = mulC d pl := by
  have e2 : cutR c pl mode d = mulD d pl mode := by unfold cutR; rw [if_pos h]
  have e3 : cutB c pl mode d = mulC d pl := by unfold cutB; rw [if_pos h]
  unfold cutE at h
  split at h
  · rename_i h1
    split at h
    · rename_i h2
      split at h
      · exact absurd h (by decide)
      · exact ⟨h1, by unfold knownB at h2; simpa using h2, by omega, by omega, e2, e3⟩
    · exact absurd h (by decide)
  · contradiction
theorem cut_again {c pl few mode : Int} {d : D} (hd : c = 0 → d.Nf) (h : cutE c pl mode d = 0) (f0 : -20000 ≤ few) (f1 : few ≤ pl) :
    cutE 0 few mode (cutR c pl mode d) = 0 ∧ cutR 0 few mode (cutR c pl mode d) = cutR c pl mode d ∧ cutB 0 few mode (cutR c pl mode d) = false := by
  obtain ⟨h1, h2, h3, h4, h5, h6⟩ := cutE_0 h
  obtain ⟨a1, a2⟩ := mul_again (few := few) (hd h1) h2.1 h2.2 f1 mode
  have hf := cutR_fit c pl mode d
  rw [h5] at hf ⊢
  have hk : knownB mode = true := by unfold knownB; rw [decide_eq_true_eq]; exact h2
  have e : cutE 0 few mode (mulD d pl mode) = 0 := by
    unfold cutE; rw [if_pos rfl, hk, if_pos rfl, if_neg (by omega), a1, fitE_of hf]
  refine ⟨e, ?_, ?_⟩
  · unfold cutR; rw [if_pos e, a1]
  · unfold cutB; rw [if_pos e, a2]
theorem cut_between {c pl mode : Int} {d : D} (hd : c = 0 → d.Nf) (h : cutE c pl mode d = 0) (g : cutE c pl 2 d = 0) (k : cutE c pl 1 d = 0) :
    cutB c pl 2 d = cutB c pl mode d ∧ cutB c pl 1 d = cutB c pl mode d ∧ cmp (cutR c pl 2 d) d ≤ 0 ∧ cmp d (cutR c pl 1 d) ≤ 0 ∧ (cutB c pl mode d = false → cmp (cutR c pl 2 d) d = 0 ∧ cmp d (cutR c pl 1 d) = 0) := by
  obtain ⟨h1, h2, h3, h4, h5, h6⟩ := cutE_0 h
  obtain ⟨-, -, -, -, g5, g6⟩ := cutE_0 g
  obtain ⟨-, -, -, -, k5, k6⟩ := cutE_0 k
  have hn := hd h1
  rw [h6, g6, k6, g5, k5]
  obtain ⟨T, t1, t2⟩ := exT d.e pl
  have el : ∀ m, 0 ≤ m → m ≤ 4 → 0 ≤ (mulD d pl m).e + (T : Int) := fun m m0 m1 => by
    obtain ⟨J, -, -, -, -, j5⟩ := mul_spec d pl m hn t1 t2 m0 m1
    rcases j5 with h | h
    · rw [h]; unfold nz; simp only; omega
    · omega
  refine ⟨rfl, rfl, (cmp_le (el 2 (by decide) (by decide)) t1).2 (mul_down hn t1 t2), (cmp_le t1 (el 1 (by decide) (by decide))).2 (mul_up hn t1 t2), fun hc => ?_⟩
  rw [(mul_same hn (by decide) (by decide)).1 hc, (mul_same hn (by decide) (by decide)).1 hc]
  exact ⟨(cmp_zero hn hn).2 rfl, (cmp_zero hn hn).2 rfl⟩

set_option maxRecDepth 100000 in
set_option maxHeartbeats 16000000 in
theorem walkRoundCutTwice (vd : Value) (cd : Int) (d : D) (places : Int) (places0 : -9223372036854775808 ≤ places) (places1 : places ≤ 9223372036854775807) (fewer : Int) (fewer0 : -9223372036854775808 ≤ fewer) (fewer1 : fewer ≤ 9223372036854775807) (mode : Int) (mode0 : -9223372036854775808 ≤ mode) (mode1 : mode ≤ 9223372036854775807) (w : World) (hT : Tab w) (rd : RD w vd cd d) :
    Calls Tryd.prog 15 #[vd, .int .i64 places, .int .i64 fewer, .int .i64 mode] w fun e w' => e = .returned (.bool true) ∧ Below w.heap.size w w' := by
  have hnf : cd = 0 → d.Nf := fun h => by subst h; exact rd.fit.1
  obtain ⟨E_x, D_x, C_x, hE_x, hD_x, hC_x⟩ : ∃ E D C, E = cutE cd places mode d ∧ D = cutR cd places mode d ∧ C = cutB cd places mode d := ⟨_, _, _, rfl, rfl, rfl⟩
  have HC_x := Lib.hid (fun v w' h0 h1 => by
    have := rcut_any v cd d places mode w' h0 h1 places0 places1
    rw [← hE_x, ← hD_x, ← hC_x] at this; exact this)
  have F_x : Hid (Fit D_x) := Lib.hid (by rw [hD_x]; exact cutR_fit _ _ _ _)
  obtain ⟨E_low, D_low, C_low, hE_low, hD_low, hC_low⟩ : ∃ E D C, E = cutE cd places 2 d ∧ D = cutR cd places 2 d ∧ C = cutB cd places 2 d := ⟨_, _, _, rfl, rfl, rfl⟩
  have HC_low := Lib.hid (fun v w' h0 h1 => by
    have := rcut_any v cd d places 2 w' h0 h1 places0 places1
    rw [← hE_low, ← hD_low, ← hC_low] at this; exact this)
  have F_low : Hid (Fit D_low) := Lib.hid (by rw [hD_low]; exact cutR_fit _ _ _ _)
  obtain ⟨E_high, D_high, C_high, hE_high, hD_high, hC_high⟩ : ∃ E D C, E = cutE cd places 1 d ∧ D = cutR cd places 1 d ∧ C = cutB cd places 1 d := ⟨_, _, _, rfl, rfl, rfl⟩
  have HC_high := Lib.hid (fun v w' h0 h1 => by
    have := rcut_any v cd d places 1 w' h0 h1 places0 places1
    rw [← hE_high, ← hD_high, ← hC_high] at this; exact this)
  have F_high : Hid (Fit D_high) := Lib.hid (by rw [hD_high]; exact cutR_fit _ _ _ _)
  have HCY : Hid (E_x = 0 → -20000 ≤ fewer → fewer ≤ places → ∀ v w', Tab w' → RD w' v 0 D_x → Calls Tryd.prog 48 #[v, .int .i64 fewer, .int .i64 mode] w' (RetCut w' 0 D_x false)) := Lib.hid (fun he f0 f1 v w' h0 h1 => by
    rw [hE_x] at he
    obtain ⟨a, b, c⟩ := cut_again hnf he f0 f1
    have := rcut_any v 0 D_x fewer mode w' h0 h1 fewer0 fewer1
    rw [hD_x] at this ⊢
    rw [a, b, c] at this; exact this)
  have SM : Hid (∀ v1 v2 w', DV w' v1 D_x → DV w' v2 D_x → Calls Tryd.prog 30 #[v1, v2] w' fun r w'' => r = .returned (.bool true) ∧ Below w'.heap.size w' w'') := Lib.hid (fun v1 v2 w' h1 h2 => same_to (sameB_refl D_x) v1 v2 w' h1 h2)
  have HCM : Hid (cd = 0 → ∀ d1 d2 v1 v2 w', Tab w' → RD w' v1 0 d1 → RD w' v2 0 d2 → Calls Tryd.prog 33 #[v1, v2] w' fun r w'' => r = .returned (.tuple #[.int .i64 (cmp d1 d2), .int .i64 0]) ∧ Below w'.heap.size w' w'') := Lib.hid (fun _ d1 d2 v1 v2 w' h0 h1 h2 => by
    have := cmp_any v1 v2 0 0 d1 d2 w' h0 h1 h2
    have e1 : cmE 0 0 d1 d2 = cmp d1 d2 := by unfold cmE; rw [if_pos (by rfl)]
    have e2 : ck2 0 0 = 0 := rfl
    rw [e1, e2] at this; exact this)
  have K : Hid (E_x = 0 → cd = 0 ∧ (ok2 E_low E_high = false ∨ (ok2 E_low E_high = true ∧ C_low = C_x ∧ C_high = C_x ∧ cmp D_low d ≤ 0 ∧ cmp d D_high ≤ 0 ∧ (C_x = true ∨ (C_x = false ∧ cmp D_low d = 0 ∧ cmp d D_high = 0))))) := Lib.hid (fun he => by
    rw [hE_x] at he
    refine ⟨(cutE_0 he).1, ?_⟩
    cases hk : ok2 E_low E_high
    · exact Or.inl rfl
    · right; refine ⟨rfl, ?_⟩
      obtain ⟨k1, k2⟩ := okc2 hk
      rw [hE_low] at k1; rw [hE_high] at k2
      obtain ⟨a, b, c, e, f⟩ := cut_between hnf he k1 k2
      rw [hC_low, hC_high, hC_x, hD_low, hD_high]
      refine ⟨a, b, c, e, ?_⟩
      cases hc : cutB cd places mode d
      · right; exact ⟨rfl, f hc⟩
      · left; rfl)
  clear hE_x hD_x hC_x hE_low hD_low hC_low hE_high hD_high hC_high hnf
  have hcase : (E_x ≠ 0) ∨ (E_x = 0 ∧ (fewer < -20000 ∨ (-20000 ≤ fewer ∧ (places < fewer ∨ fewer ≤ places)))) := by omega
  have R_d := Lib.hid rd
  have HT := Lib.hid hT
  clear hT
  obtain ⟨gd, ad, nd, pd, xd, rfl, -⟩ := rd
  rcases hcase with he | ⟨he, f0 | ⟨f0, f1 | f1⟩⟩
  · have he2 : (E_x != 0) = true := by rw [bne_iff_ne]; exact he
    clear he
    clear K HCY
    go_enter Tryd.func15, Tryd.ntmps15
    go_wp2_with fail
    refine (HC_x.out _ _ (HT.out.below (by go_grown)) (R_d.out.below (by go_grown))).mono ?_
    rintro r w1 ⟨a_x, n_x, k_x, rfl, hv, hb⟩
    have S : Below w.heap.size w w1 := bl_thru (by go_grown) (Nat.le_refl _) hb
    have B := Lib.hid S
    have X_d := Lib.hid ((Box.new w _ _ _ _).below hb)
    replace R_d := Lib.hid (R_d.out.below S)
    have R_x := Lib.hid (rd_of (d := D_x) hv F_x.out)
    clear hb S hv
    go_wp2_with fail
    refine (lives_tab2 _ (HT.out.below (by have := B.out; have := B.out.size; go_grown))).mono ?_
    rintro r w2 ⟨rfl, hb⟩
    have S : Below w1.heap.size w1 w2 := bl_thru (by go_grown) (Nat.le_refl _) hb
    replace B := Lib.hid (bl_thru B.out (Nat.le_refl _) S)
    replace X_d := Lib.hid (X_d.out.below S)
    have X_x := Lib.hid ((Box.new w1 _ _ _ _).below hb)
    replace R_d := Lib.hid (R_d.out.below S)
    replace R_x := Lib.hid (R_x.out.below S)
    clear hb S
    go_wp2_with fail
    refine (lives_tab2 _ (HT.out.below B.out)).mono ?_
    rintro r w3 ⟨rfl, hb⟩
    have S : Below w2.heap.size w2 w3 := hb
    replace B := Lib.hid (bl_thru B.out (Nat.le_refl _) S)
    replace X_d := Lib.hid (X_d.out.below S)
    replace X_x := Lib.hid (X_x.out.below S)
    replace R_d := Lib.hid (R_d.out.below S)
    replace R_x := Lib.hid (R_x.out.below S)
    clear hb S
    go_wp2
    go_ret
    exact ⟨rfl, B.out⟩
  · subst he
    clear K HCY
    go_enter Tryd.func15, Tryd.ntmps15
    go_wp2_with fail
    refine (HC_x.out _ _ (HT.out.below (by go_grown)) (R_d.out.below (by go_grown))).mono ?_
    rintro r w1 ⟨a_x, n_x, k_x, rfl, hv, hb⟩
    have S : Below w.heap.size w w1 := bl_thru (by go_grown) (Nat.le_refl _) hb
    have B := Lib.hid S
    have X_d := Lib.hid ((Box.new w _ _ _ _).below hb)
    replace R_d := Lib.hid (R_d.out.below S)
    have R_x := Lib.hid (rd_of (d := D_x) hv F_x.out)
    clear hb S hv
    go_wp2_with fail
    refine (lives_tab2 _ (HT.out.below (by have := B.out; have := B.out.size; go_grown))).mono ?_
    rintro r w2 ⟨rfl, hb⟩
    have S : Below w1.heap.size w1 w2 := bl_thru (by go_grown) (Nat.le_refl _) hb
    replace B := Lib.hid (bl_thru B.out (Nat.le_refl _) S)
    replace X_d := Lib.hid (X_d.out.below S)
    have X_x := Lib.hid ((Box.new w1 _ _ _ _).below hb)
    replace R_d := Lib.hid (R_d.out.below S)
    replace R_x := Lib.hid (R_x.out.below S)
    clear hb S
    go_wp2_with fail
    refine (lives_tab2 _ (HT.out.below B.out)).mono ?_
    rintro r w3 ⟨rfl, hb⟩
    have S : Below w2.heap.size w2 w3 := hb
    replace B := Lib.hid (bl_thru B.out (Nat.le_refl _) S)
    replace X_d := Lib.hid (X_d.out.below S)
    replace X_x := Lib.hid (X_x.out.below S)
    replace R_d := Lib.hid (R_d.out.below S)
    replace R_x := Lib.hid (R_x.out.below S)
    clear hb S
    go_wp2
    go_ret
    exact ⟨rfl, B.out⟩
  · subst he
    clear K HCY
    go_enter Tryd.func15, Tryd.ntmps15
    go_wp2_with fail
    refine (HC_x.out _ _ (HT.out.below (by go_grown)) (R_d.out.below (by go_grown))).mono ?_
    rintro r w1 ⟨a_x, n_x, k_x, rfl, hv, hb⟩
    have S : Below w.heap.size w w1 := bl_thru (by go_grown) (Nat.le_refl _) hb
    have B := Lib.hid S
    have X_d := Lib.hid ((Box.new w _ _ _ _).below hb)
    replace R_d := Lib.hid (R_d.out.below S)
    have R_x := Lib.hid (rd_of (d := D_x) hv F_x.out)
    clear hb S hv
    go_wp2_with fail
    refine (lives_tab2 _ (HT.out.below (by have := B.out; have := B.out.size; go_grown))).mono ?_
    rintro r w2 ⟨rfl, hb⟩
    have S : Below w1.heap.size w1 w2 := bl_thru (by go_grown) (Nat.le_refl _) hb
    replace B := Lib.hid (bl_thru B.out (Nat.le_refl _) S)
    replace X_d := Lib.hid (X_d.out.below S)
    have X_x := Lib.hid ((Box.new w1 _ _ _ _).below hb)
    replace R_d := Lib.hid (R_d.out.below S)
    replace R_x := Lib.hid (R_x.out.below S)
    clear hb S
    go_wp2_with fail
    refine (lives_tab2 _ (HT.out.below B.out)).mono ?_
    rintro r w3 ⟨rfl, hb⟩
    have S : Below w2.heap.size w2 w3 := hb
    replace B := Lib.hid (bl_thru B.out (Nat.le_refl _) S)
    replace X_d := Lib.hid (X_d.out.below S)
    replace X_x := Lib.hid (X_x.out.below S)
    replace R_d := Lib.hid (R_d.out.below S)
    replace R_x := Lib.hid (R_x.out.below S)
    clear hb S
    go_wp2
    go_ret
    exact ⟨rfl, B.out⟩
  · subst he
    have HY := Lib.hid (HCY.out rfl f0 f1)
    obtain ⟨rfl, hk⟩ := K.out rfl
    have HCM2 := Lib.hid (HCM.out rfl)
    have HK := Lib.hid hk
    clear K HCY HCM hk
    go_enter Tryd.func15, Tryd.ntmps15
    go_wp2_with fail
    refine (HC_x.out _ _ (HT.out.below (by go_grown)) (R_d.out.below (by go_grown))).mono ?_
    rintro r w1 ⟨a_x, n_x, k_x, rfl, hv, hb⟩
    have S : Below w.heap.size w w1 := bl_thru (by go_grown) (Nat.le_refl _) hb
    have B := Lib.hid S
    have X_d := Lib.hid ((Box.new w _ _ _ _).below hb)
    replace R_d := Lib.hid (R_d.out.below S)
    have R_x := Lib.hid (rd_of (d := D_x) hv F_x.out)
    clear hb S hv
    go_wp2_with fail
    refine (lives_tab2 _ (HT.out.below (by have := B.out; have := B.out.size; go_grown))).mono ?_
    rintro r w2 ⟨rfl, hb⟩
    have S : Below w1.heap.size w1 w2 := bl_thru (by go_grown) (Nat.le_refl _) hb
    replace B := Lib.hid (bl_thru B.out (Nat.le_refl _) S)
    replace X_d := Lib.hid (X_d.out.below S)
    have X_x := Lib.hid ((Box.new w1 _ _ _ _).below hb)
    replace R_d := Lib.hid (R_d.out.below S)
    replace R_x := Lib.hid (R_x.out.below S)
    clear hb S
    obtain ⟨c0_x, c1_x, c2_x, d0_x, d1_x, d2_x⟩ := X_x.out.cells
    have l_x := X_x.out.lt
    go_wp2_with fail
    obtain ⟨D_y, hD_y⟩ : ∃ D, D = D_x := ⟨_, rfl⟩
    have F_y : Hid (Fit D_y) := by rw [hD_y]; exact F_x
    have HY2 : Hid (∀ v w', Tab w' → RD w' v 0 D_x → Calls Tryd.prog 48 #[v, .int .i64 fewer, .int .i64 mode] w' (RetCut w' 0 D_y false)) := by rw [hD_y]; exact HY
    have SM2 : Hid (∀ v1 v2 w', DV w' v1 D_x → DV w' v2 D_y → Calls Tryd.prog 30 #[v1, v2] w' fun r w'' => r = .returned (.bool true) ∧ Below w'.heap.size w' w'') := by rw [hD_y]; exact SM
    clear HY SM hD_y
    refine (HY2.out _ _ (HT.out.below B.out) R_x.out).mono ?_
    rintro r w3 ⟨a_y, n_y, k_y, rfl, hv, hb⟩
    have S : Below w2.heap.size w2 w3 := hb
    replace B := Lib.hid (bl_thru B.out (Nat.le_refl _) S)
    replace X_d := Lib.hid (X_d.out.below S)
    replace X_x := Lib.hid (X_x.out.below S)
    replace R_d := Lib.hid (R_d.out.below S)
    replace R_x := Lib.hid (R_x.out.below S)
    have R_y := Lib.hid (rd_of (d := D_y) hv F_y.out)
    clear hb S hv
    obtain ⟨c0_x, c1_x, c2_x, d0_x, d1_x, d2_x⟩ := X_x.out.cells
    have l_x := X_x.out.lt
    go_wp2_with fail
    refine (SM2.out _ _ _ (R_x.out.below (by go_grown)).dv (R_y.out.below (by go_grown)).dv).mono ?_
    rintro r w4 ⟨rfl, hb⟩
    have S : Below w3.heap.size w3 w4 := bl_thru (by go_grown) (Nat.le_refl _) hb
    replace B := Lib.hid (bl_thru B.out (Nat.le_refl _) S)
    replace X_d := Lib.hid (X_d.out.below S)
    clear X_x
    replace R_d := Lib.hid (R_d.out.below S)
    clear R_x
    clear R_y
    clear hb S c0_x c1_x c2_x d0_x d1_x d2_x l_x
    obtain ⟨c0_d, c1_d, c2_d, d0_d, d1_d, d2_d⟩ := X_d.out.cells
    have l_d := X_d.out.lt
    go_wp2_with fail
    refine (HC_low.out _ _ (HT.out.below B.out) R_d.out).mono ?_
    rintro r w5 ⟨a_low, n_low, k_low, rfl, hv, hb⟩
    have S : Below w4.heap.size w4 w5 := hb
    replace B := Lib.hid (bl_thru B.out (Nat.le_refl _) S)
    replace X_d := Lib.hid (X_d.out.below S)
    replace R_d := Lib.hid (R_d.out.below S)
    have R_low := Lib.hid (rd_of (d := D_low) hv F_low.out)
    clear hb S hv c0_d c1_d c2_d d0_d d1_d d2_d l_d
    obtain ⟨c0_d, c1_d, c2_d, d0_d, d1_d, d2_d⟩ := X_d.out.cells
    have l_d := X_d.out.lt
    go_wp2_with fail
    refine (HC_high.out _ _ (HT.out.below (by have := B.out; have := B.out.size; go_grown)) (R_d.out.below (by go_grown))).mono ?_
    rintro r w6 ⟨a_high, n_high, k_high, rfl, hv, hb⟩
    have S : Below w5.heap.size w5 w6 := bl_thru (by go_grown) (Nat.le_refl _) hb
    replace B := Lib.hid (bl_thru B.out (Nat.le_refl _) S)
    replace X_d := Lib.hid (X_d.out.below S)
    have X_low := Lib.hid ((Box.new w5 _ _ _ _).below hb)
    replace R_d := Lib.hid (R_d.out.below S)
    replace R_low := Lib.hid (R_low.out.below S)
    have R_high := Lib.hid (rd_of (d := D_high) hv F_high.out)
    clear hb S hv c0_d c1_d c2_d d0_d d1_d d2_d l_d
    rcases HK.out with k2 | ⟨k2, rfl, rfl, j1, j2, j3⟩
    · go_wp2_with (go_at_call 31; refine (ok_new2 _ _  _ _ (by simp)).mono ?_; rintro e w' ⟨rfl, rfl⟩)
      go_ret
      exact ⟨rfl, (by have := B.out; have := B.out.size; go_grown)⟩
    · clear HK
      obtain ⟨c0_low, c1_low, c2_low, d0_low, d1_low, d2_low⟩ := X_low.out.cells
      have l_low := X_low.out.lt
      obtain ⟨c0_d, c1_d, c2_d, d0_d, d1_d, d2_d⟩ := X_d.out.cells
      have l_d := X_d.out.lt
      go_wp2_with (go_at_call 31; refine (ok_new2 _ _  _ _ (by simp)).mono ?_; rintro e w' ⟨rfl, rfl⟩)
      refine (HCM2.out D_low d _ _ _ (HT.out.below (by have := B.out; have := B.out.size; go_grown)) (R_low.out.below (by go_grown)) (R_d.out.below (by go_grown))).mono ?_
      rintro r w7 ⟨rfl, hb⟩
      have S : Below w6.heap.size w6 w7 := bl_thru (by go_grown) (Nat.le_refl _) hb
      replace B := Lib.hid (bl_thru B.out (Nat.le_refl _) S)
      replace X_d := Lib.hid (X_d.out.below S)
      replace X_low := Lib.hid (X_low.out.below S)
      have X_high := Lib.hid (((Box.new w6 _ _ _ _).alloc _).below hb)
      replace R_d := Lib.hid (R_d.out.below S)
      replace R_low := Lib.hid (R_low.out.below S)
      replace R_high := Lib.hid (R_high.out.below S)
      clear hb S c0_low c1_low c2_low d0_low d1_low d2_low l_low c0_d c1_d c2_d d0_d d1_d d2_d l_d
      obtain ⟨c0_d, c1_d, c2_d, d0_d, d1_d, d2_d⟩ := X_d.out.cells
      have l_d := X_d.out.lt
      obtain ⟨c0_high, c1_high, c2_high, d0_high, d1_high, d2_high⟩ := X_high.out.cells
      have l_high := X_high.out.lt
      go_wp2_with fail
      refine (HCM2.out d D_high _ _ _ (HT.out.below B.out) R_d.out R_high.out).mono ?_
      rintro r w8 ⟨rfl, hb⟩
      have S : Below w7.heap.size w7 w8 := hb
      replace B := Lib.hid (bl_thru B.out (Nat.le_refl _) S)
      clear X_d
      clear X_low
      clear X_high
      clear R_d
      clear R_low
      clear R_high
      clear hb S c0_d c1_d c2_d d0_d d1_d d2_d l_d c0_high c1_high c2_high d0_high d1_high d2_high l_high
      generalize cmp D_low d = J at *
      generalize cmp d D_high = L at *
      rcases j3 with rfl | ⟨rfl, rfl, rfl⟩
      all_goals
        go_wp2_with (go_at_call 31; refine (ok_new2 _ _  _ _ rfl).mono ?_; rintro e w' ⟨rfl, rfl⟩)
        go_ret
        exact ⟨rfl, (by have := B.out; have := B.out.size; go_grown)⟩
end Go.Proofs.YtdknfdncgmeimaaDoor
