/-
  THE WALK of the law ExpoBounds.
-/
import Derived.Test.YtmpdbmaokbhcjaaDoorUvx
set_option linter.unusedVariables false
set_option linter.unusedSimpArgs false
namespace Go.Proofs.YtmpdbmaokbhcjaaDoor
open Go.RowKit Nt Fm Fl

theorem ok2_z {a b : Int} (h : ok2 a b = true) : a = 0 ∧ b = 0 := by
  unfold ok2 at h; simp [and_assoc] at h; exact h
theorem ok3_z {a b c : Int} (h : ok3 a b c = true) : a = 0 ∧ b = 0 ∧ c = 0 := by
  unfold ok3 at h; simp [and_assoc] at h; exact h
theorem xpE_z {mode : Int} (h : xpE mode = 0) : knownB mode = true := by
  unfold xpE at h
  cases hk : knownB mode
  · rw [hk] at h; exact absurd h (by decide)
  · rfl
set_option maxRecDepth 100000 in
set_option maxHeartbeats 16000000 in
theorem walkExpoBounds (x : Int) (x0 : 0 ≤ x) (x1 : x ≤ 18446744073709551615) (w : World) (hT : Tab w) :
    Calls Tryd.prog 8 #[.int .u64 x] w fun e w' => e = .returned (.bool true) ∧ Below w.heap.size w w' := by
  obtain ⟨V_a, hV_a⟩ : ∃ V, V = x1V x 2 := ⟨_, rfl⟩
  have U_a : 0 ≤ V_a ∧ V_a ≤ 18446744073709551615 := by rw [hV_a]; exact x1_u x0 x1
  have HG_a := Lib.hid (fun w' ht => by
    have := xexpm1_any x 2 w' ht x0 x1 (by decide) (by decide)
    rw [← hV_a, xpE_t (show knownB 2 = true by decide), show xpC x 2 = finB x from by unfold xpC; rw [(show knownB 2 = true by decide)]; rfl] at this; exact this)
  obtain ⟨V_b, hV_b⟩ : ∃ V, V = lpV x 1 := ⟨_, rfl⟩
  have U_b : 0 ≤ V_b ∧ V_b ≤ 18446744073709551615 := by rw [hV_b]; exact lp_u x0 x1
  have HG_b := Lib.hid (fun w' ht => by
    have := xlog1p_any x 1 w' ht x0 x1 (by decide) (by decide)
    rw [← hV_b, xpE_t (show knownB 1 = true by decide), show lpC x 1 = (finB x && decide (x < 13830554455654793216)) from by unfold lpC; rw [(show knownB 1 = true by decide)]; rfl] at this; exact this)
  obtain ⟨K_a, J_a, hK_a, hJ_a⟩ : ∃ K J, K = frank V_a ∧ J = frerr V_a := ⟨_, _, rfl, rfl⟩
  have HR_a := Lib.hid (fun w' => by
    have := rank_any V_a U_a.1 U_a.2 w'
    rw [← hK_a, ← hJ_a] at this; exact this)
  obtain ⟨K_b, J_b, hK_b, hJ_b⟩ : ∃ K J, K = frank V_b ∧ J = frerr V_b := ⟨_, _, rfl, rfl⟩
  have HR_b := Lib.hid (fun w' => by
    have := rank_any V_b U_b.1 U_b.2 w'
    rw [← hK_b, ← hJ_b] at this; exact this)
  obtain ⟨n, e, hn, he⟩ : ∃ n e, n = frank x ∧ e = frerr x := ⟨_, _, rfl, rfl⟩
  have RX := Lib.hid (fun w' => rank_any x x0 x1 w')
  rw [← hn, ← he] at RX
  have hl : e = 0 → (J_a = 0 ∧ n ≤ K_a) ∧ (J_b = 0 → K_b ≤ n) := fun h => by
    have := bounds_law x0 x1 (he.symm.trans h)
    rw [hJ_a, hJ_b, hK_a, hK_b, hV_a, hV_b, hn]; exact this
  have hcase : (ok3 e 0 0 = false) ∨ (ok3 e 0 0 = true ∧ ((J_a == 0) = true ∧ n ≤ K_a) ∧ ((J_b != 0) = true ∨ (J_b = 0 ∧ K_b ≤ n))) := by
    cases hk : ok3 e 0 0
    · exact Or.inl rfl
    · right
      obtain ⟨a, b⟩ := hl (ok3_z hk).1
      refine ⟨rfl, ⟨by rw [beq_iff_eq]; exact a.1, a.2⟩, ?_⟩
      by_cases hj : J_b = 0
      · exact Or.inr ⟨hj, b hj⟩
      · left; rw [bne_iff_ne]; exact hj
  clear hn he hl hV_a hV_b U_a U_b hK_a hJ_a hK_b hJ_b
  generalize (finB x && decide (x < 13830554455654793216)) = q3 at *
  generalize finB x = q0 at *
  have HT := Lib.hid hT
  clear hT
  have B : Hid (Below w.heap.size w w) := Lib.hid (Below.refl w.heap.size w)
  rcases hcase with h | ⟨h, ⟨h1, h2⟩, h3 | ⟨rfl, h3⟩⟩
  · go_enter Tryd.func8, Tryd.ntmps8
    go_wp2_with (go_at_call 19; first | (with_reducible refine (RX.out _).mono ?_; rintro e w' ⟨rfl, rfl⟩) | (with_reducible refine (HR_a.out _).mono ?_; rintro e w' ⟨rfl, rfl⟩) | (with_reducible refine (HR_b.out _).mono ?_; rintro e w' ⟨rfl, rfl⟩))
    refine (HG_a.out _ HT.out).mono ?_
    rintro r w1 ⟨rfl, hb⟩
    replace HT := Lib.hid (HT.out.below hb)
    replace B := Lib.hid (bl_thru B.out (Nat.le_refl _) hb)
    clear hb
    go_wp2_with fail
    refine (HG_b.out _ HT.out).mono ?_
    rintro r w2 ⟨rfl, hb⟩
    replace HT := Lib.hid (HT.out.below hb)
    replace B := Lib.hid (bl_thru B.out (Nat.le_refl _) hb)
    clear hb
    go_wp2_with fail
    refine (expoLives_any _ HT.out).mono ?_
    rintro r w3 ⟨rfl, hb⟩
    replace HT := Lib.hid (HT.out.below hb)
    replace B := Lib.hid (bl_thru B.out (Nat.le_refl _) hb)
    clear hb
    go_wp2_with (go_at_call 18; with_reducible refine (ok_new3 _ _ _  _ _ rfl).mono ?_; rintro e w' ⟨rfl, rfl⟩)
    refine (expoLives_any _ (HT.out.below (by go_grown))).mono ?_
    rintro r w4 ⟨rfl, hb⟩
    have hb' := bl_thru (show Below w3.heap.size w3 _ from by go_grown) (Nat.le_refl _) hb
    replace HT := Lib.hid (HT.out.below hb')
    replace B := Lib.hid (bl_thru B.out (Nat.le_refl _) hb')
    clear hb hb'
    go_wp2
    go_ret
    exact ⟨rfl, B.out⟩
  · go_enter Tryd.func8, Tryd.ntmps8
    go_wp2_with (go_at_call 19; first | (with_reducible refine (RX.out _).mono ?_; rintro e w' ⟨rfl, rfl⟩) | (with_reducible refine (HR_a.out _).mono ?_; rintro e w' ⟨rfl, rfl⟩) | (with_reducible refine (HR_b.out _).mono ?_; rintro e w' ⟨rfl, rfl⟩))
    refine (HG_a.out _ HT.out).mono ?_
    rintro r w1 ⟨rfl, hb⟩
    replace HT := Lib.hid (HT.out.below hb)
    replace B := Lib.hid (bl_thru B.out (Nat.le_refl _) hb)
    clear hb
    go_wp2_with fail
    refine (HG_b.out _ HT.out).mono ?_
    rintro r w2 ⟨rfl, hb⟩
    replace HT := Lib.hid (HT.out.below hb)
    replace B := Lib.hid (bl_thru B.out (Nat.le_refl _) hb)
    clear hb
    go_wp2_with fail
    refine (expoLives_any _ HT.out).mono ?_
    rintro r w3 ⟨rfl, hb⟩
    replace HT := Lib.hid (HT.out.below hb)
    replace B := Lib.hid (bl_thru B.out (Nat.le_refl _) hb)
    clear hb
    go_wp2_with (first
      | (go_at_call 18; with_reducible refine (ok_new3 _ _ _  _ _ rfl).mono ?_; rintro e w' ⟨rfl, rfl⟩)
      | (go_at_call 19; first | (with_reducible refine (RX.out _).mono ?_; rintro e w' ⟨rfl, rfl⟩) | (with_reducible refine (HR_a.out _).mono ?_; rintro e w' ⟨rfl, rfl⟩) | (with_reducible refine (HR_b.out _).mono ?_; rintro e w' ⟨rfl, rfl⟩)))
    go_ret
    exact ⟨rfl, (by have := B.out; have := B.out.size; go_grown)⟩
  · go_enter Tryd.func8, Tryd.ntmps8
    go_wp2_with (go_at_call 19; first | (with_reducible refine (RX.out _).mono ?_; rintro e w' ⟨rfl, rfl⟩) | (with_reducible refine (HR_a.out _).mono ?_; rintro e w' ⟨rfl, rfl⟩) | (with_reducible refine (HR_b.out _).mono ?_; rintro e w' ⟨rfl, rfl⟩))
    refine (HG_a.out _ HT.out).mono ?_
    rintro r w1 ⟨rfl, hb⟩
    replace HT := Lib.hid (HT.out.below hb)
    replace B := Lib.hid (bl_thru B.out (Nat.le_refl _) hb)
    clear hb
    go_wp2_with fail
    refine (HG_b.out _ HT.out).mono ?_
    rintro r w2 ⟨rfl, hb⟩
    replace HT := Lib.hid (HT.out.below hb)
    replace B := Lib.hid (bl_thru B.out (Nat.le_refl _) hb)
    clear hb
    go_wp2_with fail
    refine (expoLives_any _ HT.out).mono ?_
    rintro r w3 ⟨rfl, hb⟩
    replace HT := Lib.hid (HT.out.below hb)
    replace B := Lib.hid (bl_thru B.out (Nat.le_refl _) hb)
    clear hb
    go_wp2_with (first
      | (go_at_call 18; with_reducible refine (ok_new3 _ _ _  _ _ rfl).mono ?_; rintro e w' ⟨rfl, rfl⟩)
      | (go_at_call 19; first | (with_reducible refine (RX.out _).mono ?_; rintro e w' ⟨rfl, rfl⟩) | (with_reducible refine (HR_a.out _).mono ?_; rintro e w' ⟨rfl, rfl⟩) | (with_reducible refine (HR_b.out _).mono ?_; rintro e w' ⟨rfl, rfl⟩)))
    go_ret
    exact ⟨rfl, (by have := B.out; have := B.out.size; go_grown)⟩
end Go.Proofs.YtmpdbmaokbhcjaaDoor
