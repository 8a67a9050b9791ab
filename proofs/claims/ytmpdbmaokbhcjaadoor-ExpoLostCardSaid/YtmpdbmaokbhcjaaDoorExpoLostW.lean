/-
  THE WALK of the law ExpoLost.
-/
import Derived.Test.YtmpdbmaokbhcjaaDoorUvx
set_option linter.unusedVariables false
set_option linter.unusedSimpArgs false
namespace Go.Proofs.YtmpdbmaokbhcjaaDoor
open Go.RowKit Nt Fm Fl

theorem ok2_z {a b : Int} (h : ok2 a b = true) : a = 0 ∧ b = 0 := by
  unfold ok2 at h; simp [and_assoc] at h; exact h
theorem ok3_z {a b c : Int} (h : ok3 a b c = true) : a = 0 ∧ b = 0 ∧ c = 0 := by
  unfold ok3 at h; simp [and_assoc] at h; exact h
theorem xpE_z {mode : Int} (h : xpE mode = 0) : knownB mode = true := by
  unfold xpE at h
  cases hk : knownB mode
  · rw [hk] at h; exact absurd h (by decide)
  · rfl
set_option maxRecDepth 100000 in
set_option maxHeartbeats 16000000 in
theorem walkExpoLost (x : Int) (x0 : 0 ≤ x) (x1 : x ≤ 18446744073709551615) (mode : Int) (m0 : -9223372036854775808 ≤ mode) (m1 : mode ≤ 9223372036854775807) (w : World) (hT : Tab w) :
    Calls Tryd.prog 4 #[.int .u64 x, .int .i64 mode] w fun e w' => e = .returned (.bool true) ∧ Below w.heap.size w w' := by
  have CL := Lib.hid (fun w' => class_any x x0 x1 w')
  have hcase : 4 ≤ fcls x ∨ (fcls x < 4 ∧ (mode < 0 ∨ (0 ≤ mode ∧ (4 < mode ∨ mode ≤ 4)))) := by omega
  have HT := Lib.hid hT
  clear hT
  have B : Hid (Below w.heap.size w w) := Lib.hid (Below.refl w.heap.size w)
  rcases hcase with h | ⟨h, h2 | ⟨h2, h3 | h3⟩⟩
  · generalize fcls x = c at *
    go_enter Tryd.func4, Tryd.ntmps4
    go_wp2_with fail
    refine (expoLives_any _ HT.out).mono ?_
    rintro r w1 ⟨rfl, hb⟩
    replace HT := Lib.hid (HT.out.below hb)
    replace B := Lib.hid (bl_thru B.out (Nat.le_refl _) hb)
    clear hb
    go_wp2_with (go_at_call 16; refine (CL.out _).mono ?_; rintro e w' ⟨rfl, rfl⟩)
    refine (expoLives_any _ HT.out).mono ?_
    rintro r w2 ⟨rfl, hb⟩
    replace HT := Lib.hid (HT.out.below hb)
    replace B := Lib.hid (bl_thru B.out (Nat.le_refl _) hb)
    clear hb
    go_wp2
    go_ret
    exact ⟨rfl, B.out⟩
  · generalize fcls x = c at *
    go_enter Tryd.func4, Tryd.ntmps4
    go_wp2_with fail
    refine (expoLives_any _ HT.out).mono ?_
    rintro r w1 ⟨rfl, hb⟩
    replace HT := Lib.hid (HT.out.below hb)
    replace B := Lib.hid (bl_thru B.out (Nat.le_refl _) hb)
    clear hb
    go_wp2_with (go_at_call 16; refine (CL.out _).mono ?_; rintro e w' ⟨rfl, rfl⟩)
    refine (expoLives_any _ HT.out).mono ?_
    rintro r w2 ⟨rfl, hb⟩
    replace HT := Lib.hid (HT.out.below hb)
    replace B := Lib.hid (bl_thru B.out (Nat.le_refl _) hb)
    clear hb
    go_wp2
    go_ret
    exact ⟨rfl, B.out⟩
  · generalize fcls x = c at *
    go_enter Tryd.func4, Tryd.ntmps4
    go_wp2_with fail
    refine (expoLives_any _ HT.out).mono ?_
    rintro r w1 ⟨rfl, hb⟩
    replace HT := Lib.hid (HT.out.below hb)
    replace B := Lib.hid (bl_thru B.out (Nat.le_refl _) hb)
    clear hb
    go_wp2_with (go_at_call 16; refine (CL.out _).mono ?_; rintro e w' ⟨rfl, rfl⟩)
    refine (expoLives_any _ HT.out).mono ?_
    rintro r w2 ⟨rfl, hb⟩
    replace HT := Lib.hid (HT.out.below hb)
    replace B := Lib.hid (bl_thru B.out (Nat.le_refl _) hb)
    clear hb
    go_wp2
    go_ret
    exact ⟨rfl, B.out⟩
  · have hkn : knownB mode = true := by unfold knownB; exact decide_eq_true ⟨h2, h3⟩
    obtain ⟨V_y0, hV_y0⟩ : ∃ V, V = xpV x mode := ⟨_, rfl⟩
    have U_y0 : 0 ≤ V_y0 ∧ V_y0 ≤ 18446744073709551615 := by rw [hV_y0]; exact xp_u x0 x1
    have HG_y0 := Lib.hid (fun w' ht => by
      have := xexp_any x mode w' ht x0 x1 m0 m1
      rw [← hV_y0, xpE_t hkn, show xpC x mode = finB x from by unfold xpC; rw [hkn]; rfl] at this; exact this)
    obtain ⟨V_a0, hV_a0⟩ : ∃ V, V = xpV x 0 := ⟨_, rfl⟩
    have U_a0 : 0 ≤ V_a0 ∧ V_a0 ≤ 18446744073709551615 := by rw [hV_a0]; exact xp_u x0 x1
    have HG_a0 := Lib.hid (fun w' ht => by
      have := xexp_any x 0 w' ht x0 x1 (by decide) (by decide)
      rw [← hV_a0, xpE_t (show knownB 0 = true by decide), show xpC x 0 = finB x from by unfold xpC; rw [(show knownB 0 = true by decide)]; rfl] at this; exact this)
    obtain ⟨V_b0, hV_b0⟩ : ∃ V, V = xpV x 4 := ⟨_, rfl⟩
    have U_b0 : 0 ≤ V_b0 ∧ V_b0 ≤ 18446744073709551615 := by rw [hV_b0]; exact xp_u x0 x1
    have HG_b0 := Lib.hid (fun w' ht => by
      have := xexp_any x 4 w' ht x0 x1 (by decide) (by decide)
      rw [← hV_b0, xpE_t (show knownB 4 = true by decide), show xpC x 4 = finB x from by unfold xpC; rw [(show knownB 4 = true by decide)]; rfl] at this; exact this)
    have A0 : V_a0 = V_b0 := by rw [hV_a0, hV_b0]; exact Ans.near (xp_ans x0 x1)
    obtain ⟨V_y1, hV_y1⟩ : ∃ V, V = x1V x mode := ⟨_, rfl⟩
    have U_y1 : 0 ≤ V_y1 ∧ V_y1 ≤ 18446744073709551615 := by rw [hV_y1]; exact x1_u x0 x1
    have HG_y1 := Lib.hid (fun w' ht => by
      have := xexpm1_any x mode w' ht x0 x1 m0 m1
      rw [← hV_y1, xpE_t hkn, show xpC x mode = finB x from by unfold xpC; rw [hkn]; rfl] at this; exact this)
    obtain ⟨V_a1, hV_a1⟩ : ∃ V, V = x1V x 0 := ⟨_, rfl⟩
    have U_a1 : 0 ≤ V_a1 ∧ V_a1 ≤ 18446744073709551615 := by rw [hV_a1]; exact x1_u x0 x1
    have HG_a1 := Lib.hid (fun w' ht => by
      have := xexpm1_any x 0 w' ht x0 x1 (by decide) (by decide)
      rw [← hV_a1, xpE_t (show knownB 0 = true by decide), show xpC x 0 = finB x from by unfold xpC; rw [(show knownB 0 = true by decide)]; rfl] at this; exact this)
    obtain ⟨V_b1, hV_b1⟩ : ∃ V, V = x1V x 4 := ⟨_, rfl⟩
    have U_b1 : 0 ≤ V_b1 ∧ V_b1 ≤ 18446744073709551615 := by rw [hV_b1]; exact x1_u x0 x1
    have HG_b1 := Lib.hid (fun w' ht => by
      have := xexpm1_any x 4 w' ht x0 x1 (by decide) (by decide)
      rw [← hV_b1, xpE_t (show knownB 4 = true by decide), show xpC x 4 = finB x from by unfold xpC; rw [(show knownB 4 = true by decide)]; rfl] at this; exact this)
    have A1 : V_a1 = V_b1 := by rw [hV_a1, hV_b1]; exact Ans.near (x1_ans x0 x1)
    obtain ⟨V_y2, hV_y2⟩ : ∃ V, V = lgV x mode := ⟨_, rfl⟩
    have U_y2 : 0 ≤ V_y2 ∧ V_y2 ≤ 18446744073709551615 := by rw [hV_y2]; exact lg_u x0 x1
    have HG_y2 := Lib.hid (fun w' ht => by
      have := xlog_any x mode w' ht x0 x1 m0 m1
      rw [← hV_y2, xpE_t hkn, show lgC x mode = (finB x && decide (x < 9223372036854775808 ∧ x ≠ 4607182418800017408)) from by unfold lgC; rw [hkn]; rfl] at this; exact this)
    obtain ⟨V_a2, hV_a2⟩ : ∃ V, V = lgV x 0 := ⟨_, rfl⟩
    have U_a2 : 0 ≤ V_a2 ∧ V_a2 ≤ 18446744073709551615 := by rw [hV_a2]; exact lg_u x0 x1
    have HG_a2 := Lib.hid (fun w' ht => by
      have := xlog_any x 0 w' ht x0 x1 (by decide) (by decide)
      rw [← hV_a2, xpE_t (show knownB 0 = true by decide), show lgC x 0 = (finB x && decide (x < 9223372036854775808 ∧ x ≠ 4607182418800017408)) from by unfold lgC; rw [(show knownB 0 = true by decide)]; rfl] at this; exact this)
    obtain ⟨V_b2, hV_b2⟩ : ∃ V, V = lgV x 4 := ⟨_, rfl⟩
    have U_b2 : 0 ≤ V_b2 ∧ V_b2 ≤ 18446744073709551615 := by rw [hV_b2]; exact lg_u x0 x1
    have HG_b2 := Lib.hid (fun w' ht => by
      have := xlog_any x 4 w' ht x0 x1 (by decide) (by decide)
      rw [← hV_b2, xpE_t (show knownB 4 = true by decide), show lgC x 4 = (finB x && decide (x < 9223372036854775808 ∧ x ≠ 4607182418800017408)) from by unfold lgC; rw [(show knownB 4 = true by decide)]; rfl] at this; exact this)
    have A2 : V_a2 = V_b2 := by rw [hV_a2, hV_b2]; exact Ans.near (lg_ans x0 x1)
    obtain ⟨V_y3, hV_y3⟩ : ∃ V, V = lpV x mode := ⟨_, rfl⟩
    have U_y3 : 0 ≤ V_y3 ∧ V_y3 ≤ 18446744073709551615 := by rw [hV_y3]; exact lp_u x0 x1
    have HG_y3 := Lib.hid (fun w' ht => by
      have := xlog1p_any x mode w' ht x0 x1 m0 m1
      rw [← hV_y3, xpE_t hkn, show lpC x mode = (finB x && decide (x < 13830554455654793216)) from by unfold lpC; rw [hkn]; rfl] at this; exact this)
    obtain ⟨V_a3, hV_a3⟩ : ∃ V, V = lpV x 0 := ⟨_, rfl⟩
    have U_a3 : 0 ≤ V_a3 ∧ V_a3 ≤ 18446744073709551615 := by rw [hV_a3]; exact lp_u x0 x1
    have HG_a3 := Lib.hid (fun w' ht => by
      have := xlog1p_any x 0 w' ht x0 x1 (by decide) (by decide)
      rw [← hV_a3, xpE_t (show knownB 0 = true by decide), show lpC x 0 = (finB x && decide (x < 13830554455654793216)) from by unfold lpC; rw [(show knownB 0 = true by decide)]; rfl] at this; exact this)
    obtain ⟨V_b3, hV_b3⟩ : ∃ V, V = lpV x 4 := ⟨_, rfl⟩
    have U_b3 : 0 ≤ V_b3 ∧ V_b3 ≤ 18446744073709551615 := by rw [hV_b3]; exact lp_u x0 x1
    have HG_b3 := Lib.hid (fun w' ht => by
      have := xlog1p_any x 4 w' ht x0 x1 (by decide) (by decide)
      rw [← hV_b3, xpE_t (show knownB 4 = true by decide), show lpC x 4 = (finB x && decide (x < 13830554455654793216)) from by unfold lpC; rw [(show knownB 4 = true by decide)]; rfl] at this; exact this)
    have A3 : V_a3 = V_b3 := by rw [hV_a3, hV_b3]; exact Ans.near (lp_ans x0 x1)
    have hlow : fcls x ≠ 1 → Fin0 x := fun h1 => fin0_of x0 x1 (by omega) h1 (by omega)
    have z0 : fcls x = 1 → finB x = false := fun h1 => finB_f (Or.inr (Or.inl h1))
    have z1 : fcls x ≠ 1 → finB x = true := fun h1 => finB_t (hlow h1)
    have Q2 : ((x == 4607182418800017408) = true ∧ decide (x < 9223372036854775808 ∧ x ≠ 4607182418800017408) = false) ∨ ((x == 4607182418800017408) = false ∧ ((9223372036854775808 ≤ x ∧ decide (x < 9223372036854775808 ∧ x ≠ 4607182418800017408) = false) ∨ (x < 9223372036854775808 ∧ decide (x < 9223372036854775808 ∧ x ≠ 4607182418800017408) = true))) := by
      by_cases e1 : x = 4607182418800017408
      · left; exact ⟨by rw [beq_iff_eq]; exact e1, decide_eq_false (by omega)⟩
      · right
        refine ⟨by rw [beq_eq_false_iff_ne]; exact e1, ?_⟩
        by_cases e2 : 9223372036854775808 ≤ x
        · left; exact ⟨e2, decide_eq_false (by omega)⟩
        · right; exact ⟨by omega, decide_eq_true (by omega)⟩
    have Q3 : ((V_y3 == 9221120237041090560) = true ∧ decide (x < 13830554455654793216) = false) ∨ ((V_y3 == 9221120237041090560) = false ∧ (((x == 13830554455654793216) = true ∧ decide (x < 13830554455654793216) = false) ∨ ((x == 13830554455654793216) = false ∧ decide (x < 13830554455654793216) = true))) ∨ fcls x = 1 := by
      by_cases e0 : fcls x = 1
      · exact Or.inr (Or.inr e0)
      by_cases e1 : 13830554455654793216 < x
      · left
        refine ⟨?_, decide_eq_false (by omega)⟩
        rw [beq_iff_eq, hV_y3, (lp_nan hkn (Or.inr e1)).1]
      · right; left
        by_cases e2 : x = 13830554455654793216
        · refine ⟨?_, Or.inl ⟨by rw [beq_iff_eq]; exact e2, decide_eq_false (by omega)⟩⟩
          rw [beq_eq_false_iff_ne, hV_y3, e2, (lp_mone hkn).1]; decide
        · refine ⟨?_, Or.inr ⟨by rw [beq_eq_false_iff_ne]; exact e2, decide_eq_true (by omega)⟩⟩
          rw [beq_eq_false_iff_ne, hV_y3]
          intro e
          have := (lp_rw hkn (hlow e0).fin (by omega)).err
          rw [e] at this
          exact nan_err this
    generalize decide (x < 9223372036854775808 ∧ x ≠ 4607182418800017408) = p2 at *
    generalize decide (x < 13830554455654793216) = p3 at *
    generalize finB x = fb at *
    generalize fcls x = c at *
    clear hlow hkn hV_y0 U_y0 hV_a0 U_a0 hV_b0 U_b0 hV_y1 U_y1 hV_a1 U_a1 hV_b1 U_b1 hV_y2 U_y2 hV_a2 U_a2 hV_b2 U_b2 hV_y3 U_y3 hV_a3 U_a3 hV_b3 U_b3
    have HQ2 := Lib.hid Q2
    have HQ3 := Lib.hid Q3
    clear Q2 Q3
    subst A0
    subst A1
    subst A2
    subst A3
    have k3m := ok3_mk
    have hz : (c = 1 ∧ fb = false) ∨ (c ≠ 1 ∧ fb = true) := by
      by_cases e : c = 1
      · exact Or.inl ⟨e, z0 e⟩
      · exact Or.inr ⟨e, z1 e⟩
    clear z0 z1
    rcases hz with ⟨hc, rfl⟩ | ⟨hc, rfl⟩
    · have cb : (c == 1) = true := by rw [beq_iff_eq]; exact hc
      have j0 : ∀ w : World, (Instr.index 35 xAll (.int .i64 0)).run Tryd.prog w = .ok (.func (.func 20) #[] #[]) w := fun _ => by kernel_rfl
      have j1 : ∀ w : World, (Instr.index 35 xAll (.int .i64 1)).run Tryd.prog w = .ok (.func (.func 22) #[] #[]) w := fun _ => by kernel_rfl
      have j2 : ∀ w : World, (Instr.index 35 xAll (.int .i64 2)).run Tryd.prog w = .ok (.func (.func 21) #[] #[]) w := fun _ => by kernel_rfl
      have j3 : ∀ w : World, (Instr.index 35 xAll (.int .i64 3)).run Tryd.prog w = .ok (.func (.func 23) #[] #[]) w := fun _ => by kernel_rfl
      simp only [Bool.false_and] at *
      clear HQ2 HQ3
      go_enter Tryd.func4, Tryd.ntmps4
      go_wp2_with fail
      refine (expoLives_any _ HT.out).mono ?_
      rintro r w1 ⟨rfl, hb⟩
      replace HT := Lib.hid (HT.out.below hb)
      replace B := Lib.hid (bl_thru B.out (Nat.le_refl _) hb)
      clear hb
      go_wp2_with (go_at_call 16; refine (CL.out _).mono ?_; rintro e w' ⟨rfl, rfl⟩)
      refine (expoAll_any _).mono ?_
      rintro r w2 ⟨rfl, hb⟩
      replace HT := Lib.hid (HT.out.below hb)
      replace B := Lib.hid (bl_thru B.out (Nat.le_refl _) hb)
      clear hb
      go_wp2
      go_loopw [38] (fun i wr => ∃ k : Nat, k ≤ 4 ∧ i = .int .i64 k ∧ Hid (Tab wr) ∧ Hid (Below w.heap.size w wr)) (fun i _ => 4 - (intOf i).toNat)
      case atStart => exact ⟨0, by omega, rfl, Lib.hid HT.out, Lib.hid B.out⟩
      case round =>
        clear HT B
        obtain ⟨k, hk, rfl, HT, B⟩ := hrel
        have hk4 : k = 0 ∨ k = 1 ∨ k = 2 ∨ k = 3 ∨ k = 4 := by omega
        rcases hk4 with rfl | rfl | rfl | rfl | rfl
        · go_wp2_with fail
          refine (HG_y0.out _ HT.out).mono ?_
          rintro r w11 ⟨rfl, hb⟩
          replace HT := Lib.hid (HT.out.below hb)
          replace B := Lib.hid (bl_thru B.out (Nat.le_refl _) hb)
          clear hb
          go_wp2_with fail
          refine (HG_a0.out _ HT.out).mono ?_
          rintro r w12 ⟨rfl, hb⟩
          replace HT := Lib.hid (HT.out.below hb)
          replace B := Lib.hid (bl_thru B.out (Nat.le_refl _) hb)
          clear hb
          go_wp2_with fail
          refine (HG_b0.out _ HT.out).mono ?_
          rintro r w13 ⟨rfl, hb⟩
          replace HT := Lib.hid (HT.out.below hb)
          replace B := Lib.hid (bl_thru B.out (Nat.le_refl _) hb)
          clear hb
          go_wp2_with (go_at_call 18; with_reducible refine (ok_new3 _ _ _  _ _ rfl).mono ?_; rintro e w' ⟨rfl, rfl⟩)
          go_roundw
          case rel => exact ⟨1, by omega, by go_num, Lib.hid (HT.out.below (by go_grown)), Lib.hid (by have := B.out; have := B.out.size; go_grown)⟩
          case measure => simp [intOf]
        · go_wp2_with fail
          refine (HG_y1.out _ HT.out).mono ?_
          rintro r w11 ⟨rfl, hb⟩
          replace HT := Lib.hid (HT.out.below hb)
          replace B := Lib.hid (bl_thru B.out (Nat.le_refl _) hb)
          clear hb
          go_wp2_with fail
          refine (HG_a1.out _ HT.out).mono ?_
          rintro r w12 ⟨rfl, hb⟩
          replace HT := Lib.hid (HT.out.below hb)
          replace B := Lib.hid (bl_thru B.out (Nat.le_refl _) hb)
          clear hb
          go_wp2_with fail
          refine (HG_b1.out _ HT.out).mono ?_
          rintro r w13 ⟨rfl, hb⟩
          replace HT := Lib.hid (HT.out.below hb)
          replace B := Lib.hid (bl_thru B.out (Nat.le_refl _) hb)
          clear hb
          go_wp2_with (go_at_call 18; with_reducible refine (ok_new3 _ _ _  _ _ rfl).mono ?_; rintro e w' ⟨rfl, rfl⟩)
          go_roundw
          case rel => exact ⟨2, by omega, by go_num, Lib.hid (HT.out.below (by go_grown)), Lib.hid (by have := B.out; have := B.out.size; go_grown)⟩
          case measure => simp [intOf]
        · go_wp2_with fail
          refine (HG_y2.out _ HT.out).mono ?_
          rintro r w11 ⟨rfl, hb⟩
          replace HT := Lib.hid (HT.out.below hb)
          replace B := Lib.hid (bl_thru B.out (Nat.le_refl _) hb)
          clear hb
          go_wp2_with fail
          refine (HG_a2.out _ HT.out).mono ?_
          rintro r w12 ⟨rfl, hb⟩
          replace HT := Lib.hid (HT.out.below hb)
          replace B := Lib.hid (bl_thru B.out (Nat.le_refl _) hb)
          clear hb
          go_wp2_with fail
          refine (HG_b2.out _ HT.out).mono ?_
          rintro r w13 ⟨rfl, hb⟩
          replace HT := Lib.hid (HT.out.below hb)
          replace B := Lib.hid (bl_thru B.out (Nat.le_refl _) hb)
          clear hb
          go_wp2_with (go_at_call 18; with_reducible refine (ok_new3 _ _ _  _ _ rfl).mono ?_; rintro e w' ⟨rfl, rfl⟩)
          go_roundw
          case rel => exact ⟨3, by omega, by go_num, Lib.hid (HT.out.below (by go_grown)), Lib.hid (by have := B.out; have := B.out.size; go_grown)⟩
          case measure => simp [intOf]
        · go_wp2_with fail
          refine (HG_y3.out _ HT.out).mono ?_
          rintro r w11 ⟨rfl, hb⟩
          replace HT := Lib.hid (HT.out.below hb)
          replace B := Lib.hid (bl_thru B.out (Nat.le_refl _) hb)
          clear hb
          go_wp2_with fail
          refine (HG_a3.out _ HT.out).mono ?_
          rintro r w12 ⟨rfl, hb⟩
          replace HT := Lib.hid (HT.out.below hb)
          replace B := Lib.hid (bl_thru B.out (Nat.le_refl _) hb)
          clear hb
          go_wp2_with fail
          refine (HG_b3.out _ HT.out).mono ?_
          rintro r w13 ⟨rfl, hb⟩
          replace HT := Lib.hid (HT.out.below hb)
          replace B := Lib.hid (bl_thru B.out (Nat.le_refl _) hb)
          clear hb
          go_wp2_with (go_at_call 18; with_reducible refine (ok_new3 _ _ _  _ _ rfl).mono ?_; rintro e w' ⟨rfl, rfl⟩)
          go_roundw
          case rel => exact ⟨4, by omega, by go_num, Lib.hid (HT.out.below (by go_grown)), Lib.hid (by have := B.out; have := B.out.size; go_grown)⟩
          case measure => simp [intOf]
        · clear j0 j1 j2 j3
          go_wp2
          go_ret
          exact ⟨rfl, B.out⟩
    · have cb : (c == 1) = false := by rw [beq_eq_false_iff_ne]; exact hc
      have j0 : ∀ w : World, (Instr.index 35 xAll (.int .i64 0)).run Tryd.prog w = .ok (.func (.func 20) #[] #[]) w := fun _ => by kernel_rfl
      have j1 : ∀ w : World, (Instr.index 35 xAll (.int .i64 1)).run Tryd.prog w = .ok (.func (.func 22) #[] #[]) w := fun _ => by kernel_rfl
      have j2 : ∀ w : World, (Instr.index 35 xAll (.int .i64 2)).run Tryd.prog w = .ok (.func (.func 21) #[] #[]) w := fun _ => by kernel_rfl
      have j3 : ∀ w : World, (Instr.index 35 xAll (.int .i64 3)).run Tryd.prog w = .ok (.func (.func 23) #[] #[]) w := fun _ => by kernel_rfl
      simp only [Bool.true_and] at *
      go_enter Tryd.func4, Tryd.ntmps4
      go_wp2_with fail
      refine (expoLives_any _ HT.out).mono ?_
      rintro r w1 ⟨rfl, hb⟩
      replace HT := Lib.hid (HT.out.below hb)
      replace B := Lib.hid (bl_thru B.out (Nat.le_refl _) hb)
      clear hb
      go_wp2_with (go_at_call 16; refine (CL.out _).mono ?_; rintro e w' ⟨rfl, rfl⟩)
      refine (expoAll_any _).mono ?_
      rintro r w2 ⟨rfl, hb⟩
      replace HT := Lib.hid (HT.out.below hb)
      replace B := Lib.hid (bl_thru B.out (Nat.le_refl _) hb)
      clear hb
      go_wp2
      go_loopw [38] (fun i wr => ∃ k : Nat, k ≤ 4 ∧ i = .int .i64 k ∧ Hid (Tab wr) ∧ Hid (Below w.heap.size w wr)) (fun i _ => 4 - (intOf i).toNat)
      case atStart => exact ⟨0, by omega, rfl, Lib.hid HT.out, Lib.hid B.out⟩
      case round =>
        clear HT B
        obtain ⟨k, hk, rfl, HT, B⟩ := hrel
        have hk4 : k = 0 ∨ k = 1 ∨ k = 2 ∨ k = 3 ∨ k = 4 := by omega
        rcases hk4 with rfl | rfl | rfl | rfl | rfl
        · go_wp2_with fail
          refine (HG_y0.out _ HT.out).mono ?_
          rintro r w11 ⟨rfl, hb⟩
          replace HT := Lib.hid (HT.out.below hb)
          replace B := Lib.hid (bl_thru B.out (Nat.le_refl _) hb)
          clear hb
          go_wp2_with fail
          refine (HG_a0.out _ HT.out).mono ?_
          rintro r w12 ⟨rfl, hb⟩
          replace HT := Lib.hid (HT.out.below hb)
          replace B := Lib.hid (bl_thru B.out (Nat.le_refl _) hb)
          clear hb
          go_wp2_with fail
          refine (HG_b0.out _ HT.out).mono ?_
          rintro r w13 ⟨rfl, hb⟩
          replace HT := Lib.hid (HT.out.below hb)
          replace B := Lib.hid (bl_thru B.out (Nat.le_refl _) hb)
          clear hb
          go_wp2_with (go_at_call 18; with_reducible refine (ok_new3 _ _ _  _ _ rfl).mono ?_; rintro e w' ⟨rfl, rfl⟩)
          go_roundw
          case rel => exact ⟨1, by omega, by go_num, Lib.hid (HT.out.below (by go_grown)), Lib.hid (by have := B.out; have := B.out.size; go_grown)⟩
          case measure => simp [intOf]
        · go_wp2_with fail
          refine (HG_y1.out _ HT.out).mono ?_
          rintro r w11 ⟨rfl, hb⟩
          replace HT := Lib.hid (HT.out.below hb)
          replace B := Lib.hid (bl_thru B.out (Nat.le_refl _) hb)
          clear hb
          go_wp2_with fail
          refine (HG_a1.out _ HT.out).mono ?_
          rintro r w12 ⟨rfl, hb⟩
          replace HT := Lib.hid (HT.out.below hb)
          replace B := Lib.hid (bl_thru B.out (Nat.le_refl _) hb)
          clear hb
          go_wp2_with fail
          refine (HG_b1.out _ HT.out).mono ?_
          rintro r w13 ⟨rfl, hb⟩
          replace HT := Lib.hid (HT.out.below hb)
          replace B := Lib.hid (bl_thru B.out (Nat.le_refl _) hb)
          clear hb
          go_wp2_with (go_at_call 18; with_reducible refine (ok_new3 _ _ _  _ _ rfl).mono ?_; rintro e w' ⟨rfl, rfl⟩)
          go_roundw
          case rel => exact ⟨2, by omega, by go_num, Lib.hid (HT.out.below (by go_grown)), Lib.hid (by have := B.out; have := B.out.size; go_grown)⟩
          case measure => simp [intOf]
        · rcases HQ2.out with ⟨i1, rfl⟩ | ⟨i1, ⟨i2, rfl⟩ | ⟨i2, rfl⟩⟩
          · go_wp2_with fail
            refine (HG_y2.out _ HT.out).mono ?_
            rintro r w11 ⟨rfl, hb⟩
            replace HT := Lib.hid (HT.out.below hb)
            replace B := Lib.hid (bl_thru B.out (Nat.le_refl _) hb)
            clear hb
            go_wp2_with fail
            refine (HG_a2.out _ HT.out).mono ?_
            rintro r w12 ⟨rfl, hb⟩
            replace HT := Lib.hid (HT.out.below hb)
            replace B := Lib.hid (bl_thru B.out (Nat.le_refl _) hb)
            clear hb
            go_wp2_with fail
            refine (HG_b2.out _ HT.out).mono ?_
            rintro r w13 ⟨rfl, hb⟩
            replace HT := Lib.hid (HT.out.below hb)
            replace B := Lib.hid (bl_thru B.out (Nat.le_refl _) hb)
            clear hb
            go_wp2_with (go_at_call 18; with_reducible refine (ok_new3 _ _ _  _ _ rfl).mono ?_; rintro e w' ⟨rfl, rfl⟩)
            go_roundw
            case rel => exact ⟨3, by omega, by go_num, Lib.hid (HT.out.below (by go_grown)), Lib.hid (by have := B.out; have := B.out.size; go_grown)⟩
            case measure => simp [intOf]
          · go_wp2_with fail
            refine (HG_y2.out _ HT.out).mono ?_
            rintro r w11 ⟨rfl, hb⟩
            replace HT := Lib.hid (HT.out.below hb)
            replace B := Lib.hid (bl_thru B.out (Nat.le_refl _) hb)
            clear hb
            go_wp2_with fail
            refine (HG_a2.out _ HT.out).mono ?_
            rintro r w12 ⟨rfl, hb⟩
            replace HT := Lib.hid (HT.out.below hb)
            replace B := Lib.hid (bl_thru B.out (Nat.le_refl _) hb)
            clear hb
            go_wp2_with fail
            refine (HG_b2.out _ HT.out).mono ?_
            rintro r w13 ⟨rfl, hb⟩
            replace HT := Lib.hid (HT.out.below hb)
            replace B := Lib.hid (bl_thru B.out (Nat.le_refl _) hb)
            clear hb
            go_wp2_with (go_at_call 18; with_reducible refine (ok_new3 _ _ _  _ _ rfl).mono ?_; rintro e w' ⟨rfl, rfl⟩)
            go_roundw
            case rel => exact ⟨3, by omega, by go_num, Lib.hid (HT.out.below (by go_grown)), Lib.hid (by have := B.out; have := B.out.size; go_grown)⟩
            case measure => simp [intOf]
          · go_wp2_with fail
            refine (HG_y2.out _ HT.out).mono ?_
            rintro r w11 ⟨rfl, hb⟩
            replace HT := Lib.hid (HT.out.below hb)
            replace B := Lib.hid (bl_thru B.out (Nat.le_refl _) hb)
            clear hb
            go_wp2_with fail
            refine (HG_a2.out _ HT.out).mono ?_
            rintro r w12 ⟨rfl, hb⟩
            replace HT := Lib.hid (HT.out.below hb)
            replace B := Lib.hid (bl_thru B.out (Nat.le_refl _) hb)
            clear hb
            go_wp2_with fail
            refine (HG_b2.out _ HT.out).mono ?_
            rintro r w13 ⟨rfl, hb⟩
            replace HT := Lib.hid (HT.out.below hb)
            replace B := Lib.hid (bl_thru B.out (Nat.le_refl _) hb)
            clear hb
            go_wp2_with (go_at_call 18; with_reducible refine (ok_new3 _ _ _  _ _ rfl).mono ?_; rintro e w' ⟨rfl, rfl⟩)
            go_roundw
            case rel => exact ⟨3, by omega, by go_num, Lib.hid (HT.out.below (by go_grown)), Lib.hid (by have := B.out; have := B.out.size; go_grown)⟩
            case measure => simp [intOf]
        · rcases HQ3.out with ⟨i1, rfl⟩ | ⟨i1, ⟨i2, rfl⟩ | ⟨i2, rfl⟩⟩ | i9
          · go_wp2_with fail
            refine (HG_y3.out _ HT.out).mono ?_
            rintro r w11 ⟨rfl, hb⟩
            replace HT := Lib.hid (HT.out.below hb)
            replace B := Lib.hid (bl_thru B.out (Nat.le_refl _) hb)
            clear hb
            go_wp2_with fail
            refine (HG_a3.out _ HT.out).mono ?_
            rintro r w12 ⟨rfl, hb⟩
            replace HT := Lib.hid (HT.out.below hb)
            replace B := Lib.hid (bl_thru B.out (Nat.le_refl _) hb)
            clear hb
            go_wp2_with fail
            refine (HG_b3.out _ HT.out).mono ?_
            rintro r w13 ⟨rfl, hb⟩
            replace HT := Lib.hid (HT.out.below hb)
            replace B := Lib.hid (bl_thru B.out (Nat.le_refl _) hb)
            clear hb
            go_wp2_with (go_at_call 18; with_reducible refine (ok_new3 _ _ _  _ _ rfl).mono ?_; rintro e w' ⟨rfl, rfl⟩)
            go_roundw
            case rel => exact ⟨4, by omega, by go_num, Lib.hid (HT.out.below (by go_grown)), Lib.hid (by have := B.out; have := B.out.size; go_grown)⟩
            case measure => simp [intOf]
          · go_wp2_with fail
            refine (HG_y3.out _ HT.out).mono ?_
            rintro r w11 ⟨rfl, hb⟩
            replace HT := Lib.hid (HT.out.below hb)
            replace B := Lib.hid (bl_thru B.out (Nat.le_refl _) hb)
            clear hb
            go_wp2_with fail
            refine (HG_a3.out _ HT.out).mono ?_
            rintro r w12 ⟨rfl, hb⟩
            replace HT := Lib.hid (HT.out.below hb)
            replace B := Lib.hid (bl_thru B.out (Nat.le_refl _) hb)
            clear hb
            go_wp2_with fail
            refine (HG_b3.out _ HT.out).mono ?_
            rintro r w13 ⟨rfl, hb⟩
            replace HT := Lib.hid (HT.out.below hb)
            replace B := Lib.hid (bl_thru B.out (Nat.le_refl _) hb)
            clear hb
            go_wp2_with (go_at_call 18; with_reducible refine (ok_new3 _ _ _  _ _ rfl).mono ?_; rintro e w' ⟨rfl, rfl⟩)
            go_roundw
            case rel => exact ⟨4, by omega, by go_num, Lib.hid (HT.out.below (by go_grown)), Lib.hid (by have := B.out; have := B.out.size; go_grown)⟩
            case measure => simp [intOf]
          · go_wp2_with fail
            refine (HG_y3.out _ HT.out).mono ?_
            rintro r w11 ⟨rfl, hb⟩
            replace HT := Lib.hid (HT.out.below hb)
            replace B := Lib.hid (bl_thru B.out (Nat.le_refl _) hb)
            clear hb
            go_wp2_with fail
            refine (HG_a3.out _ HT.out).mono ?_
            rintro r w12 ⟨rfl, hb⟩
            replace HT := Lib.hid (HT.out.below hb)
            replace B := Lib.hid (bl_thru B.out (Nat.le_refl _) hb)
            clear hb
            go_wp2_with fail
            refine (HG_b3.out _ HT.out).mono ?_
            rintro r w13 ⟨rfl, hb⟩
            replace HT := Lib.hid (HT.out.below hb)
            replace B := Lib.hid (bl_thru B.out (Nat.le_refl _) hb)
            clear hb
            go_wp2_with (go_at_call 18; with_reducible refine (ok_new3 _ _ _  _ _ rfl).mono ?_; rintro e w' ⟨rfl, rfl⟩)
            go_roundw
            case rel => exact ⟨4, by omega, by go_num, Lib.hid (HT.out.below (by go_grown)), Lib.hid (by have := B.out; have := B.out.size; go_grown)⟩
            case measure => simp [intOf]
          · exact absurd i9 hc
        · clear j0 j1 j2 j3
          go_wp2
          go_ret
          exact ⟨rfl, B.out⟩
end Go.Proofs.YtmpdbmaokbhcjaaDoor
