/-
  THE WALK of the law ExpoSides.
-/
import Derived.Test.YtmpdbmaokbhcjaaDoorUvx
set_option linter.unusedVariables false
set_option linter.unusedSimpArgs false
namespace Go.Proofs.YtmpdbmaokbhcjaaDoor
open Go.RowKit Nt Fm Fl

theorem ok2_z {a b : Int} (h : ok2 a b = true) : a = 0 ∧ b = 0 := by
  unfold ok2 at h; simp [and_assoc] at h; exact h
theorem ok3_z {a b c : Int} (h : ok3 a b c = true) : a = 0 ∧ b = 0 ∧ c = 0 := by
  unfold ok3 at h; simp [and_assoc] at h; exact h
theorem xpE_z {mode : Int} (h : xpE mode = 0) : knownB mode = true := by
  unfold xpE at h
  cases hk : knownB mode
  · rw [hk] at h; exact absurd h (by decide)
  · rfl
set_option maxRecDepth 100000 in
set_option maxHeartbeats 16000000 in
theorem walkExpoSides (x : Int) (x0 : 0 ≤ x) (x1 : x ≤ 18446744073709551615) (w : World) (hT : Tab w) :
    Calls Tryd.prog 6 #[.int .u64 x] w fun e w' => e = .returned (.bool true) ∧ Below w.heap.size w w' := by
  obtain ⟨V_l0, hV_l0⟩ : ∃ V, V = xpV x 2 := ⟨_, rfl⟩
  have U_l0 : 0 ≤ V_l0 ∧ V_l0 ≤ 18446744073709551615 := by rw [hV_l0]; exact xp_u x0 x1
  have HG_l0 := Lib.hid (fun w' ht => by
    have := xexp_any x 2 w' ht x0 x1 (by decide) (by decide)
    rw [← hV_l0, xpE_t (show knownB 2 = true by decide), show xpC x 2 = finB x from by unfold xpC; rw [(show knownB 2 = true by decide)]; rfl] at this; exact this)
  obtain ⟨V_n0, hV_n0⟩ : ∃ V, V = xpV x 0 := ⟨_, rfl⟩
  have U_n0 : 0 ≤ V_n0 ∧ V_n0 ≤ 18446744073709551615 := by rw [hV_n0]; exact xp_u x0 x1
  have HG_n0 := Lib.hid (fun w' ht => by
    have := xexp_any x 0 w' ht x0 x1 (by decide) (by decide)
    rw [← hV_n0, xpE_t (show knownB 0 = true by decide), show xpC x 0 = finB x from by unfold xpC; rw [(show knownB 0 = true by decide)]; rfl] at this; exact this)
  obtain ⟨V_h0, hV_h0⟩ : ∃ V, V = xpV x 1 := ⟨_, rfl⟩
  have U_h0 : 0 ≤ V_h0 ∧ V_h0 ≤ 18446744073709551615 := by rw [hV_h0]; exact xp_u x0 x1
  have HG_h0 := Lib.hid (fun w' ht => by
    have := xexp_any x 1 w' ht x0 x1 (by decide) (by decide)
    rw [← hV_h0, xpE_t (show knownB 1 = true by decide), show xpC x 1 = finB x from by unfold xpC; rw [(show knownB 1 = true by decide)]; rfl] at this; exact this)
  obtain ⟨K_l0, J_l0, hK_l0, hJ_l0⟩ : ∃ K J, K = frank V_l0 ∧ J = frerr V_l0 := ⟨_, _, rfl, rfl⟩
  have HR_l0 := Lib.hid (fun w' => by
    have := rank_any V_l0 U_l0.1 U_l0.2 w'
    rw [← hK_l0, ← hJ_l0] at this; exact this)
  obtain ⟨K_h0, J_h0, hK_h0, hJ_h0⟩ : ∃ K J, K = frank V_h0 ∧ J = frerr V_h0 := ⟨_, _, rfl, rfl⟩
  have HR_h0 := Lib.hid (fun w' => by
    have := rank_any V_h0 U_h0.1 U_h0.2 w'
    rw [← hK_h0, ← hJ_h0] at this; exact this)
  have A0 : Hid ((finB x = true ∧ V_n0 = V_l0 ∧ K_h0 = K_l0 + 1) ∨ (finB x = true ∧ (V_n0 != V_l0) = true ∧ V_n0 = V_h0 ∧ K_h0 = K_l0 + 1) ∨ (finB x = false ∧ V_n0 = V_l0 ∧ V_h0 = V_l0)) := Lib.hid (by
    have h := Ans.sides (xp_ans x0 x1)
    cases hc : finB x
    · right; right
      obtain ⟨a, b⟩ := h.2 hc
      exact ⟨rfl, by rw [hV_n0, hV_l0]; exact a, by rw [hV_h0, hV_l0]; exact b⟩
    · obtain ⟨a, b⟩ := h.1 hc
      by_cases e : V_n0 = V_l0
      · exact Or.inl ⟨rfl, e, by rw [hK_h0, hK_l0, hV_h0, hV_l0]; exact b⟩
      · right; left
        refine ⟨rfl, by rw [bne_iff_ne]; exact e, ?_, by rw [hK_h0, hK_l0, hV_h0, hV_l0]; exact b⟩
        rcases a with a | a
        · exact absurd (by rw [hV_n0, hV_l0]; exact a) e
        · rw [hV_n0, hV_h0]; exact a)
  have KB0 : -9218868437227405312 ≤ K_l0 ∧ K_l0 ≤ 9218868437227405312 := by rw [hK_l0]; exact frank_bd _
  obtain ⟨V_l1, hV_l1⟩ : ∃ V, V = x1V x 2 := ⟨_, rfl⟩
  have U_l1 : 0 ≤ V_l1 ∧ V_l1 ≤ 18446744073709551615 := by rw [hV_l1]; exact x1_u x0 x1
  have HG_l1 := Lib.hid (fun w' ht => by
    have := xexpm1_any x 2 w' ht x0 x1 (by decide) (by decide)
    rw [← hV_l1, xpE_t (show knownB 2 = true by decide), show xpC x 2 = finB x from by unfold xpC; rw [(show knownB 2 = true by decide)]; rfl] at this; exact this)
  obtain ⟨V_n1, hV_n1⟩ : ∃ V, V = x1V x 0 := ⟨_, rfl⟩
  have U_n1 : 0 ≤ V_n1 ∧ V_n1 ≤ 18446744073709551615 := by rw [hV_n1]; exact x1_u x0 x1
  have HG_n1 := Lib.hid (fun w' ht => by
    have := xexpm1_any x 0 w' ht x0 x1 (by decide) (by decide)
    rw [← hV_n1, xpE_t (show knownB 0 = true by decide), show xpC x 0 = finB x from by unfold xpC; rw [(show knownB 0 = true by decide)]; rfl] at this; exact this)
  obtain ⟨V_h1, hV_h1⟩ : ∃ V, V = x1V x 1 := ⟨_, rfl⟩
  have U_h1 : 0 ≤ V_h1 ∧ V_h1 ≤ 18446744073709551615 := by rw [hV_h1]; exact x1_u x0 x1
  have HG_h1 := Lib.hid (fun w' ht => by
    have := xexpm1_any x 1 w' ht x0 x1 (by decide) (by decide)
    rw [← hV_h1, xpE_t (show knownB 1 = true by decide), show xpC x 1 = finB x from by unfold xpC; rw [(show knownB 1 = true by decide)]; rfl] at this; exact this)
  obtain ⟨K_l1, J_l1, hK_l1, hJ_l1⟩ : ∃ K J, K = frank V_l1 ∧ J = frerr V_l1 := ⟨_, _, rfl, rfl⟩
  have HR_l1 := Lib.hid (fun w' => by
    have := rank_any V_l1 U_l1.1 U_l1.2 w'
    rw [← hK_l1, ← hJ_l1] at this; exact this)
  obtain ⟨K_h1, J_h1, hK_h1, hJ_h1⟩ : ∃ K J, K = frank V_h1 ∧ J = frerr V_h1 := ⟨_, _, rfl, rfl⟩
  have HR_h1 := Lib.hid (fun w' => by
    have := rank_any V_h1 U_h1.1 U_h1.2 w'
    rw [← hK_h1, ← hJ_h1] at this; exact this)
  have A1 : Hid ((finB x = true ∧ V_n1 = V_l1 ∧ K_h1 = K_l1 + 1) ∨ (finB x = true ∧ (V_n1 != V_l1) = true ∧ V_n1 = V_h1 ∧ K_h1 = K_l1 + 1) ∨ (finB x = false ∧ V_n1 = V_l1 ∧ V_h1 = V_l1)) := Lib.hid (by
    have h := Ans.sides (x1_ans x0 x1)
    cases hc : finB x
    · right; right
      obtain ⟨a, b⟩ := h.2 hc
      exact ⟨rfl, by rw [hV_n1, hV_l1]; exact a, by rw [hV_h1, hV_l1]; exact b⟩
    · obtain ⟨a, b⟩ := h.1 hc
      by_cases e : V_n1 = V_l1
      · exact Or.inl ⟨rfl, e, by rw [hK_h1, hK_l1, hV_h1, hV_l1]; exact b⟩
      · right; left
        refine ⟨rfl, by rw [bne_iff_ne]; exact e, ?_, by rw [hK_h1, hK_l1, hV_h1, hV_l1]; exact b⟩
        rcases a with a | a
        · exact absurd (by rw [hV_n1, hV_l1]; exact a) e
        · rw [hV_n1, hV_h1]; exact a)
  have KB1 : -9218868437227405312 ≤ K_l1 ∧ K_l1 ≤ 9218868437227405312 := by rw [hK_l1]; exact frank_bd _
  obtain ⟨V_l2, hV_l2⟩ : ∃ V, V = lgV x 2 := ⟨_, rfl⟩
  have U_l2 : 0 ≤ V_l2 ∧ V_l2 ≤ 18446744073709551615 := by rw [hV_l2]; exact lg_u x0 x1
  have HG_l2 := Lib.hid (fun w' ht => by
    have := xlog_any x 2 w' ht x0 x1 (by decide) (by decide)
    rw [← hV_l2, xpE_t (show knownB 2 = true by decide), show lgC x 2 = (finB x && decide (x < 9223372036854775808 ∧ x ≠ 4607182418800017408)) from by unfold lgC; rw [(show knownB 2 = true by decide)]; rfl] at this; exact this)
  obtain ⟨V_n2, hV_n2⟩ : ∃ V, V = lgV x 0 := ⟨_, rfl⟩
  have U_n2 : 0 ≤ V_n2 ∧ V_n2 ≤ 18446744073709551615 := by rw [hV_n2]; exact lg_u x0 x1
  have HG_n2 := Lib.hid (fun w' ht => by
    have := xlog_any x 0 w' ht x0 x1 (by decide) (by decide)
    rw [← hV_n2, xpE_t (show knownB 0 = true by decide), show lgC x 0 = (finB x && decide (x < 9223372036854775808 ∧ x ≠ 4607182418800017408)) from by unfold lgC; rw [(show knownB 0 = true by decide)]; rfl] at this; exact this)
  obtain ⟨V_h2, hV_h2⟩ : ∃ V, V = lgV x 1 := ⟨_, rfl⟩
  have U_h2 : 0 ≤ V_h2 ∧ V_h2 ≤ 18446744073709551615 := by rw [hV_h2]; exact lg_u x0 x1
  have HG_h2 := Lib.hid (fun w' ht => by
    have := xlog_any x 1 w' ht x0 x1 (by decide) (by decide)
    rw [← hV_h2, xpE_t (show knownB 1 = true by decide), show lgC x 1 = (finB x && decide (x < 9223372036854775808 ∧ x ≠ 4607182418800017408)) from by unfold lgC; rw [(show knownB 1 = true by decide)]; rfl] at this; exact this)
  obtain ⟨K_l2, J_l2, hK_l2, hJ_l2⟩ : ∃ K J, K = frank V_l2 ∧ J = frerr V_l2 := ⟨_, _, rfl, rfl⟩
  have HR_l2 := Lib.hid (fun w' => by
    have := rank_any V_l2 U_l2.1 U_l2.2 w'
    rw [← hK_l2, ← hJ_l2] at this; exact this)
  obtain ⟨K_h2, J_h2, hK_h2, hJ_h2⟩ : ∃ K J, K = frank V_h2 ∧ J = frerr V_h2 := ⟨_, _, rfl, rfl⟩
  have HR_h2 := Lib.hid (fun w' => by
    have := rank_any V_h2 U_h2.1 U_h2.2 w'
    rw [← hK_h2, ← hJ_h2] at this; exact this)
  have A2 : Hid (((finB x && decide (x < 9223372036854775808 ∧ x ≠ 4607182418800017408)) = true ∧ V_n2 = V_l2 ∧ K_h2 = K_l2 + 1) ∨ ((finB x && decide (x < 9223372036854775808 ∧ x ≠ 4607182418800017408)) = true ∧ (V_n2 != V_l2) = true ∧ V_n2 = V_h2 ∧ K_h2 = K_l2 + 1) ∨ ((finB x && decide (x < 9223372036854775808 ∧ x ≠ 4607182418800017408)) = false ∧ V_n2 = V_l2 ∧ V_h2 = V_l2)) := Lib.hid (by
    have h := Ans.sides (lg_ans x0 x1)
    cases hc : (finB x && decide (x < 9223372036854775808 ∧ x ≠ 4607182418800017408))
    · right; right
      obtain ⟨a, b⟩ := h.2 hc
      exact ⟨rfl, by rw [hV_n2, hV_l2]; exact a, by rw [hV_h2, hV_l2]; exact b⟩
    · obtain ⟨a, b⟩ := h.1 hc
      by_cases e : V_n2 = V_l2
      · exact Or.inl ⟨rfl, e, by rw [hK_h2, hK_l2, hV_h2, hV_l2]; exact b⟩
      · right; left
        refine ⟨rfl, by rw [bne_iff_ne]; exact e, ?_, by rw [hK_h2, hK_l2, hV_h2, hV_l2]; exact b⟩
        rcases a with a | a
        · exact absurd (by rw [hV_n2, hV_l2]; exact a) e
        · rw [hV_n2, hV_h2]; exact a)
  have KB2 : -9218868437227405312 ≤ K_l2 ∧ K_l2 ≤ 9218868437227405312 := by rw [hK_l2]; exact frank_bd _
  obtain ⟨V_l3, hV_l3⟩ : ∃ V, V = lpV x 2 := ⟨_, rfl⟩
  have U_l3 : 0 ≤ V_l3 ∧ V_l3 ≤ 18446744073709551615 := by rw [hV_l3]; exact lp_u x0 x1
  have HG_l3 := Lib.hid (fun w' ht => by
    have := xlog1p_any x 2 w' ht x0 x1 (by decide) (by decide)
    rw [← hV_l3, xpE_t (show knownB 2 = true by decide), show lpC x 2 = (finB x && decide (x < 13830554455654793216)) from by unfold lpC; rw [(show knownB 2 = true by decide)]; rfl] at this; exact this)
  obtain ⟨V_n3, hV_n3⟩ : ∃ V, V = lpV x 0 := ⟨_, rfl⟩
  have U_n3 : 0 ≤ V_n3 ∧ V_n3 ≤ 18446744073709551615 := by rw [hV_n3]; exact lp_u x0 x1
  have HG_n3 := Lib.hid (fun w' ht => by
    have := xlog1p_any x 0 w' ht x0 x1 (by decide) (by decide)
    rw [← hV_n3, xpE_t (show knownB 0 = true by decide), show lpC x 0 = (finB x && decide (x < 13830554455654793216)) from by unfold lpC; rw [(show knownB 0 = true by decide)]; rfl] at this; exact this)
  obtain ⟨V_h3, hV_h3⟩ : ∃ V, V = lpV x 1 := ⟨_, rfl⟩
  have U_h3 : 0 ≤ V_h3 ∧ V_h3 ≤ 18446744073709551615 := by rw [hV_h3]; exact lp_u x0 x1
  have HG_h3 := Lib.hid (fun w' ht => by
    have := xlog1p_any x 1 w' ht x0 x1 (by decide) (by decide)
    rw [← hV_h3, xpE_t (show knownB 1 = true by decide), show lpC x 1 = (finB x && decide (x < 13830554455654793216)) from by unfold lpC; rw [(show knownB 1 = true by decide)]; rfl] at this; exact this)
  obtain ⟨K_l3, J_l3, hK_l3, hJ_l3⟩ : ∃ K J, K = frank V_l3 ∧ J = frerr V_l3 := ⟨_, _, rfl, rfl⟩
  have HR_l3 := Lib.hid (fun w' => by
    have := rank_any V_l3 U_l3.1 U_l3.2 w'
    rw [← hK_l3, ← hJ_l3] at this; exact this)
  obtain ⟨K_h3, J_h3, hK_h3, hJ_h3⟩ : ∃ K J, K = frank V_h3 ∧ J = frerr V_h3 := ⟨_, _, rfl, rfl⟩
  have HR_h3 := Lib.hid (fun w' => by
    have := rank_any V_h3 U_h3.1 U_h3.2 w'
    rw [← hK_h3, ← hJ_h3] at this; exact this)
  have A3 : Hid (((finB x && decide (x < 13830554455654793216)) = true ∧ V_n3 = V_l3 ∧ K_h3 = K_l3 + 1) ∨ ((finB x && decide (x < 13830554455654793216)) = true ∧ (V_n3 != V_l3) = true ∧ V_n3 = V_h3 ∧ K_h3 = K_l3 + 1) ∨ ((finB x && decide (x < 13830554455654793216)) = false ∧ V_n3 = V_l3 ∧ V_h3 = V_l3)) := Lib.hid (by
    have h := Ans.sides (lp_ans x0 x1)
    cases hc : (finB x && decide (x < 13830554455654793216))
    · right; right
      obtain ⟨a, b⟩ := h.2 hc
      exact ⟨rfl, by rw [hV_n3, hV_l3]; exact a, by rw [hV_h3, hV_l3]; exact b⟩
    · obtain ⟨a, b⟩ := h.1 hc
      by_cases e : V_n3 = V_l3
      · exact Or.inl ⟨rfl, e, by rw [hK_h3, hK_l3, hV_h3, hV_l3]; exact b⟩
      · right; left
        refine ⟨rfl, by rw [bne_iff_ne]; exact e, ?_, by rw [hK_h3, hK_l3, hV_h3, hV_l3]; exact b⟩
        rcases a with a | a
        · exact absurd (by rw [hV_n3, hV_l3]; exact a) e
        · rw [hV_n3, hV_h3]; exact a)
  have KB3 : -9218868437227405312 ≤ K_l3 ∧ K_l3 ≤ 9218868437227405312 := by rw [hK_l3]; exact frank_bd _
  generalize (finB x && decide (x < 9223372036854775808 ∧ x ≠ 4607182418800017408)) = q2 at *
  generalize (finB x && decide (x < 13830554455654793216)) = q3 at *
  generalize finB x = q0 at *
  clear hV_l0 U_l0 hV_n0 U_n0 hV_h0 U_h0 hV_l1 U_l1 hV_n1 U_n1 hV_h1 U_h1 hV_l2 U_l2 hV_n2 U_n2 hV_h2 U_h2 hV_l3 U_l3 hV_n3 U_n3 hV_h3 U_h3 hK_l0 hJ_l0 hK_h0 hJ_h0 hK_l1 hJ_l1 hK_h1 hJ_h1 hK_l2 hJ_l2 hK_h2 hJ_h2 hK_l3 hJ_l3 hK_h3 hJ_h3
  have k3m := ok3_mk
  have j0 : ∀ w : World, (Instr.index 35 xAll (.int .i64 0)).run Tryd.prog w = .ok (.func (.func 20) #[] #[]) w := fun _ => by kernel_rfl
  have j1 : ∀ w : World, (Instr.index 35 xAll (.int .i64 1)).run Tryd.prog w = .ok (.func (.func 22) #[] #[]) w := fun _ => by kernel_rfl
  have j2 : ∀ w : World, (Instr.index 35 xAll (.int .i64 2)).run Tryd.prog w = .ok (.func (.func 21) #[] #[]) w := fun _ => by kernel_rfl
  have j3 : ∀ w : World, (Instr.index 35 xAll (.int .i64 3)).run Tryd.prog w = .ok (.func (.func 23) #[] #[]) w := fun _ => by kernel_rfl
  have HT := Lib.hid hT
  clear hT
  have B : Hid (Below w.heap.size w w) := Lib.hid (Below.refl w.heap.size w)
  go_enter Tryd.func6, Tryd.ntmps6
  go_wp2_with fail
  refine (expoAll_any _).mono ?_
  rintro r w1 ⟨rfl, hb⟩
  replace HT := Lib.hid (HT.out.below hb)
  replace B := Lib.hid (bl_thru B.out (Nat.le_refl _) hb)
  clear hb
  go_wp2
  go_loopw [19] (fun i wr => ∃ k : Nat, k ≤ 4 ∧ i = .int .i64 k ∧ Hid (Tab wr) ∧ Hid (Below w.heap.size w wr)) (fun i _ => 4 - (intOf i).toNat)
  case atStart => exact ⟨0, by omega, rfl, Lib.hid HT.out, Lib.hid B.out⟩
  case round =>
    clear HT B
    obtain ⟨k, hk, rfl, HT, B⟩ := hrel
    have hk4 : k = 0 ∨ k = 1 ∨ k = 2 ∨ k = 3 ∨ k = 4 := by omega
    rcases hk4 with rfl | rfl | rfl | rfl | rfl
    · have AA := A0.out
      clear A0 A1 A2 A3
      rcases AA with ⟨hq, e1, e2⟩ | ⟨hq, e0, e1, e2⟩ | ⟨hq, e1, e2⟩
      · subst hq
        subst V_n0
        subst K_h0
        cases k2 : ok2 J_l0 J_h0
        · go_wp2_with fail
          refine (HG_l0.out _ HT.out).mono ?_
          rintro r w11 ⟨rfl, hb⟩
          replace HT := Lib.hid (HT.out.below hb)
          replace B := Lib.hid (bl_thru B.out (Nat.le_refl _) hb)
          clear hb
          go_wp2_with fail
          refine (HG_n0.out _ HT.out).mono ?_
          rintro r w12 ⟨rfl, hb⟩
          replace HT := Lib.hid (HT.out.below hb)
          replace B := Lib.hid (bl_thru B.out (Nat.le_refl _) hb)
          clear hb
          go_wp2_with fail
          refine (HG_h0.out _ HT.out).mono ?_
          rintro r w13 ⟨rfl, hb⟩
          replace HT := Lib.hid (HT.out.below hb)
          replace B := Lib.hid (bl_thru B.out (Nat.le_refl _) hb)
          clear hb
          go_wp2_with (first
            | (go_at_call 18; with_reducible refine (ok_new3 _ _ _  _ _ rfl).mono ?_; rintro e w' ⟨rfl, rfl⟩)
            | (go_at_call 18; with_reducible refine (ok_new2 _ _ _ _ (by simp)).mono ?_; rintro e w' ⟨rfl, rfl⟩)
            | (go_at_call 19; first | (with_reducible refine (HR_l0.out _).mono ?_; rintro e w' ⟨rfl, rfl⟩) | (with_reducible refine (HR_h0.out _).mono ?_; rintro e w' ⟨rfl, rfl⟩)))
          go_roundw
          case rel => exact ⟨1, by omega, by go_num, Lib.hid (HT.out.below (by go_grown)), Lib.hid (by have := B.out; have := B.out.size; go_grown)⟩
          case measure => simp [intOf]
        · go_wp2_with fail
          refine (HG_l0.out _ HT.out).mono ?_
          rintro r w11 ⟨rfl, hb⟩
          replace HT := Lib.hid (HT.out.below hb)
          replace B := Lib.hid (bl_thru B.out (Nat.le_refl _) hb)
          clear hb
          go_wp2_with fail
          refine (HG_n0.out _ HT.out).mono ?_
          rintro r w12 ⟨rfl, hb⟩
          replace HT := Lib.hid (HT.out.below hb)
          replace B := Lib.hid (bl_thru B.out (Nat.le_refl _) hb)
          clear hb
          go_wp2_with fail
          refine (HG_h0.out _ HT.out).mono ?_
          rintro r w13 ⟨rfl, hb⟩
          replace HT := Lib.hid (HT.out.below hb)
          replace B := Lib.hid (bl_thru B.out (Nat.le_refl _) hb)
          clear hb
          go_wp2_with (first
            | (go_at_call 18; with_reducible refine (ok_new3 _ _ _  _ _ rfl).mono ?_; rintro e w' ⟨rfl, rfl⟩)
            | (go_at_call 18; with_reducible refine (ok_new2 _ _ _ _ (by simp)).mono ?_; rintro e w' ⟨rfl, rfl⟩)
            | (go_at_call 19; first | (with_reducible refine (HR_l0.out _).mono ?_; rintro e w' ⟨rfl, rfl⟩) | (with_reducible refine (HR_h0.out _).mono ?_; rintro e w' ⟨rfl, rfl⟩)))
          go_roundw
          case rel => exact ⟨1, by omega, by go_num, Lib.hid (HT.out.below (by go_grown)), Lib.hid (by have := B.out; have := B.out.size; go_grown)⟩
          case measure => simp [intOf]
      · subst hq
        subst V_n0
        subst K_h0
        cases k2 : ok2 J_l0 J_h0
        · go_wp2_with fail
          refine (HG_l0.out _ HT.out).mono ?_
          rintro r w11 ⟨rfl, hb⟩
          replace HT := Lib.hid (HT.out.below hb)
          replace B := Lib.hid (bl_thru B.out (Nat.le_refl _) hb)
          clear hb
          go_wp2_with fail
          refine (HG_n0.out _ HT.out).mono ?_
          rintro r w12 ⟨rfl, hb⟩
          replace HT := Lib.hid (HT.out.below hb)
          replace B := Lib.hid (bl_thru B.out (Nat.le_refl _) hb)
          clear hb
          go_wp2_with fail
          refine (HG_h0.out _ HT.out).mono ?_
          rintro r w13 ⟨rfl, hb⟩
          replace HT := Lib.hid (HT.out.below hb)
          replace B := Lib.hid (bl_thru B.out (Nat.le_refl _) hb)
          clear hb
          go_wp2_with (first
            | (go_at_call 18; with_reducible refine (ok_new3 _ _ _  _ _ rfl).mono ?_; rintro e w' ⟨rfl, rfl⟩)
            | (go_at_call 18; with_reducible refine (ok_new2 _ _ _ _ (by simp)).mono ?_; rintro e w' ⟨rfl, rfl⟩)
            | (go_at_call 19; first | (with_reducible refine (HR_l0.out _).mono ?_; rintro e w' ⟨rfl, rfl⟩) | (with_reducible refine (HR_h0.out _).mono ?_; rintro e w' ⟨rfl, rfl⟩)))
          go_roundw
          case rel => exact ⟨1, by omega, by go_num, Lib.hid (HT.out.below (by go_grown)), Lib.hid (by have := B.out; have := B.out.size; go_grown)⟩
          case measure => simp [intOf]
        · go_wp2_with fail
          refine (HG_l0.out _ HT.out).mono ?_
          rintro r w11 ⟨rfl, hb⟩
          replace HT := Lib.hid (HT.out.below hb)
          replace B := Lib.hid (bl_thru B.out (Nat.le_refl _) hb)
          clear hb
          go_wp2_with fail
          refine (HG_n0.out _ HT.out).mono ?_
          rintro r w12 ⟨rfl, hb⟩
          replace HT := Lib.hid (HT.out.below hb)
          replace B := Lib.hid (bl_thru B.out (Nat.le_refl _) hb)
          clear hb
          go_wp2_with fail
          refine (HG_h0.out _ HT.out).mono ?_
          rintro r w13 ⟨rfl, hb⟩
          replace HT := Lib.hid (HT.out.below hb)
          replace B := Lib.hid (bl_thru B.out (Nat.le_refl _) hb)
          clear hb
          go_wp2_with (first
            | (go_at_call 18; with_reducible refine (ok_new3 _ _ _  _ _ rfl).mono ?_; rintro e w' ⟨rfl, rfl⟩)
            | (go_at_call 18; with_reducible refine (ok_new2 _ _ _ _ (by simp)).mono ?_; rintro e w' ⟨rfl, rfl⟩)
            | (go_at_call 19; first | (with_reducible refine (HR_l0.out _).mono ?_; rintro e w' ⟨rfl, rfl⟩) | (with_reducible refine (HR_h0.out _).mono ?_; rintro e w' ⟨rfl, rfl⟩)))
          go_roundw
          case rel => exact ⟨1, by omega, by go_num, Lib.hid (HT.out.below (by go_grown)), Lib.hid (by have := B.out; have := B.out.size; go_grown)⟩
          case measure => simp [intOf]
      · subst hq
        subst V_n0
        subst V_h0
        cases k2 : ok2 J_l0 J_l0
        · go_wp2_with fail
          refine (HG_l0.out _ HT.out).mono ?_
          rintro r w11 ⟨rfl, hb⟩
          replace HT := Lib.hid (HT.out.below hb)
          replace B := Lib.hid (bl_thru B.out (Nat.le_refl _) hb)
          clear hb
          go_wp2_with fail
          refine (HG_n0.out _ HT.out).mono ?_
          rintro r w12 ⟨rfl, hb⟩
          replace HT := Lib.hid (HT.out.below hb)
          replace B := Lib.hid (bl_thru B.out (Nat.le_refl _) hb)
          clear hb
          go_wp2_with fail
          refine (HG_h0.out _ HT.out).mono ?_
          rintro r w13 ⟨rfl, hb⟩
          replace HT := Lib.hid (HT.out.below hb)
          replace B := Lib.hid (bl_thru B.out (Nat.le_refl _) hb)
          clear hb
          go_wp2_with (first
            | (go_at_call 18; with_reducible refine (ok_new3 _ _ _  _ _ rfl).mono ?_; rintro e w' ⟨rfl, rfl⟩)
            | (go_at_call 18; with_reducible refine (ok_new2 _ _ _ _ (by simp)).mono ?_; rintro e w' ⟨rfl, rfl⟩)
            | (go_at_call 19; first | (with_reducible refine (HR_l0.out _).mono ?_; rintro e w' ⟨rfl, rfl⟩)))
          go_roundw
          case rel => exact ⟨1, by omega, by go_num, Lib.hid (HT.out.below (by go_grown)), Lib.hid (by have := B.out; have := B.out.size; go_grown)⟩
          case measure => simp [intOf]
        · go_wp2_with fail
          refine (HG_l0.out _ HT.out).mono ?_
          rintro r w11 ⟨rfl, hb⟩
          replace HT := Lib.hid (HT.out.below hb)
          replace B := Lib.hid (bl_thru B.out (Nat.le_refl _) hb)
          clear hb
          go_wp2_with fail
          refine (HG_n0.out _ HT.out).mono ?_
          rintro r w12 ⟨rfl, hb⟩
          replace HT := Lib.hid (HT.out.below hb)
          replace B := Lib.hid (bl_thru B.out (Nat.le_refl _) hb)
          clear hb
          go_wp2_with fail
          refine (HG_h0.out _ HT.out).mono ?_
          rintro r w13 ⟨rfl, hb⟩
          replace HT := Lib.hid (HT.out.below hb)
          replace B := Lib.hid (bl_thru B.out (Nat.le_refl _) hb)
          clear hb
          go_wp2_with (first
            | (go_at_call 18; with_reducible refine (ok_new3 _ _ _  _ _ rfl).mono ?_; rintro e w' ⟨rfl, rfl⟩)
            | (go_at_call 18; with_reducible refine (ok_new2 _ _ _ _ (by simp)).mono ?_; rintro e w' ⟨rfl, rfl⟩)
            | (go_at_call 19; first | (with_reducible refine (HR_l0.out _).mono ?_; rintro e w' ⟨rfl, rfl⟩)))
          go_roundw
          case rel => exact ⟨1, by omega, by go_num, Lib.hid (HT.out.below (by go_grown)), Lib.hid (by have := B.out; have := B.out.size; go_grown)⟩
          case measure => simp [intOf]
    · have AA := A1.out
      clear A0 A1 A2 A3
      rcases AA with ⟨hq, e1, e2⟩ | ⟨hq, e0, e1, e2⟩ | ⟨hq, e1, e2⟩
      · subst hq
        subst V_n1
        subst K_h1
        cases k2 : ok2 J_l1 J_h1
        · go_wp2_with fail
          refine (HG_l1.out _ HT.out).mono ?_
          rintro r w11 ⟨rfl, hb⟩
          replace HT := Lib.hid (HT.out.below hb)
          replace B := Lib.hid (bl_thru B.out (Nat.le_refl _) hb)
          clear hb
          go_wp2_with fail
          refine (HG_n1.out _ HT.out).mono ?_
          rintro r w12 ⟨rfl, hb⟩
          replace HT := Lib.hid (HT.out.below hb)
          replace B := Lib.hid (bl_thru B.out (Nat.le_refl _) hb)
          clear hb
          go_wp2_with fail
          refine (HG_h1.out _ HT.out).mono ?_
          rintro r w13 ⟨rfl, hb⟩
          replace HT := Lib.hid (HT.out.below hb)
          replace B := Lib.hid (bl_thru B.out (Nat.le_refl _) hb)
          clear hb
          go_wp2_with (first
            | (go_at_call 18; with_reducible refine (ok_new3 _ _ _  _ _ rfl).mono ?_; rintro e w' ⟨rfl, rfl⟩)
            | (go_at_call 18; with_reducible refine (ok_new2 _ _ _ _ (by simp)).mono ?_; rintro e w' ⟨rfl, rfl⟩)
            | (go_at_call 19; first | (with_reducible refine (HR_l1.out _).mono ?_; rintro e w' ⟨rfl, rfl⟩) | (with_reducible refine (HR_h1.out _).mono ?_; rintro e w' ⟨rfl, rfl⟩)))
          go_roundw
          case rel => exact ⟨2, by omega, by go_num, Lib.hid (HT.out.below (by go_grown)), Lib.hid (by have := B.out; have := B.out.size; go_grown)⟩
          case measure => simp [intOf]
        · go_wp2_with fail
          refine (HG_l1.out _ HT.out).mono ?_
          rintro r w11 ⟨rfl, hb⟩
          replace HT := Lib.hid (HT.out.below hb)
          replace B := Lib.hid (bl_thru B.out (Nat.le_refl _) hb)
          clear hb
          go_wp2_with fail
          refine (HG_n1.out _ HT.out).mono ?_
          rintro r w12 ⟨rfl, hb⟩
          replace HT := Lib.hid (HT.out.below hb)
          replace B := Lib.hid (bl_thru B.out (Nat.le_refl _) hb)
          clear hb
          go_wp2_with fail
          refine (HG_h1.out _ HT.out).mono ?_
          rintro r w13 ⟨rfl, hb⟩
          replace HT := Lib.hid (HT.out.below hb)
          replace B := Lib.hid (bl_thru B.out (Nat.le_refl _) hb)
          clear hb
          go_wp2_with (first
            | (go_at_call 18; with_reducible refine (ok_new3 _ _ _  _ _ rfl).mono ?_; rintro e w' ⟨rfl, rfl⟩)
            | (go_at_call 18; with_reducible refine (ok_new2 _ _ _ _ (by simp)).mono ?_; rintro e w' ⟨rfl, rfl⟩)
            | (go_at_call 19; first | (with_reducible refine (HR_l1.out _).mono ?_; rintro e w' ⟨rfl, rfl⟩) | (with_reducible refine (HR_h1.out _).mono ?_; rintro e w' ⟨rfl, rfl⟩)))
          go_roundw
          case rel => exact ⟨2, by omega, by go_num, Lib.hid (HT.out.below (by go_grown)), Lib.hid (by have := B.out; have := B.out.size; go_grown)⟩
          case measure => simp [intOf]
      · subst hq
        subst V_n1
        subst K_h1
        cases k2 : ok2 J_l1 J_h1
        · go_wp2_with fail
          refine (HG_l1.out _ HT.out).mono ?_
          rintro r w11 ⟨rfl, hb⟩
          replace HT := Lib.hid (HT.out.below hb)
          replace B := Lib.hid (bl_thru B.out (Nat.le_refl _) hb)
          clear hb
          go_wp2_with fail
          refine (HG_n1.out _ HT.out).mono ?_
          rintro r w12 ⟨rfl, hb⟩
          replace HT := Lib.hid (HT.out.below hb)
          replace B := Lib.hid (bl_thru B.out (Nat.le_refl _) hb)
          clear hb
          go_wp2_with fail
          refine (HG_h1.out _ HT.out).mono ?_
          rintro r w13 ⟨rfl, hb⟩
          replace HT := Lib.hid (HT.out.below hb)
          replace B := Lib.hid (bl_thru B.out (Nat.le_refl _) hb)
          clear hb
          go_wp2_with (first
            | (go_at_call 18; with_reducible refine (ok_new3 _ _ _  _ _ rfl).mono ?_; rintro e w' ⟨rfl, rfl⟩)
            | (go_at_call 18; with_reducible refine (ok_new2 _ _ _ _ (by simp)).mono ?_; rintro e w' ⟨rfl, rfl⟩)
            | (go_at_call 19; first | (with_reducible refine (HR_l1.out _).mono ?_; rintro e w' ⟨rfl, rfl⟩) | (with_reducible refine (HR_h1.out _).mono ?_; rintro e w' ⟨rfl, rfl⟩)))
          go_roundw
          case rel => exact ⟨2, by omega, by go_num, Lib.hid (HT.out.below (by go_grown)), Lib.hid (by have := B.out; have := B.out.size; go_grown)⟩
          case measure => simp [intOf]
        · go_wp2_with fail
          refine (HG_l1.out _ HT.out).mono ?_
          rintro r w11 ⟨rfl, hb⟩
          replace HT := Lib.hid (HT.out.below hb)
          replace B := Lib.hid (bl_thru B.out (Nat.le_refl _) hb)
          clear hb
          go_wp2_with fail
          refine (HG_n1.out _ HT.out).mono ?_
          rintro r w12 ⟨rfl, hb⟩
          replace HT := Lib.hid (HT.out.below hb)
          replace B := Lib.hid (bl_thru B.out (Nat.le_refl _) hb)
          clear hb
          go_wp2_with fail
          refine (HG_h1.out _ HT.out).mono ?_
          rintro r w13 ⟨rfl, hb⟩
          replace HT := Lib.hid (HT.out.below hb)
          replace B := Lib.hid (bl_thru B.out (Nat.le_refl _) hb)
          clear hb
          go_wp2_with (first
            | (go_at_call 18; with_reducible refine (ok_new3 _ _ _  _ _ rfl).mono ?_; rintro e w' ⟨rfl, rfl⟩)
            | (go_at_call 18; with_reducible refine (ok_new2 _ _ _ _ (by simp)).mono ?_; rintro e w' ⟨rfl, rfl⟩)
            | (go_at_call 19; first | (with_reducible refine (HR_l1.out _).mono ?_; rintro e w' ⟨rfl, rfl⟩) | (with_reducible refine (HR_h1.out _).mono ?_; rintro e w' ⟨rfl, rfl⟩)))
          go_roundw
          case rel => exact ⟨2, by omega, by go_num, Lib.hid (HT.out.below (by go_grown)), Lib.hid (by have := B.out; have := B.out.size; go_grown)⟩
          case measure => simp [intOf]
      · subst hq
        subst V_n1
        subst V_h1
        cases k2 : ok2 J_l1 J_l1
        · go_wp2_with fail
          refine (HG_l1.out _ HT.out).mono ?_
          rintro r w11 ⟨rfl, hb⟩
          replace HT := Lib.hid (HT.out.below hb)
          replace B := Lib.hid (bl_thru B.out (Nat.le_refl _) hb)
          clear hb
          go_wp2_with fail
          refine (HG_n1.out _ HT.out).mono ?_
          rintro r w12 ⟨rfl, hb⟩
          replace HT := Lib.hid (HT.out.below hb)
          replace B := Lib.hid (bl_thru B.out (Nat.le_refl _) hb)
          clear hb
          go_wp2_with fail
          refine (HG_h1.out _ HT.out).mono ?_
          rintro r w13 ⟨rfl, hb⟩
          replace HT := Lib.hid (HT.out.below hb)
          replace B := Lib.hid (bl_thru B.out (Nat.le_refl _) hb)
          clear hb
          go_wp2_with (first
            | (go_at_call 18; with_reducible refine (ok_new3 _ _ _  _ _ rfl).mono ?_; rintro e w' ⟨rfl, rfl⟩)
            | (go_at_call 18; with_reducible refine (ok_new2 _ _ _ _ (by simp)).mono ?_; rintro e w' ⟨rfl, rfl⟩)
            | (go_at_call 19; first | (with_reducible refine (HR_l1.out _).mono ?_; rintro e w' ⟨rfl, rfl⟩)))
          go_roundw
          case rel => exact ⟨2, by omega, by go_num, Lib.hid (HT.out.below (by go_grown)), Lib.hid (by have := B.out; have := B.out.size; go_grown)⟩
          case measure => simp [intOf]
        · go_wp2_with fail
          refine (HG_l1.out _ HT.out).mono ?_
          rintro r w11 ⟨rfl, hb⟩
          replace HT := Lib.hid (HT.out.below hb)
          replace B := Lib.hid (bl_thru B.out (Nat.le_refl _) hb)
          clear hb
          go_wp2_with fail
          refine (HG_n1.out _ HT.out).mono ?_
          rintro r w12 ⟨rfl, hb⟩
          replace HT := Lib.hid (HT.out.below hb)
          replace B := Lib.hid (bl_thru B.out (Nat.le_refl _) hb)
          clear hb
          go_wp2_with fail
          refine (HG_h1.out _ HT.out).mono ?_
          rintro r w13 ⟨rfl, hb⟩
          replace HT := Lib.hid (HT.out.below hb)
          replace B := Lib.hid (bl_thru B.out (Nat.le_refl _) hb)
          clear hb
          go_wp2_with (first
            | (go_at_call 18; with_reducible refine (ok_new3 _ _ _  _ _ rfl).mono ?_; rintro e w' ⟨rfl, rfl⟩)
            | (go_at_call 18; with_reducible refine (ok_new2 _ _ _ _ (by simp)).mono ?_; rintro e w' ⟨rfl, rfl⟩)
            | (go_at_call 19; first | (with_reducible refine (HR_l1.out _).mono ?_; rintro e w' ⟨rfl, rfl⟩)))
          go_roundw
          case rel => exact ⟨2, by omega, by go_num, Lib.hid (HT.out.below (by go_grown)), Lib.hid (by have := B.out; have := B.out.size; go_grown)⟩
          case measure => simp [intOf]
    · have AA := A2.out
      clear A0 A1 A2 A3
      rcases AA with ⟨hq, e1, e2⟩ | ⟨hq, e0, e1, e2⟩ | ⟨hq, e1, e2⟩
      · subst hq
        subst V_n2
        subst K_h2
        cases k2 : ok2 J_l2 J_h2
        · go_wp2_with fail
          refine (HG_l2.out _ HT.out).mono ?_
          rintro r w11 ⟨rfl, hb⟩
          replace HT := Lib.hid (HT.out.below hb)
          replace B := Lib.hid (bl_thru B.out (Nat.le_refl _) hb)
          clear hb
          go_wp2_with fail
          refine (HG_n2.out _ HT.out).mono ?_
          rintro r w12 ⟨rfl, hb⟩
          replace HT := Lib.hid (HT.out.below hb)
          replace B := Lib.hid (bl_thru B.out (Nat.le_refl _) hb)
          clear hb
          go_wp2_with fail
          refine (HG_h2.out _ HT.out).mono ?_
          rintro r w13 ⟨rfl, hb⟩
          replace HT := Lib.hid (HT.out.below hb)
          replace B := Lib.hid (bl_thru B.out (Nat.le_refl _) hb)
          clear hb
          go_wp2_with (first
            | (go_at_call 18; with_reducible refine (ok_new3 _ _ _  _ _ rfl).mono ?_; rintro e w' ⟨rfl, rfl⟩)
            | (go_at_call 18; with_reducible refine (ok_new2 _ _ _ _ (by simp)).mono ?_; rintro e w' ⟨rfl, rfl⟩)
            | (go_at_call 19; first | (with_reducible refine (HR_l2.out _).mono ?_; rintro e w' ⟨rfl, rfl⟩) | (with_reducible refine (HR_h2.out _).mono ?_; rintro e w' ⟨rfl, rfl⟩)))
          go_roundw
          case rel => exact ⟨3, by omega, by go_num, Lib.hid (HT.out.below (by go_grown)), Lib.hid (by have := B.out; have := B.out.size; go_grown)⟩
          case measure => simp [intOf]
        · go_wp2_with fail
          refine (HG_l2.out _ HT.out).mono ?_
          rintro r w11 ⟨rfl, hb⟩
          replace HT := Lib.hid (HT.out.below hb)
          replace B := Lib.hid (bl_thru B.out (Nat.le_refl _) hb)
          clear hb
          go_wp2_with fail
          refine (HG_n2.out _ HT.out).mono ?_
          rintro r w12 ⟨rfl, hb⟩
          replace HT := Lib.hid (HT.out.below hb)
          replace B := Lib.hid (bl_thru B.out (Nat.le_refl _) hb)
          clear hb
          go_wp2_with fail
          refine (HG_h2.out _ HT.out).mono ?_
          rintro r w13 ⟨rfl, hb⟩
          replace HT := Lib.hid (HT.out.below hb)
          replace B := Lib.hid (bl_thru B.out (Nat.le_refl _) hb)
          clear hb
          go_wp2_with (first
            | (go_at_call 18; with_reducible refine (ok_new3 _ _ _  _ _ rfl).mono ?_; rintro e w' ⟨rfl, rfl⟩)
            | (go_at_call 18; with_reducible refine (ok_new2 _ _ _ _ (by simp)).mono ?_; rintro e w' ⟨rfl, rfl⟩)
            | (go_at_call 19; first | (with_reducible refine (HR_l2.out _).mono ?_; rintro e w' ⟨rfl, rfl⟩) | (with_reducible refine (HR_h2.out _).mono ?_; rintro e w' ⟨rfl, rfl⟩)))
          go_roundw
          case rel => exact ⟨3, by omega, by go_num, Lib.hid (HT.out.below (by go_grown)), Lib.hid (by have := B.out; have := B.out.size; go_grown)⟩
          case measure => simp [intOf]
      · subst hq
        subst V_n2
        subst K_h2
        cases k2 : ok2 J_l2 J_h2
        · go_wp2_with fail
          refine (HG_l2.out _ HT.out).mono ?_
          rintro r w11 ⟨rfl, hb⟩
          replace HT := Lib.hid (HT.out.below hb)
          replace B := Lib.hid (bl_thru B.out (Nat.le_refl _) hb)
          clear hb
          go_wp2_with fail
          refine (HG_n2.out _ HT.out).mono ?_
          rintro r w12 ⟨rfl, hb⟩
          replace HT := Lib.hid (HT.out.below hb)
          replace B := Lib.hid (bl_thru B.out (Nat.le_refl _) hb)
          clear hb
          go_wp2_with fail
          refine (HG_h2.out _ HT.out).mono ?_
          rintro r w13 ⟨rfl, hb⟩
          replace HT := Lib.hid (HT.out.below hb)
          replace B := Lib.hid (bl_thru B.out (Nat.le_refl _) hb)
          clear hb
          go_wp2_with (first
            | (go_at_call 18; with_reducible refine (ok_new3 _ _ _  _ _ rfl).mono ?_; rintro e w' ⟨rfl, rfl⟩)
            | (go_at_call 18; with_reducible refine (ok_new2 _ _ _ _ (by simp)).mono ?_; rintro e w' ⟨rfl, rfl⟩)
            | (go_at_call 19; first | (with_reducible refine (HR_l2.out _).mono ?_; rintro e w' ⟨rfl, rfl⟩) | (with_reducible refine (HR_h2.out _).mono ?_; rintro e w' ⟨rfl, rfl⟩)))
          go_roundw
          case rel => exact ⟨3, by omega, by go_num, Lib.hid (HT.out.below (by go_grown)), Lib.hid (by have := B.out; have := B.out.size; go_grown)⟩
          case measure => simp [intOf]
        · go_wp2_with fail
          refine (HG_l2.out _ HT.out).mono ?_
          rintro r w11 ⟨rfl, hb⟩
          replace HT := Lib.hid (HT.out.below hb)
          replace B := Lib.hid (bl_thru B.out (Nat.le_refl _) hb)
          clear hb
          go_wp2_with fail
          refine (HG_n2.out _ HT.out).mono ?_
          rintro r w12 ⟨rfl, hb⟩
          replace HT := Lib.hid (HT.out.below hb)
          replace B := Lib.hid (bl_thru B.out (Nat.le_refl _) hb)
          clear hb
          go_wp2_with fail
          refine (HG_h2.out _ HT.out).mono ?_
          rintro r w13 ⟨rfl, hb⟩
          replace HT := Lib.hid (HT.out.below hb)
          replace B := Lib.hid (bl_thru B.out (Nat.le_refl _) hb)
          clear hb
          go_wp2_with (first
            | (go_at_call 18; with_reducible refine (ok_new3 _ _ _  _ _ rfl).mono ?_; rintro e w' ⟨rfl, rfl⟩)
            | (go_at_call 18; with_reducible refine (ok_new2 _ _ _ _ (by simp)).mono ?_; rintro e w' ⟨rfl, rfl⟩)
            | (go_at_call 19; first | (with_reducible refine (HR_l2.out _).mono ?_; rintro e w' ⟨rfl, rfl⟩) | (with_reducible refine (HR_h2.out _).mono ?_; rintro e w' ⟨rfl, rfl⟩)))
          go_roundw
          case rel => exact ⟨3, by omega, by go_num, Lib.hid (HT.out.below (by go_grown)), Lib.hid (by have := B.out; have := B.out.size; go_grown)⟩
          case measure => simp [intOf]
      · subst hq
        subst V_n2
        subst V_h2
        cases k2 : ok2 J_l2 J_l2
        · go_wp2_with fail
          refine (HG_l2.out _ HT.out).mono ?_
          rintro r w11 ⟨rfl, hb⟩
          replace HT := Lib.hid (HT.out.below hb)
          replace B := Lib.hid (bl_thru B.out (Nat.le_refl _) hb)
          clear hb
          go_wp2_with fail
          refine (HG_n2.out _ HT.out).mono ?_
          rintro r w12 ⟨rfl, hb⟩
          replace HT := Lib.hid (HT.out.below hb)
          replace B := Lib.hid (bl_thru B.out (Nat.le_refl _) hb)
          clear hb
          go_wp2_with fail
          refine (HG_h2.out _ HT.out).mono ?_
          rintro r w13 ⟨rfl, hb⟩
          replace HT := Lib.hid (HT.out.below hb)
          replace B := Lib.hid (bl_thru B.out (Nat.le_refl _) hb)
          clear hb
          go_wp2_with (first
            | (go_at_call 18; with_reducible refine (ok_new3 _ _ _  _ _ rfl).mono ?_; rintro e w' ⟨rfl, rfl⟩)
            | (go_at_call 18; with_reducible refine (ok_new2 _ _ _ _ (by simp)).mono ?_; rintro e w' ⟨rfl, rfl⟩)
            | (go_at_call 19; first | (with_reducible refine (HR_l2.out _).mono ?_; rintro e w' ⟨rfl, rfl⟩)))
          go_roundw
          case rel => exact ⟨3, by omega, by go_num, Lib.hid (HT.out.below (by go_grown)), Lib.hid (by have := B.out; have := B.out.size; go_grown)⟩
          case measure => simp [intOf]
        · go_wp2_with fail
          refine (HG_l2.out _ HT.out).mono ?_
          rintro r w11 ⟨rfl, hb⟩
          replace HT := Lib.hid (HT.out.below hb)
          replace B := Lib.hid (bl_thru B.out (Nat.le_refl _) hb)
          clear hb
          go_wp2_with fail
          refine (HG_n2.out _ HT.out).mono ?_
          rintro r w12 ⟨rfl, hb⟩
          replace HT := Lib.hid (HT.out.below hb)
          replace B := Lib.hid (bl_thru B.out (Nat.le_refl _) hb)
          clear hb
          go_wp2_with fail
          refine (HG_h2.out _ HT.out).mono ?_
          rintro r w13 ⟨rfl, hb⟩
          replace HT := Lib.hid (HT.out.below hb)
          replace B := Lib.hid (bl_thru B.out (Nat.le_refl _) hb)
          clear hb
          go_wp2_with (first
            | (go_at_call 18; with_reducible refine (ok_new3 _ _ _  _ _ rfl).mono ?_; rintro e w' ⟨rfl, rfl⟩)
            | (go_at_call 18; with_reducible refine (ok_new2 _ _ _ _ (by simp)).mono ?_; rintro e w' ⟨rfl, rfl⟩)
            | (go_at_call 19; first | (with_reducible refine (HR_l2.out _).mono ?_; rintro e w' ⟨rfl, rfl⟩)))
          go_roundw
          case rel => exact ⟨3, by omega, by go_num, Lib.hid (HT.out.below (by go_grown)), Lib.hid (by have := B.out; have := B.out.size; go_grown)⟩
          case measure => simp [intOf]
    · have AA := A3.out
      clear A0 A1 A2 A3
      rcases AA with ⟨hq, e1, e2⟩ | ⟨hq, e0, e1, e2⟩ | ⟨hq, e1, e2⟩
      · subst hq
        subst V_n3
        subst K_h3
        cases k2 : ok2 J_l3 J_h3
        · go_wp2_with fail
          refine (HG_l3.out _ HT.out).mono ?_
          rintro r w11 ⟨rfl, hb⟩
          replace HT := Lib.hid (HT.out.below hb)
          replace B := Lib.hid (bl_thru B.out (Nat.le_refl _) hb)
          clear hb
          go_wp2_with fail
          refine (HG_n3.out _ HT.out).mono ?_
          rintro r w12 ⟨rfl, hb⟩
          replace HT := Lib.hid (HT.out.below hb)
          replace B := Lib.hid (bl_thru B.out (Nat.le_refl _) hb)
          clear hb
          go_wp2_with fail
          refine (HG_h3.out _ HT.out).mono ?_
          rintro r w13 ⟨rfl, hb⟩
          replace HT := Lib.hid (HT.out.below hb)
          replace B := Lib.hid (bl_thru B.out (Nat.le_refl _) hb)
          clear hb
          go_wp2_with (first
            | (go_at_call 18; with_reducible refine (ok_new3 _ _ _  _ _ rfl).mono ?_; rintro e w' ⟨rfl, rfl⟩)
            | (go_at_call 18; with_reducible refine (ok_new2 _ _ _ _ (by simp)).mono ?_; rintro e w' ⟨rfl, rfl⟩)
            | (go_at_call 19; first | (with_reducible refine (HR_l3.out _).mono ?_; rintro e w' ⟨rfl, rfl⟩) | (with_reducible refine (HR_h3.out _).mono ?_; rintro e w' ⟨rfl, rfl⟩)))
          go_roundw
          case rel => exact ⟨4, by omega, by go_num, Lib.hid (HT.out.below (by go_grown)), Lib.hid (by have := B.out; have := B.out.size; go_grown)⟩
          case measure => simp [intOf]
        · go_wp2_with fail
          refine (HG_l3.out _ HT.out).mono ?_
          rintro r w11 ⟨rfl, hb⟩
          replace HT := Lib.hid (HT.out.below hb)
          replace B := Lib.hid (bl_thru B.out (Nat.le_refl _) hb)
          clear hb
          go_wp2_with fail
          refine (HG_n3.out _ HT.out).mono ?_
          rintro r w12 ⟨rfl, hb⟩
          replace HT := Lib.hid (HT.out.below hb)
          replace B := Lib.hid (bl_thru B.out (Nat.le_refl _) hb)
          clear hb
          go_wp2_with fail
          refine (HG_h3.out _ HT.out).mono ?_
          rintro r w13 ⟨rfl, hb⟩
          replace HT := Lib.hid (HT.out.below hb)
          replace B := Lib.hid (bl_thru B.out (Nat.le_refl _) hb)
          clear hb
          go_wp2_with (first
            | (go_at_call 18; with_reducible refine (ok_new3 _ _ _  _ _ rfl).mono ?_; rintro e w' ⟨rfl, rfl⟩)
            | (go_at_call 18; with_reducible refine (ok_new2 _ _ _ _ (by simp)).mono ?_; rintro e w' ⟨rfl, rfl⟩)
            | (go_at_call 19; first | (with_reducible refine (HR_l3.out _).mono ?_; rintro e w' ⟨rfl, rfl⟩) | (with_reducible refine (HR_h3.out _).mono ?_; rintro e w' ⟨rfl, rfl⟩)))
          go_roundw
          case rel => exact ⟨4, by omega, by go_num, Lib.hid (HT.out.below (by go_grown)), Lib.hid (by have := B.out; have := B.out.size; go_grown)⟩
          case measure => simp [intOf]
      · subst hq
        subst V_n3
        subst K_h3
        cases k2 : ok2 J_l3 J_h3
        · go_wp2_with fail
          refine (HG_l3.out _ HT.out).mono ?_
          rintro r w11 ⟨rfl, hb⟩
          replace HT := Lib.hid (HT.out.below hb)
          replace B := Lib.hid (bl_thru B.out (Nat.le_refl _) hb)
          clear hb
          go_wp2_with fail
          refine (HG_n3.out _ HT.out).mono ?_
          rintro r w12 ⟨rfl, hb⟩
          replace HT := Lib.hid (HT.out.below hb)
          replace B := Lib.hid (bl_thru B.out (Nat.le_refl _) hb)
          clear hb
          go_wp2_with fail
          refine (HG_h3.out _ HT.out).mono ?_
          rintro r w13 ⟨rfl, hb⟩
          replace HT := Lib.hid (HT.out.below hb)
          replace B := Lib.hid (bl_thru B.out (Nat.le_refl _) hb)
          clear hb
          go_wp2_with (first
            | (go_at_call 18; with_reducible refine (ok_new3 _ _ _  _ _ rfl).mono ?_; rintro e w' ⟨rfl, rfl⟩)
            | (go_at_call 18; with_reducible refine (ok_new2 _ _ _ _ (by simp)).mono ?_; rintro e w' ⟨rfl, rfl⟩)
            | (go_at_call 19; first | (with_reducible refine (HR_l3.out _).mono ?_; rintro e w' ⟨rfl, rfl⟩) | (with_reducible refine (HR_h3.out _).mono ?_; rintro e w' ⟨rfl, rfl⟩)))
          go_roundw
          case rel => exact ⟨4, by omega, by go_num, Lib.hid (HT.out.below (by go_grown)), Lib.hid (by have := B.out; have := B.out.size; go_grown)⟩
          case measure => simp [intOf]
        · go_wp2_with fail
          refine (HG_l3.out _ HT.out).mono ?_
          rintro r w11 ⟨rfl, hb⟩
          replace HT := Lib.hid (HT.out.below hb)
          replace B := Lib.hid (bl_thru B.out (Nat.le_refl _) hb)
          clear hb
          go_wp2_with fail
          refine (HG_n3.out _ HT.out).mono ?_
          rintro r w12 ⟨rfl, hb⟩
          replace HT := Lib.hid (HT.out.below hb)
          replace B := Lib.hid (bl_thru B.out (Nat.le_refl _) hb)
          clear hb
          go_wp2_with fail
          refine (HG_h3.out _ HT.out).mono ?_
          rintro r w13 ⟨rfl, hb⟩
          replace HT := Lib.hid (HT.out.below hb)
          replace B := Lib.hid (bl_thru B.out (Nat.le_refl _) hb)
          clear hb
          go_wp2_with (first
            | (go_at_call 18; with_reducible refine (ok_new3 _ _ _  _ _ rfl).mono ?_; rintro e w' ⟨rfl, rfl⟩)
            | (go_at_call 18; with_reducible refine (ok_new2 _ _ _ _ (by simp)).mono ?_; rintro e w' ⟨rfl, rfl⟩)
            | (go_at_call 19; first | (with_reducible refine (HR_l3.out _).mono ?_; rintro e w' ⟨rfl, rfl⟩) | (with_reducible refine (HR_h3.out _).mono ?_; rintro e w' ⟨rfl, rfl⟩)))
          go_roundw
          case rel => exact ⟨4, by omega, by go_num, Lib.hid (HT.out.below (by go_grown)), Lib.hid (by have := B.out; have := B.out.size; go_grown)⟩
          case measure => simp [intOf]
      · subst hq
        subst V_n3
        subst V_h3
        cases k2 : ok2 J_l3 J_l3
        · go_wp2_with fail
          refine (HG_l3.out _ HT.out).mono ?_
          rintro r w11 ⟨rfl, hb⟩
          replace HT := Lib.hid (HT.out.below hb)
          replace B := Lib.hid (bl_thru B.out (Nat.le_refl _) hb)
          clear hb
          go_wp2_with fail
          refine (HG_n3.out _ HT.out).mono ?_
          rintro r w12 ⟨rfl, hb⟩
          replace HT := Lib.hid (HT.out.below hb)
          replace B := Lib.hid (bl_thru B.out (Nat.le_refl _) hb)
          clear hb
          go_wp2_with fail
          refine (HG_h3.out _ HT.out).mono ?_
          rintro r w13 ⟨rfl, hb⟩
          replace HT := Lib.hid (HT.out.below hb)
          replace B := Lib.hid (bl_thru B.out (Nat.le_refl _) hb)
          clear hb
          go_wp2_with (first
            | (go_at_call 18; with_reducible refine (ok_new3 _ _ _  _ _ rfl).mono ?_; rintro e w' ⟨rfl, rfl⟩)
            | (go_at_call 18; with_reducible refine (ok_new2 _ _ _ _ (by simp)).mono ?_; rintro e w' ⟨rfl, rfl⟩)
            | (go_at_call 19; first | (with_reducible refine (HR_l3.out _).mono ?_; rintro e w' ⟨rfl, rfl⟩)))
          go_roundw
          case rel => exact ⟨4, by omega, by go_num, Lib.hid (HT.out.below (by go_grown)), Lib.hid (by have := B.out; have := B.out.size; go_grown)⟩
          case measure => simp [intOf]
        · go_wp2_with fail
          refine (HG_l3.out _ HT.out).mono ?_
          rintro r w11 ⟨rfl, hb⟩
          replace HT := Lib.hid (HT.out.below hb)
          replace B := Lib.hid (bl_thru B.out (Nat.le_refl _) hb)
          clear hb
          go_wp2_with fail
          refine (HG_n3.out _ HT.out).mono ?_
          rintro r w12 ⟨rfl, hb⟩
          replace HT := Lib.hid (HT.out.below hb)
          replace B := Lib.hid (bl_thru B.out (Nat.le_refl _) hb)
          clear hb
          go_wp2_with fail
          refine (HG_h3.out _ HT.out).mono ?_
          rintro r w13 ⟨rfl, hb⟩
          replace HT := Lib.hid (HT.out.below hb)
          replace B := Lib.hid (bl_thru B.out (Nat.le_refl _) hb)
          clear hb
          go_wp2_with (first
            | (go_at_call 18; with_reducible refine (ok_new3 _ _ _  _ _ rfl).mono ?_; rintro e w' ⟨rfl, rfl⟩)
            | (go_at_call 18; with_reducible refine (ok_new2 _ _ _ _ (by simp)).mono ?_; rintro e w' ⟨rfl, rfl⟩)
            | (go_at_call 19; first | (with_reducible refine (HR_l3.out _).mono ?_; rintro e w' ⟨rfl, rfl⟩)))
          go_roundw
          case rel => exact ⟨4, by omega, by go_num, Lib.hid (HT.out.below (by go_grown)), Lib.hid (by have := B.out; have := B.out.size; go_grown)⟩
          case measure => simp [intOf]
    · clear j0 j1 j2 j3
      go_wp2_with fail
      refine (expoLives_any _ HT.out).mono ?_
      rintro r w11 ⟨rfl, hb⟩
      replace HT := Lib.hid (HT.out.below hb)
      replace B := Lib.hid (bl_thru B.out (Nat.le_refl _) hb)
      clear hb
      go_wp2
      go_ret
      exact ⟨rfl, B.out⟩
end Go.Proofs.YtmpdbmaokbhcjaaDoor
