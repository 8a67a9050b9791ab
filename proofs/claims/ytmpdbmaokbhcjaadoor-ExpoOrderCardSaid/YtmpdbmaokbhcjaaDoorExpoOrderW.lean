/-
  THE WALK of the law ExpoOrder.
-/
import Derived.Test.YtmpdbmaokbhcjaaDoorUvx
set_option linter.unusedVariables false
set_option linter.unusedSimpArgs false
namespace Go.Proofs.YtmpdbmaokbhcjaaDoor
open Go.RowKit Nt Fm Fl

theorem ok2_z {a b : Int} (h : ok2 a b = true) : a = 0 ∧ b = 0 := by
  unfold ok2 at h; simp [and_assoc] at h; exact h
theorem ok3_z {a b c : Int} (h : ok3 a b c = true) : a = 0 ∧ b = 0 ∧ c = 0 := by
  unfold ok3 at h; simp [and_assoc] at h; exact h
theorem xpE_z {mode : Int} (h : xpE mode = 0) : knownB mode = true := by
  unfold xpE at h
  cases hk : knownB mode
  · rw [hk] at h; exact absurd h (by decide)
  · rfl
set_option maxRecDepth 100000 in
set_option maxHeartbeats 16000000 in
theorem walkExpoOrder (x : Int) (x0 : 0 ≤ x) (x1 : x ≤ 18446744073709551615) (y : Int) (y0 : 0 ≤ y) (y1 : y ≤ 18446744073709551615) (mode : Int) (m0 : -9223372036854775808 ≤ mode) (m1 : mode ≤ 9223372036854775807) (w : World) (hT : Tab w) :
    Calls Tryd.prog 5 #[.int .u64 x, .int .u64 y, .int .i64 mode] w fun e w' => e = .returned (.bool true) ∧ Below w.heap.size w w' := by
  obtain ⟨V_a0, C_a0, hV_a0, hC_a0⟩ : ∃ V C, V = xpV x mode ∧ C = xpC x mode := ⟨_, _, rfl, rfl⟩
  have U_a0 : 0 ≤ V_a0 ∧ V_a0 ≤ 18446744073709551615 := by rw [hV_a0]; exact xp_u x0 x1
  have HG_a0 := Lib.hid (fun w' ht => by
    have := xexp_any x mode w' ht x0 x1 m0 m1
    rw [← hV_a0, ← hC_a0] at this; exact this)
  obtain ⟨V_b0, C_b0, hV_b0, hC_b0⟩ : ∃ V C, V = xpV y mode ∧ C = xpC y mode := ⟨_, _, rfl, rfl⟩
  have U_b0 : 0 ≤ V_b0 ∧ V_b0 ≤ 18446744073709551615 := by rw [hV_b0]; exact xp_u y0 y1
  have HG_b0 := Lib.hid (fun w' ht => by
    have := xexp_any y mode w' ht y0 y1 m0 m1
    rw [← hV_b0, ← hC_b0] at this; exact this)
  obtain ⟨K_a0, J_a0, hK_a0, hJ_a0⟩ : ∃ K J, K = frank V_a0 ∧ J = frerr V_a0 := ⟨_, _, rfl, rfl⟩
  have HR_a0 := Lib.hid (fun w' => by
    have := rank_any V_a0 U_a0.1 U_a0.2 w'
    rw [← hK_a0, ← hJ_a0] at this; exact this)
  obtain ⟨K_b0, J_b0, hK_b0, hJ_b0⟩ : ∃ K J, K = frank V_b0 ∧ J = frerr V_b0 := ⟨_, _, rfl, rfl⟩
  have HR_b0 := Lib.hid (fun w' => by
    have := rank_any V_b0 U_b0.1 U_b0.2 w'
    rw [← hK_b0, ← hJ_b0] at this; exact this)
  obtain ⟨V_a1, C_a1, hV_a1, hC_a1⟩ : ∃ V C, V = x1V x mode ∧ C = xpC x mode := ⟨_, _, rfl, rfl⟩
  have U_a1 : 0 ≤ V_a1 ∧ V_a1 ≤ 18446744073709551615 := by rw [hV_a1]; exact x1_u x0 x1
  have HG_a1 := Lib.hid (fun w' ht => by
    have := xexpm1_any x mode w' ht x0 x1 m0 m1
    rw [← hV_a1, ← hC_a1] at this; exact this)
  obtain ⟨V_b1, C_b1, hV_b1, hC_b1⟩ : ∃ V C, V = x1V y mode ∧ C = xpC y mode := ⟨_, _, rfl, rfl⟩
  have U_b1 : 0 ≤ V_b1 ∧ V_b1 ≤ 18446744073709551615 := by rw [hV_b1]; exact x1_u y0 y1
  have HG_b1 := Lib.hid (fun w' ht => by
    have := xexpm1_any y mode w' ht y0 y1 m0 m1
    rw [← hV_b1, ← hC_b1] at this; exact this)
  obtain ⟨K_a1, J_a1, hK_a1, hJ_a1⟩ : ∃ K J, K = frank V_a1 ∧ J = frerr V_a1 := ⟨_, _, rfl, rfl⟩
  have HR_a1 := Lib.hid (fun w' => by
    have := rank_any V_a1 U_a1.1 U_a1.2 w'
    rw [← hK_a1, ← hJ_a1] at this; exact this)
  obtain ⟨K_b1, J_b1, hK_b1, hJ_b1⟩ : ∃ K J, K = frank V_b1 ∧ J = frerr V_b1 := ⟨_, _, rfl, rfl⟩
  have HR_b1 := Lib.hid (fun w' => by
    have := rank_any V_b1 U_b1.1 U_b1.2 w'
    rw [← hK_b1, ← hJ_b1] at this; exact this)
  obtain ⟨V_a2, C_a2, hV_a2, hC_a2⟩ : ∃ V C, V = lgV x mode ∧ C = lgC x mode := ⟨_, _, rfl, rfl⟩
  have U_a2 : 0 ≤ V_a2 ∧ V_a2 ≤ 18446744073709551615 := by rw [hV_a2]; exact lg_u x0 x1
  have HG_a2 := Lib.hid (fun w' ht => by
    have := xlog_any x mode w' ht x0 x1 m0 m1
    rw [← hV_a2, ← hC_a2] at this; exact this)
  obtain ⟨V_b2, C_b2, hV_b2, hC_b2⟩ : ∃ V C, V = lgV y mode ∧ C = lgC y mode := ⟨_, _, rfl, rfl⟩
  have U_b2 : 0 ≤ V_b2 ∧ V_b2 ≤ 18446744073709551615 := by rw [hV_b2]; exact lg_u y0 y1
  have HG_b2 := Lib.hid (fun w' ht => by
    have := xlog_any y mode w' ht y0 y1 m0 m1
    rw [← hV_b2, ← hC_b2] at this; exact this)
  obtain ⟨K_a2, J_a2, hK_a2, hJ_a2⟩ : ∃ K J, K = frank V_a2 ∧ J = frerr V_a2 := ⟨_, _, rfl, rfl⟩
  have HR_a2 := Lib.hid (fun w' => by
    have := rank_any V_a2 U_a2.1 U_a2.2 w'
    rw [← hK_a2, ← hJ_a2] at this; exact this)
  obtain ⟨K_b2, J_b2, hK_b2, hJ_b2⟩ : ∃ K J, K = frank V_b2 ∧ J = frerr V_b2 := ⟨_, _, rfl, rfl⟩
  have HR_b2 := Lib.hid (fun w' => by
    have := rank_any V_b2 U_b2.1 U_b2.2 w'
    rw [← hK_b2, ← hJ_b2] at this; exact this)
  obtain ⟨V_a3, C_a3, hV_a3, hC_a3⟩ : ∃ V C, V = lpV x mode ∧ C = lpC x mode := ⟨_, _, rfl, rfl⟩
  have U_a3 : 0 ≤ V_a3 ∧ V_a3 ≤ 18446744073709551615 := by rw [hV_a3]; exact lp_u x0 x1
  have HG_a3 := Lib.hid (fun w' ht => by
    have := xlog1p_any x mode w' ht x0 x1 m0 m1
    rw [← hV_a3, ← hC_a3] at this; exact this)
  obtain ⟨V_b3, C_b3, hV_b3, hC_b3⟩ : ∃ V C, V = lpV y mode ∧ C = lpC y mode := ⟨_, _, rfl, rfl⟩
  have U_b3 : 0 ≤ V_b3 ∧ V_b3 ≤ 18446744073709551615 := by rw [hV_b3]; exact lp_u y0 y1
  have HG_b3 := Lib.hid (fun w' ht => by
    have := xlog1p_any y mode w' ht y0 y1 m0 m1
    rw [← hV_b3, ← hC_b3] at this; exact this)
  obtain ⟨K_a3, J_a3, hK_a3, hJ_a3⟩ : ∃ K J, K = frank V_a3 ∧ J = frerr V_a3 := ⟨_, _, rfl, rfl⟩
  have HR_a3 := Lib.hid (fun w' => by
    have := rank_any V_a3 U_a3.1 U_a3.2 w'
    rw [← hK_a3, ← hJ_a3] at this; exact this)
  obtain ⟨K_b3, J_b3, hK_b3, hJ_b3⟩ : ∃ K J, K = frank V_b3 ∧ J = frerr V_b3 := ⟨_, _, rfl, rfl⟩
  have HR_b3 := Lib.hid (fun w' => by
    have := rank_any V_b3 U_b3.1 U_b3.2 w'
    rw [← hK_b3, ← hJ_b3] at this; exact this)
  obtain ⟨n, e, hn, he⟩ : ∃ n e, n = frank x ∧ e = frerr x := ⟨_, _, rfl, rfl⟩
  obtain ⟨m, f, hm, hf⟩ : ∃ m f, m = frank y ∧ f = frerr y := ⟨_, _, rfl, rfl⟩
  have RX := Lib.hid (fun w' => rank_any x x0 x1 w')
  have RY := Lib.hid (fun w' => rank_any y y0 y1 w')
  rw [← hn, ← he] at RX
  rw [← hm, ← hf] at RY
  have N0 : Hid (ok2 e f = true → n ≤ m → ok3 (xpE mode) J_a0 J_b0 = true → K_a0 ≤ K_b0) := Lib.hid (fun h1 h2 h3 => by
    obtain ⟨p1, p2⟩ := ok2_z h1
    obtain ⟨q1, q2, q3⟩ := ok3_z h3
    have := xp_order (xpE_z q1) x0 x1 y0 y1 (he.symm.trans p1) (hf.symm.trans p2) (by rw [← hn, ← hm]; exact h2)
    rw [hK_a0, hK_b0, hV_a0, hV_b0]; exact this)
  have N1 : Hid (ok2 e f = true → n ≤ m → ok3 (xpE mode) J_a1 J_b1 = true → K_a1 ≤ K_b1) := Lib.hid (fun h1 h2 h3 => by
    obtain ⟨p1, p2⟩ := ok2_z h1
    obtain ⟨q1, q2, q3⟩ := ok3_z h3
    have := x1_order (xpE_z q1) x0 x1 y0 y1 (he.symm.trans p1) (hf.symm.trans p2) (by rw [← hn, ← hm]; exact h2)
    rw [hK_a1, hK_b1, hV_a1, hV_b1]; exact this)
  have N2 : Hid (ok2 e f = true → n ≤ m → ok3 (xpE mode) J_a2 J_b2 = true → K_a2 ≤ K_b2) := Lib.hid (fun h1 h2 h3 => by
    obtain ⟨p1, p2⟩ := ok2_z h1
    obtain ⟨q1, q2, q3⟩ := ok3_z h3
    have := lg_order (xpE_z q1) x0 x1 y0 y1 (he.symm.trans p1) (hf.symm.trans p2) (by rw [← hn, ← hm]; exact h2) (hJ_a2.symm.trans q2 |> fun h => by rw [hV_a2] at h; exact h) (hJ_b2.symm.trans q3 |> fun h => by rw [hV_b2] at h; exact h)
    rw [hK_a2, hK_b2, hV_a2, hV_b2]; exact this)
  have N3 : Hid (ok2 e f = true → n ≤ m → ok3 (xpE mode) J_a3 J_b3 = true → K_a3 ≤ K_b3) := Lib.hid (fun h1 h2 h3 => by
    obtain ⟨p1, p2⟩ := ok2_z h1
    obtain ⟨q1, q2, q3⟩ := ok3_z h3
    have := lp_order (xpE_z q1) x0 x1 y0 y1 (he.symm.trans p1) (hf.symm.trans p2) (by rw [← hn, ← hm]; exact h2) (hJ_a3.symm.trans q2 |> fun h => by rw [hV_a3] at h; exact h) (hJ_b3.symm.trans q3 |> fun h => by rw [hV_b3] at h; exact h)
    rw [hK_a3, hK_b3, hV_a3, hV_b3]; exact this)
  generalize xpE mode = E at *
  clear hV_a0 hC_a0 hK_a0 hJ_a0 U_a0 hV_b0 hC_b0 hK_b0 hJ_b0 U_b0 hV_a1 hC_a1 hK_a1 hJ_a1 U_a1 hV_b1 hC_b1 hK_b1 hJ_b1 U_b1 hV_a2 hC_a2 hK_a2 hJ_a2 U_a2 hV_b2 hC_b2 hK_b2 hJ_b2 U_b2 hV_a3 hC_a3 hK_a3 hJ_a3 U_a3 hV_b3 hC_b3 hK_b3 hJ_b3 U_b3 hn he hm hf
  have hcase : (ok2 e f = false) ∨ (ok2 e f = true ∧ (m < n ∨ n ≤ m)) := by
    cases ok2 e f
    · exact Or.inl rfl
    · right; refine ⟨rfl, ?_⟩; omega
  have HT := Lib.hid hT
  clear hT
  have B : Hid (Below w.heap.size w w) := Lib.hid (Below.refl w.heap.size w)
  rcases hcase with h | ⟨h, h2 | h2⟩
  · clear N0 HG_a0 HG_b0 HR_a0 HR_b0 N1 HG_a1 HG_b1 HR_a1 HR_b1 N2 HG_a2 HG_b2 HR_a2 HR_b2 N3 HG_a3 HG_b3 HR_a3 HR_b3
    go_enter Tryd.func5, Tryd.ntmps5
    go_wp2_with (go_at_call 19; first | (with_reducible refine (RX.out _).mono ?_; rintro e w' ⟨rfl, rfl⟩) | (with_reducible refine (RY.out _).mono ?_; rintro e w' ⟨rfl, rfl⟩))
    refine (expoLives_any _ HT.out).mono ?_
    rintro r w1 ⟨rfl, hb⟩
    replace HT := Lib.hid (HT.out.below hb)
    replace B := Lib.hid (bl_thru B.out (Nat.le_refl _) hb)
    clear hb
    go_wp2_with (go_at_call 18; with_reducible refine (ok_new2 _ _  _ _ rfl).mono ?_; rintro e w' ⟨rfl, rfl⟩)
    refine (expoLives_any _ (HT.out.below (by go_grown))).mono ?_
    rintro r w2 ⟨rfl, hb⟩
    have hb' := bl_thru (show Below w1.heap.size w1 _ from by go_grown) (Nat.le_refl _) hb
    replace HT := Lib.hid (HT.out.below hb')
    replace B := Lib.hid (bl_thru B.out (Nat.le_refl _) hb')
    clear hb hb'
    go_wp2
    go_ret
    exact ⟨rfl, B.out⟩
  · clear N0 HG_a0 HG_b0 HR_a0 HR_b0 N1 HG_a1 HG_b1 HR_a1 HR_b1 N2 HG_a2 HG_b2 HR_a2 HR_b2 N3 HG_a3 HG_b3 HR_a3 HR_b3
    go_enter Tryd.func5, Tryd.ntmps5
    go_wp2_with (go_at_call 19; first | (with_reducible refine (RX.out _).mono ?_; rintro e w' ⟨rfl, rfl⟩) | (with_reducible refine (RY.out _).mono ?_; rintro e w' ⟨rfl, rfl⟩))
    refine (expoLives_any _ HT.out).mono ?_
    rintro r w1 ⟨rfl, hb⟩
    replace HT := Lib.hid (HT.out.below hb)
    replace B := Lib.hid (bl_thru B.out (Nat.le_refl _) hb)
    clear hb
    go_wp2_with (go_at_call 18; with_reducible refine (ok_new2 _ _  _ _ rfl).mono ?_; rintro e w' ⟨rfl, rfl⟩)
    refine (expoLives_any _ (HT.out.below (by go_grown))).mono ?_
    rintro r w2 ⟨rfl, hb⟩
    have hb' := bl_thru (show Below w1.heap.size w1 _ from by go_grown) (Nat.le_refl _) hb
    replace HT := Lib.hid (HT.out.below hb')
    replace B := Lib.hid (bl_thru B.out (Nat.le_refl _) hb')
    clear hb hb'
    go_wp2
    go_ret
    exact ⟨rfl, B.out⟩
  · have j0 : ∀ w : World, (Instr.index 35 xAll (.int .i64 0)).run Tryd.prog w = .ok (.func (.func 20) #[] #[]) w := fun _ => by kernel_rfl
    have j1 : ∀ w : World, (Instr.index 35 xAll (.int .i64 1)).run Tryd.prog w = .ok (.func (.func 22) #[] #[]) w := fun _ => by kernel_rfl
    have j2 : ∀ w : World, (Instr.index 35 xAll (.int .i64 2)).run Tryd.prog w = .ok (.func (.func 21) #[] #[]) w := fun _ => by kernel_rfl
    have j3 : ∀ w : World, (Instr.index 35 xAll (.int .i64 3)).run Tryd.prog w = .ok (.func (.func 23) #[] #[]) w := fun _ => by kernel_rfl
    have M0 := Lib.hid (N0.out h h2)
    clear N0
    have M1 := Lib.hid (N1.out h h2)
    clear N1
    have M2 := Lib.hid (N2.out h h2)
    clear N2
    have M3 := Lib.hid (N3.out h h2)
    clear N3
    go_enter Tryd.func5, Tryd.ntmps5
    go_wp2_with (go_at_call 19; first | (with_reducible refine (RX.out _).mono ?_; rintro e w' ⟨rfl, rfl⟩) | (with_reducible refine (RY.out _).mono ?_; rintro e w' ⟨rfl, rfl⟩))
    refine (expoLives_any _ HT.out).mono ?_
    rintro r w1 ⟨rfl, hb⟩
    replace HT := Lib.hid (HT.out.below hb)
    replace B := Lib.hid (bl_thru B.out (Nat.le_refl _) hb)
    clear hb
    go_wp2_with (go_at_call 18; with_reducible refine (ok_new2 _ _  _ _ rfl).mono ?_; rintro e w' ⟨rfl, rfl⟩)
    refine (expoAll_any _).mono ?_
    rintro r w2 ⟨rfl, hb⟩
    have hb' := bl_thru (show Below w1.heap.size w1 _ from by go_grown) (Nat.le_refl _) hb
    replace HT := Lib.hid (HT.out.below hb')
    replace B := Lib.hid (bl_thru B.out (Nat.le_refl _) hb')
    clear hb hb'
    go_wp2
    go_loopw [49] (fun i wr => ∃ k : Nat, k ≤ 4 ∧ i = .int .i64 k ∧ Hid (Tab wr) ∧ Hid (Below w.heap.size w wr)) (fun i _ => 4 - (intOf i).toNat)
    case atStart => exact ⟨0, by omega, rfl, Lib.hid HT.out, Lib.hid B.out⟩
    case round =>
      clear HT B
      obtain ⟨k, hk, rfl, HT, B⟩ := hrel
      have hk4 : k = 0 ∨ k = 1 ∨ k = 2 ∨ k = 3 ∨ k = 4 := by omega
      rcases hk4 with rfl | rfl | rfl | rfl | rfl
      · cases k3 : ok3 E J_a0 J_b0
        · go_wp2_with fail
          refine (HG_a0.out _ HT.out).mono ?_
          rintro r w11 ⟨rfl, hb⟩
          replace HT := Lib.hid (HT.out.below hb)
          replace B := Lib.hid (bl_thru B.out (Nat.le_refl _) hb)
          clear hb
          go_wp2_with fail
          refine (HG_b0.out _ HT.out).mono ?_
          rintro r w12 ⟨rfl, hb⟩
          replace HT := Lib.hid (HT.out.below hb)
          replace B := Lib.hid (bl_thru B.out (Nat.le_refl _) hb)
          clear hb
          go_wp2_with (first
            | (go_at_call 19; first | (with_reducible refine (HR_a0.out _).mono ?_; rintro e w' ⟨rfl, rfl⟩) | (with_reducible refine (HR_b0.out _).mono ?_; rintro e w' ⟨rfl, rfl⟩))
            | (go_at_call 18; with_reducible refine (ok_new3 _ _ _  _ _ rfl).mono ?_; rintro e w' ⟨rfl, rfl⟩))
          go_roundw
          case rel => exact ⟨1, by omega, by go_num, Lib.hid (HT.out.below (by go_grown)), Lib.hid (by have := B.out; have := B.out.size; go_grown)⟩
          case measure => simp [intOf]
        · have hle := M0.out k3
          go_wp2_with fail
          refine (HG_a0.out _ HT.out).mono ?_
          rintro r w11 ⟨rfl, hb⟩
          replace HT := Lib.hid (HT.out.below hb)
          replace B := Lib.hid (bl_thru B.out (Nat.le_refl _) hb)
          clear hb
          go_wp2_with fail
          refine (HG_b0.out _ HT.out).mono ?_
          rintro r w12 ⟨rfl, hb⟩
          replace HT := Lib.hid (HT.out.below hb)
          replace B := Lib.hid (bl_thru B.out (Nat.le_refl _) hb)
          clear hb
          go_wp2_with (first
            | (go_at_call 19; first | (with_reducible refine (HR_a0.out _).mono ?_; rintro e w' ⟨rfl, rfl⟩) | (with_reducible refine (HR_b0.out _).mono ?_; rintro e w' ⟨rfl, rfl⟩))
            | (go_at_call 18; with_reducible refine (ok_new3 _ _ _  _ _ rfl).mono ?_; rintro e w' ⟨rfl, rfl⟩))
          go_roundw
          case rel => exact ⟨1, by omega, by go_num, Lib.hid (HT.out.below (by go_grown)), Lib.hid (by have := B.out; have := B.out.size; go_grown)⟩
          case measure => simp [intOf]
      · cases k3 : ok3 E J_a1 J_b1
        · go_wp2_with fail
          refine (HG_a1.out _ HT.out).mono ?_
          rintro r w11 ⟨rfl, hb⟩
          replace HT := Lib.hid (HT.out.below hb)
          replace B := Lib.hid (bl_thru B.out (Nat.le_refl _) hb)
          clear hb
          go_wp2_with fail
          refine (HG_b1.out _ HT.out).mono ?_
          rintro r w12 ⟨rfl, hb⟩
          replace HT := Lib.hid (HT.out.below hb)
          replace B := Lib.hid (bl_thru B.out (Nat.le_refl _) hb)
          clear hb
          go_wp2_with (first
            | (go_at_call 19; first | (with_reducible refine (HR_a1.out _).mono ?_; rintro e w' ⟨rfl, rfl⟩) | (with_reducible refine (HR_b1.out _).mono ?_; rintro e w' ⟨rfl, rfl⟩))
            | (go_at_call 18; with_reducible refine (ok_new3 _ _ _  _ _ rfl).mono ?_; rintro e w' ⟨rfl, rfl⟩))
          go_roundw
          case rel => exact ⟨2, by omega, by go_num, Lib.hid (HT.out.below (by go_grown)), Lib.hid (by have := B.out; have := B.out.size; go_grown)⟩
          case measure => simp [intOf]
        · have hle := M1.out k3
          go_wp2_with fail
          refine (HG_a1.out _ HT.out).mono ?_
          rintro r w11 ⟨rfl, hb⟩
          replace HT := Lib.hid (HT.out.below hb)
          replace B := Lib.hid (bl_thru B.out (Nat.le_refl _) hb)
          clear hb
          go_wp2_with fail
          refine (HG_b1.out _ HT.out).mono ?_
          rintro r w12 ⟨rfl, hb⟩
          replace HT := Lib.hid (HT.out.below hb)
          replace B := Lib.hid (bl_thru B.out (Nat.le_refl _) hb)
          clear hb
          go_wp2_with (first
            | (go_at_call 19; first | (with_reducible refine (HR_a1.out _).mono ?_; rintro e w' ⟨rfl, rfl⟩) | (with_reducible refine (HR_b1.out _).mono ?_; rintro e w' ⟨rfl, rfl⟩))
            | (go_at_call 18; with_reducible refine (ok_new3 _ _ _  _ _ rfl).mono ?_; rintro e w' ⟨rfl, rfl⟩))
          go_roundw
          case rel => exact ⟨2, by omega, by go_num, Lib.hid (HT.out.below (by go_grown)), Lib.hid (by have := B.out; have := B.out.size; go_grown)⟩
          case measure => simp [intOf]
      · cases k3 : ok3 E J_a2 J_b2
        · go_wp2_with fail
          refine (HG_a2.out _ HT.out).mono ?_
          rintro r w11 ⟨rfl, hb⟩
          replace HT := Lib.hid (HT.out.below hb)
          replace B := Lib.hid (bl_thru B.out (Nat.le_refl _) hb)
          clear hb
          go_wp2_with fail
          refine (HG_b2.out _ HT.out).mono ?_
          rintro r w12 ⟨rfl, hb⟩
          replace HT := Lib.hid (HT.out.below hb)
          replace B := Lib.hid (bl_thru B.out (Nat.le_refl _) hb)
          clear hb
          go_wp2_with (first
            | (go_at_call 19; first | (with_reducible refine (HR_a2.out _).mono ?_; rintro e w' ⟨rfl, rfl⟩) | (with_reducible refine (HR_b2.out _).mono ?_; rintro e w' ⟨rfl, rfl⟩))
            | (go_at_call 18; with_reducible refine (ok_new3 _ _ _  _ _ rfl).mono ?_; rintro e w' ⟨rfl, rfl⟩))
          go_roundw
          case rel => exact ⟨3, by omega, by go_num, Lib.hid (HT.out.below (by go_grown)), Lib.hid (by have := B.out; have := B.out.size; go_grown)⟩
          case measure => simp [intOf]
        · have hle := M2.out k3
          go_wp2_with fail
          refine (HG_a2.out _ HT.out).mono ?_
          rintro r w11 ⟨rfl, hb⟩
          replace HT := Lib.hid (HT.out.below hb)
          replace B := Lib.hid (bl_thru B.out (Nat.le_refl _) hb)
          clear hb
          go_wp2_with fail
          refine (HG_b2.out _ HT.out).mono ?_
          rintro r w12 ⟨rfl, hb⟩
          replace HT := Lib.hid (HT.out.below hb)
          replace B := Lib.hid (bl_thru B.out (Nat.le_refl _) hb)
          clear hb
          go_wp2_with (first
            | (go_at_call 19; first | (with_reducible refine (HR_a2.out _).mono ?_; rintro e w' ⟨rfl, rfl⟩) | (with_reducible refine (HR_b2.out _).mono ?_; rintro e w' ⟨rfl, rfl⟩))
            | (go_at_call 18; with_reducible refine (ok_new3 _ _ _  _ _ rfl).mono ?_; rintro e w' ⟨rfl, rfl⟩))
          go_roundw
          case rel => exact ⟨3, by omega, by go_num, Lib.hid (HT.out.below (by go_grown)), Lib.hid (by have := B.out; have := B.out.size; go_grown)⟩
          case measure => simp [intOf]
      · cases k3 : ok3 E J_a3 J_b3
        · go_wp2_with fail
          refine (HG_a3.out _ HT.out).mono ?_
          rintro r w11 ⟨rfl, hb⟩
          replace HT := Lib.hid (HT.out.below hb)
          replace B := Lib.hid (bl_thru B.out (Nat.le_refl _) hb)
          clear hb
          go_wp2_with fail
          refine (HG_b3.out _ HT.out).mono ?_
          rintro r w12 ⟨rfl, hb⟩
          replace HT := Lib.hid (HT.out.below hb)
          replace B := Lib.hid (bl_thru B.out (Nat.le_refl _) hb)
          clear hb
          go_wp2_with (first
            | (go_at_call 19; first | (with_reducible refine (HR_a3.out _).mono ?_; rintro e w' ⟨rfl, rfl⟩) | (with_reducible refine (HR_b3.out _).mono ?_; rintro e w' ⟨rfl, rfl⟩))
            | (go_at_call 18; with_reducible refine (ok_new3 _ _ _  _ _ rfl).mono ?_; rintro e w' ⟨rfl, rfl⟩))
          go_roundw
          case rel => exact ⟨4, by omega, by go_num, Lib.hid (HT.out.below (by go_grown)), Lib.hid (by have := B.out; have := B.out.size; go_grown)⟩
          case measure => simp [intOf]
        · have hle := M3.out k3
          go_wp2_with fail
          refine (HG_a3.out _ HT.out).mono ?_
          rintro r w11 ⟨rfl, hb⟩
          replace HT := Lib.hid (HT.out.below hb)
          replace B := Lib.hid (bl_thru B.out (Nat.le_refl _) hb)
          clear hb
          go_wp2_with fail
          refine (HG_b3.out _ HT.out).mono ?_
          rintro r w12 ⟨rfl, hb⟩
          replace HT := Lib.hid (HT.out.below hb)
          replace B := Lib.hid (bl_thru B.out (Nat.le_refl _) hb)
          clear hb
          go_wp2_with (first
            | (go_at_call 19; first | (with_reducible refine (HR_a3.out _).mono ?_; rintro e w' ⟨rfl, rfl⟩) | (with_reducible refine (HR_b3.out _).mono ?_; rintro e w' ⟨rfl, rfl⟩))
            | (go_at_call 18; with_reducible refine (ok_new3 _ _ _  _ _ rfl).mono ?_; rintro e w' ⟨rfl, rfl⟩))
          go_roundw
          case rel => exact ⟨4, by omega, by go_num, Lib.hid (HT.out.below (by go_grown)), Lib.hid (by have := B.out; have := B.out.size; go_grown)⟩
          case measure => simp [intOf]
      · clear j0 j1 j2 j3
        go_wp2
        go_ret
        exact ⟨rfl, B.out⟩
end Go.Proofs.YtmpdbmaokbhcjaaDoor
