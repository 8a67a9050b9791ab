/-
  THE WALK of the law CoinExp.
-/
import Derived.Test.YtmpdbmaokbhcjaaDoorKj
set_option linter.unusedVariables false
set_option linter.unusedSimpArgs false
namespace Go.Proofs.YtmpdbmaokbhcjaaDoor
open Go.RowKit Nt Fm Kn
open Ea (IsFl)

theorem pow2_of {b : Int} (h1 : 1 ≤ b) (h2 : b ≤ 64) (h : bits BinOp.and IntKind.i64 b (b - 1) = 0) : ∃ J : Nat, J ≤ 6 ∧ b = ((2 ^ J : Nat) : Int) := by
  have : ∀ b : Fin 65, 1 ≤ b.val → bits BinOp.and IntKind.i64 (b.val : Int) ((b.val : Int) - 1) = 0 → ∃ J : Fin 7, b.val = 2 ^ J.val := by decide +kernel
  obtain ⟨J, hJ⟩ := this ⟨b.toNat, by omega⟩ (by show 1 ≤ b.toNat; omega) (by show bits BinOp.and IntKind.i64 ((b.toNat : Nat) : Int) (((b.toNat : Nat) : Int) - 1) = 0; rw [show ((b.toNat : Nat) : Int) = b by omega]; exact h)
  refine ⟨J.val, by omega, ?_⟩
  have : b.toNat = 2 ^ J.val := hJ
  omega
theorem exp40 (v : Value) (d : D) (w : World) (hT : Tab w) (h : RD w v 0 d) (hE : sexE 0 d 40 = 0) :
    Calls Tryd.prog 27 #[v, .int .i64 40] w fun r w' => ∃ q, Hid (IsFl (rv d) q 40) ∧ RetR w 0 (ofInt q (-40)) r w' := by
  refine (sexpT v 0 40 d w hT h (by decide) (by decide)).mono ?_
  rintro r w' ⟨h1, ht⟩
  obtain ⟨-, -, q, hq, -, eR⟩ := ht.1 hE
  rw [hE, eR] at h1
  exact ⟨q, Lib.hid hq, h1⟩
theorem ok5_zero : ok5 0 0 0 0 0 = true := by decide
set_option maxRecDepth 100000 in
set_option maxHeartbeats 16000000 in
theorem walkCoinExp (a : Int) (a0 : -9223372036854775808 ≤ a) (a1 : a ≤ 9223372036854775807) (b : Int) (b0 : -9223372036854775808 ≤ b) (b1 : b ≤ 9223372036854775807) (k : Int) (k0 : -9223372036854775808 ≤ k) (k1 : k ≤ 9223372036854775807) (w : World) (hT : Tab w) :
    Calls Tryd.prog 9 #[.int .i64 a, .int .i64 b, .int .i64 k] w fun e w' => e = .returned (.bool true) ∧ Below w.heap.size w w' := by
  have LV := Lib.hid (fun w' => coinLives_any w')
  have HT := Lib.hid hT
  clear hT
  obtain ⟨z, hz⟩ : ∃ z, z = bits BinOp.and IntKind.i64 b (b - 1) := ⟨_, rfl⟩
  have hcase : b < 1 ∨ (1 ≤ b ∧ (64 < b ∨ (b ≤ 64 ∧ (z ≠ 0 ∨ (z = 0 ∧ (a < 0 ∨ (0 ≤ a ∧ (3 * b < a ∨ (a ≤ 3 * b ∧ (k < 0 ∨ (0 ≤ k ∧ (10 < k ∨ k ≤ 10)))))))))))) := by omega
  rcases hcase with h1 | ⟨h1, h2 | ⟨h2, h3 | ⟨h3, h4 | ⟨h4, h5 | ⟨h5, h6 | ⟨h6, h7 | h7⟩⟩⟩⟩⟩⟩
  iterate 7
    · first
        | have hz2 : bits BinOp.and IntKind.i64 b (b - 1) ≠ 0 := by rw [← hz]; exact h3
        | have hz2 : bits BinOp.and IntKind.i64 b (b - 1) = 0 := by rw [← hz]; exact h3
        | skip
      clear hz
      go_enter Tryd.func9, Tryd.ntmps9
      go_wp2_with fail
      refine (LV.out _).mono ?_
      rintro r w1 ⟨rfl, hb⟩
      have B1 := Lib.hid hb
      clear hb
      go_wp2_with fail
      refine (LV.out _).mono ?_
      rintro r w2 ⟨rfl, hb⟩
      have B2 := Lib.hid (bl_thru' B1.out B1.out.size hb)
      clear hb
      go_wp2
      go_ret
      exact ⟨rfl, B2.out⟩
  · subst h3
    obtain ⟨J, hJ, hbJ⟩ := pow2_of h1 h2 hz.symm
    have hz2 : bits BinOp.and IntKind.i64 b (b - 1) = 0 := hz.symm
    obtain ⟨A, rfl⟩ := Int.eq_ofNat_of_zero_le h4
    obtain ⟨K, rfl⟩ := Int.eq_ofNat_of_zero_le h6
    have hK : K ≤ 10 := by omega
    obtain ⟨C, hC⟩ : ∃ C : Nat, C = 2 ^ J := ⟨_, rfl⟩
    obtain rfl : b = (C : Int) := by rw [hC]; exact hbJ
    have hA : A ≤ 3 * 2 ^ J := by rw [← hC]; omega
    have hA3 : A ≤ 192 := by omega
    have hp : 2 ^ K ≤ 1024 := Nat.pow_le_pow_right (show 0 < 2 by decide) hK
    have WY := Lib.hid (fun t ht => expT_ways A C K t (by omega) (by omega) (by omega) hK ht)
    have TP := Lib.hid (fun t ht w' => tapeOf_any t K hK ht w')
    have BE := Lib.hid (fun s w' => exp_any2 A C s 0 w' h1 (by omega))
    obtain ⟨HY, hHY⟩ : ∃ f, f = hitE A C K true := ⟨_, rfl⟩
    obtain ⟨HO, hHO⟩ : ∃ f, f = hitO A C K := ⟨_, rfl⟩
    obtain ⟨P, hP⟩ : ∃ P, P = 2 ^ K := ⟨_, rfl⟩
    rw [← hP] at hp
    have HP := Lib.hid hP
    have WY2 : Hid (∀ t, t < P → (∃ x, (expT A C (tpS t K) 0).2.2 = 0 ∧ (expT A C (tpS t K) 0).2.1 ≤ K ∧ (expT A C (tpS t K) 0).1 = x ∧ HY t = x ∧ HO t = false) ∨
        (((expT A C (tpS t K) 0).2.2 = 4 ∨ ((expT A C (tpS t K) 0).2.2 = 0 ∧ (K : Int) < (expT A C (tpS t K) 0).2.1)) ∧ HY t = false ∧ HO t = true)) := Lib.hid (by
      intro t ht
      rw [hHY, hHO]
      rcases WY.out t (by rw [← HP.out]; exact ht) with ⟨x, e1, e2, e3, e4, e5⟩ | ⟨e1, e2, e3⟩
      · exact Or.inl ⟨x, e1, e2, e3, by rw [e4]; cases x <;> rfl, e5⟩
      · exact Or.inr ⟨e1, e2 true, e3⟩)
    have YB : Hid (∀ t, t ≤ P → cntR t HY + cntR t HO ≤ t) := Lib.hid (fun t ht => by
      have := hit_all A C K t
      rw [hHY, hHO]; omega)
    have LAW : Hid (∀ q, IsFl (rv (norm true A (-(J : Int)))) q 40 → Fit (ofInt q (-40)) ∧ Fit (ofInt q (-40 + K)) ∧ Fit (plus (ofInt q (-40 + K)) ⟨false, 1, (K : Int) - 40⟩) ∧ Fit (⟨false, 1, (K : Int) - 40⟩ : D) ∧
        cmp (norm false (cntR P HY) 0) (plus (ofInt q (-40 + K)) ⟨false, 1, (K : Int) - 40⟩) ≤ 0 ∧ cmp (ofInt q (-40 + K)) (norm false (cntR P HY + cntR P HO) 0) ≤ 0) := Lib.hid (fun q hq =>
      coin_law hJ hA hK (by rw [hHY, HP.out, hC]) (by rw [hHO, HP.out, hC]) hq)
    have SX := Lib.hid (sex_small hJ hA)
    have hw : wrap64 ((2 : Int) ^ K) = (P : Int) := by
      have : (2 : Int) ^ K = (P : Int) := by rw [HP.out]; push_cast; rfl
      rw [this, IntWalk.wrap64_in _ (by omega)]
    have PW : Hid (∀ j : Nat, j ≤ J → ∃ m : Int, wrap64 ((2 : Int) ^ j) = m ∧ (j < J → m < (C : Int)) ∧ (j = J → ¬ m < (C : Int))) := Lib.hid (fun j hj => by
      have e : (2 : Int) ^ j = ((2 ^ j : Nat) : Int) := by push_cast; rfl
      have h8 : 2 ^ j ≤ 2 ^ 6 := Nat.pow_le_pow_right (n := 2) (by decide) (by omega)
      have h9 : j < J → 2 ^ j < C := fun hlt => by rw [hC]; exact Nat.pow_lt_pow_right (by decide) hlt
      have h10 : j = J → 2 ^ j = C := fun h => by rw [hC, h]
      rw [e]
      generalize 2 ^ j = m at *
      have h8' : m ≤ 64 := h8
      exact ⟨_, rfl, fun hlt => by have := h9 hlt; rw [IntWalk.wrap64_in _ (by omega)]; omega, fun he => by have := h10 he; rw [IntWalk.wrap64_in _ (by omega)]; omega⟩)
    clear hz hbJ hHY hHO hP WY hA hC
    go_enter Tryd.func9, Tryd.ntmps9
    go_wp2_with fail
    refine (LV.out _).mono ?_
    rintro r w1 ⟨rfl, hb⟩
    have B := Lib.hid hb
    clear hb
    go_wp2
    rw [hw]
    clear hw
    go_loopw [7, 8, 64] (fun yv ov iv wr => ∃ t : Nat, t ≤ P ∧ yv = .int .i64 (cntR t HY : Nat) ∧ ov = .int .i64 (cntR t HO : Nat) ∧ iv = .int .i64 t ∧ Hid (Below w.heap.size w wr)) (fun _ _ iv _ => P - (intOf iv).toNat)
    case atStart => exact ⟨0, by omega, rfl, rfl, rfl, B⟩
    case round =>
      clear B
      obtain ⟨t, ht, rfl, rfl, rfl, B⟩ := hrel
      have hyb := YB.out t ht
      have hs1 := cntR_succ t HY
      have hs2 := cntR_succ t HO
      by_cases hlt : t < P
      · have hlt2 : (t : Int) < (P : Int) := by omega
        have htp : t < 2 ^ K := by rw [← HP.out]; exact hlt
        have W2 := Lib.hid (WY2.out t hlt)
        have T2 := Lib.hid (TP.out t htp)
        have BE2 := Lib.hid (BE.out (tpS t K))
        clear htp LAW SX PW
        generalize expT (A : Int) (C : Int) (tpS t K) 0 = R at *
        obtain ⟨v, at', e⟩ := R
        simp only at W2 BE2
        have hcs : (v = true ∧ e = 0 ∧ at' ≤ (K : Int) ∧ HY t = true ∧ HO t = false) ∨ (v = false ∧ e = 0 ∧ at' ≤ (K : Int) ∧ HY t = false ∧ HO t = false) ∨ (e = 4 ∧ HY t = false ∧ HO t = true) ∨ (e = 0 ∧ (K : Int) < at' ∧ HY t = false ∧ HO t = true) := by
          rcases W2.out with ⟨x, e1, e2, e3, e4, e5⟩ | ⟨e1 | ⟨e1, e2⟩, e3, e4⟩
          · cases x
            · exact Or.inr (Or.inl ⟨e3, e1, e2, e4, e5⟩)
            · exact Or.inl ⟨e3, e1, e2, e4, e5⟩
          · exact Or.inr (Or.inr (Or.inl ⟨e1, e3, e4⟩))
          · exact Or.inr (Or.inr (Or.inr ⟨e1, e2, e3, e4⟩))
        clear W2
        rcases hcs with ⟨rfl, rfl, hat, g1, g2⟩ | ⟨rfl, rfl, hat, g1, g2⟩ | ⟨rfl, g1, g2⟩ | ⟨rfl, hat, g1, g2⟩
        all_goals
          rw [g1] at hs1
          rw [g2] at hs2
          simp only [if_true, Bool.false_eq_true, if_false, Nat.add_zero] at hs1 hs2
          clear g1 g2
          generalize cntR t HY = y at *
          generalize cntR t HO = o at *
          have HS1 := Lib.hid hs1
          have HS2 := Lib.hid hs2
          clear hs1 hs2
          go_wp2_with fail
          refine (T2.out _).mono ?_
          rintro r w3 ⟨rfl, hb⟩
          have B3 := Lib.hid (bl_thru' B.out B.out.size hb)
          clear hb
          go_wp2_with fail
          refine (BE2.out _).mono ?_
          rintro r w4 ⟨rfl, hb⟩
          have B4 := Lib.hid (bl_thru' B3.out B3.out.size hb)
          clear hb
          go_wp2
          go_roundw
          case rel => exact ⟨t + 1, by omega, by first | (rw [HS1.out]; done) | (rw [HS1.out]; go_num), by first | (rw [HS2.out]; done) | (rw [HS2.out]; go_num), by go_num, B4⟩
          case measure => simp [intOf]; omega
      · have htP : t = P := by omega
        subst htP
        clear hs1 hs2 WY2 TP BE YB
        generalize hY : cntR t HY = Y at *
        generalize hO : cntR t HO = O at *
        clear hY hO
        go_wp2
        go_loopw [13] (fun jv wr => ∃ j : Nat, j ≤ J ∧ jv = .int .i64 j ∧ Hid (Below w.heap.size w wr)) (fun jv _ => J - (intOf jv).toNat)
        case atStart => exact ⟨0, by omega, rfl, B⟩
        case round =>
          clear B
          obtain ⟨j, hj, rfl, B⟩ := hrel
          obtain ⟨m, hm, hm1, hm2⟩ := PW.out j hj
          by_cases hlj : j < J
          · have hm3 := hm1 hlj
            rw [← hm] at hm3
            clear hm hm1 hm2 LAW SX PW
            go_wp2
            go_roundw
            case rel => exact ⟨j + 1, by omega, by go_num, B⟩
            case measure => simp [intOf]; omega
          · obtain rfl : j = J := by omega
            have hm3 := hm2 rfl
            rw [← hm] at hm3
            clear hm hm1 hm2 PW
            by_cases hA0 : A = 0
            · subst hA0
              have ez : norm true 0 (-(j : Int)) = nz := rfl
              rw [ez] at LAW SX
              have X_d := Lib.hid (Box.new wr (.bool false) (.slice none 0 0) (.int .i64 0) 24)
              obtain ⟨c0, c1, c2, -⟩ := X_d.out.cells
              go_wp2_with fail
              refine (exp40 _ nz _ (HT.out.below (by have := B.out; have := B.out.size; go_grown)) (RD.zero _) SX.out).mono ?_
              rintro r w10 ⟨q, hq, a_p, n_p, k_p, rfl, hv, hb⟩
              have S : Below wr.heap.size wr w10 := bl_thru (by go_grown) (Nat.le_refl _) hb
              replace B := Lib.hid (bl_thru B.out (Nat.le_refl _) S)
              clear S hb c0 c1 c2 X_d
              obtain ⟨F1, F2, F3, F4, F5, F6⟩ := LAW.out q hq.out
              obtain ⟨D_p, hDp⟩ : ∃ D, D = ofInt q (-40) := ⟨_, rfl⟩
              obtain ⟨D_all, hDall⟩ : ∃ D, D = ofInt q (-40 + K) := ⟨_, rfl⟩
              obtain ⟨D_least, hDleast⟩ : ∃ D, D = norm false Y 0 := ⟨_, rfl⟩
              obtain ⟨D_most, hDmost⟩ : ∃ D, D = norm false (Y + O) 0 := ⟨_, rfl⟩
              have HC_all := Lib.hid (fun v w' ht hr => shift_small v q (-40) K w' ht hr (by omega) (by omega) F2)
              have HC_least := Lib.hid (fun v w' ht hv => make_small false v Y 0 w' ht hv (by omega) (by omega) (by omega))
              have HC_most := Lib.hid (fun v w' ht hv => make_small false v (Y + O) 0 w' ht hv (by omega) (by omega) (by omega))
              have F_least := Lib.hid (norm_small false (n := Y) (x := 0) (by omega) (by omega) (by omega))
              have F_most := Lib.hid (norm_small false (n := Y + O) (x := 0) (by omega) (by omega) (by omega))
              have LM1 := Lib.hid (fun w' => limbOf_any Y (by omega) w')
              have LM2 := Lib.hid (fun w' => limbOf_any (Y + O) (by omega) w')
              rw [show ((Y + O : Nat) : Int) = (Y : Int) + (O : Int) from by push_cast; rfl] at LM2
              rw [← hDall] at F2 F3 F5 F6 HC_all
              rw [← hDp] at F1 HC_all hv ⊢
              rw [← hDleast] at F5 HC_least F_least
              rw [← hDmost] at F6 HC_most F_most
              obtain ⟨D_above, hDabove⟩ : ∃ D, D = plus D_all ⟨false, 1, (K : Int) - 40⟩ := ⟨_, rfl⟩
              have HC_above := Lib.hid (fun v1 v2 w' h0 h1 h2 => add_fit F3 v1 v2 w' h0 h1 h2)
              have N1 := Lib.hid (fun v1 v2 w' h0 h1 h2 => nm_true F5 v1 v2 w' h0 h1 h2)
              have N2 := Lib.hid (fun v1 v2 w' h0 h1 h2 => nm_true F6 v1 v2 w' h0 h1 h2)
              rw [← hDabove] at HC_above N1 F3
              have F_p := Lib.hid F1
              have F_all := Lib.hid F2
              have F_above := Lib.hid F3
              have FL := Lib.hid F4
              have R_p := Lib.hid (rd_of (d := D_p) hv F_p.out)
              have k5 := ok5_zero
              clear F1 F2 F3 F4 F5 F6 LAW SX hq hv hDp hDall hDleast hDmost hDabove
              go_wp2_with fail
              refine (HC_all.out _ _ (HT.out.below (by have := B.out; have := B.out.size; go_grown)) (R_p.out.below (by go_grown))).mono ?_
              rintro r w11 ⟨a_all, n_all, k_all, rfl, hv, hb⟩
              have S : Below w10.heap.size w10 w11 := bl_thru (by go_grown) (Nat.le_refl _) hb
              replace B := Lib.hid (bl_thru B.out (Nat.le_refl _) S)
              clear R_p
              have R_all := Lib.hid (rd_of (d := D_all) hv F_all.out)
              clear hb S hv
              go_wp2_with fail
              refine (LM1.out _).mono ?_
              rintro r w12 ⟨v_y, rfl, hl, hb⟩
              have S : Below w11.heap.size w11 w12 := bl_thru (by go_grown) (Nat.le_refl _) hb
              replace B := Lib.hid (bl_thru B.out (Nat.le_refl _) S)
              have X_all := Lib.hid ((Box.new w11 _ _ _ _).below hb)
              replace R_all := Lib.hid (R_all.out.below S)
              clear hb S
              go_wp2_with fail
              refine (HC_least.out _ _ (HT.out.below B.out) hl).mono ?_
              rintro r w13 ⟨a_least, n_least, k_least, rfl, hv, hb⟩
              have S : Below w12.heap.size w12 w13 := hb
              replace B := Lib.hid (bl_thru B.out (Nat.le_refl _) S)
              replace X_all := Lib.hid (X_all.out.below S)
              replace R_all := Lib.hid (R_all.out.below S)
              have R_least := Lib.hid (rd_of (d := D_least) hv F_least.out)
              clear hb S hv
              clear hl
              go_wp2_with fail
              refine (LM2.out _).mono ?_
              rintro r w14 ⟨v_o, rfl, hl, hb⟩
              have S : Below w13.heap.size w13 w14 := bl_thru (by go_grown) (Nat.le_refl _) hb
              replace B := Lib.hid (bl_thru B.out (Nat.le_refl _) S)
              replace X_all := Lib.hid (X_all.out.below S)
              have X_least := Lib.hid ((Box.new w13 _ _ _ _).below hb)
              replace R_all := Lib.hid (R_all.out.below S)
              replace R_least := Lib.hid (R_least.out.below S)
              clear hb S
              go_wp2_with fail
              refine (HC_most.out _ _ (HT.out.below B.out) hl).mono ?_
              rintro r w15 ⟨a_most, n_most, k_most, rfl, hv, hb⟩
              have S : Below w14.heap.size w14 w15 := hb
              replace B := Lib.hid (bl_thru B.out (Nat.le_refl _) S)
              replace X_all := Lib.hid (X_all.out.below S)
              replace X_least := Lib.hid (X_least.out.below S)
              replace R_all := Lib.hid (R_all.out.below S)
              replace R_least := Lib.hid (R_least.out.below S)
              have R_most := Lib.hid (rd_of (d := D_most) hv F_most.out)
              clear hb S hv
              clear hl
              obtain ⟨c0_all, c1_all, c2_all, d0_all, d1_all, d2_all⟩ := X_all.out.cells
              have l_all := X_all.out.lt
              go_wp2_with fail
              refine (HC_above.out _ _ _ (HT.out.below (by have := B.out; have := B.out.size; go_grown)) (R_all.out.below (by go_grown)) (rd_of (d := ⟨false, 1, (K : Int) - 40⟩) (nv_uno _ _ 1 _ (by simp) (by decide) (by decide)) FL.out)).mono ?_
              rintro r w16 ⟨a_above, n_above, k_above, rfl, hv, hb⟩
              have S : Below w15.heap.size w15 w16 := bl_thru (by go_grown) (Nat.le_refl _) hb
              replace B := Lib.hid (bl_thru B.out (Nat.le_refl _) S)
              replace X_all := Lib.hid (X_all.out.below S)
              replace X_least := Lib.hid (X_least.out.below S)
              have X_most := Lib.hid (((Box.new w15 _ _ _ _).alloc _).below hb)
              replace R_all := Lib.hid (R_all.out.below S)
              replace R_least := Lib.hid (R_least.out.below S)
              replace R_most := Lib.hid (R_most.out.below S)
              have R_above := Lib.hid (rd_of (d := D_above) hv F_above.out)
              clear hb S hv c0_all c1_all c2_all d0_all d1_all d2_all l_all
              obtain ⟨c0_least, c1_least, c2_least, d0_least, d1_least, d2_least⟩ := X_least.out.cells
              have l_least := X_least.out.lt
              go_wp2_with (go_at_call 18; refine (ok_new5 _ _ _ _ _  _ _ (by simp)).mono ?_; rintro e w' ⟨rfl, rfl⟩)
              refine (N1.out _ _ _ (HT.out.below (by have := B.out; have := B.out.size; go_grown)) (R_least.out.below (by go_grown)) (R_above.out.below (by go_grown))).mono ?_
              rintro r w17 ⟨rfl, hb⟩
              have S : Below w16.heap.size w16 w17 := bl_thru (by go_grown) (Nat.le_refl _) hb
              replace B := Lib.hid (bl_thru B.out (Nat.le_refl _) S)
              replace X_all := Lib.hid (X_all.out.below S)
              clear X_least
              replace X_most := Lib.hid (X_most.out.below S)
              replace R_all := Lib.hid (R_all.out.below S)
              clear R_least
              replace R_most := Lib.hid (R_most.out.below S)
              clear R_above
              clear hb S c0_least c1_least c2_least d0_least d1_least d2_least l_least
              obtain ⟨c0_all, c1_all, c2_all, d0_all, d1_all, d2_all⟩ := X_all.out.cells
              have l_all := X_all.out.lt
              obtain ⟨c0_most, c1_most, c2_most, d0_most, d1_most, d2_most⟩ := X_most.out.cells
              have l_most := X_most.out.lt
              go_wp2_with fail
              refine (N2.out _ _ _ (HT.out.below B.out) R_all.out R_most.out).mono ?_
              rintro r w18 ⟨rfl, hb⟩
              have S : Below w17.heap.size w17 w18 := hb
              replace B := Lib.hid (bl_thru B.out (Nat.le_refl _) S)
              clear X_all
              clear X_most
              clear R_all
              clear R_most
              clear hb S c0_all c1_all c2_all d0_all d1_all d2_all l_all c0_most c1_most c2_most d0_most d1_most d2_most l_most
              go_wp2
              go_ret
              exact ⟨rfl, B.out⟩
            · have hA1 : (0 : Int) < (A : Int) := by omega
              have MK := Lib.hid (fun v w' hT hv => make_small true v A (-(j : Int)) w' hT hv (by omega) (by omega) (by omega))
              have FM := Lib.hid (norm_small true (n := A) (x := -(j : Int)) (by omega) (by omega) (by omega))
              have X_d := Lib.hid (Box.new wr (.bool false) (.slice none 0 0) (.int .i64 0) 24)
              have BS := Lib.hid B.out.size
              go_wp2_with fail
              refine (MK.out _ _ (HT.out.below (by have := B.out; have := B.out.size; go_grown)) (lim_uno _ _ A _ _ (by first | rfl | (simp; omega) | omega) (by simp) hA0 (by omega))).mono ?_
              rintro r wm ⟨a_m, n_m, k_m, rfl, hv, hb⟩
              have S : Below wr.heap.size wr wm := bl_thru (by go_grown) (Nat.le_refl _) hb
              replace B := Lib.hid (bl_thru B.out (Nat.le_refl _) S)
              replace X_d := Lib.hid ((X_d.out.alloc _).below hb)
              have RDM := Lib.hid (rd_of (hv.setD (g' := (norm true A (-(j : Int))).neg) (ao' := a_m) (n' := n_m) (c' := k_m) (e' := (norm true A (-(j : Int))).e) X_d.out) FM.out)
              obtain ⟨c0, c1, c2, f0, f1, f2⟩ := X_d.out.cells
              have ld := X_d.out.lt
              clear hv hb S
              go_wp2_with fail
              replace B := Lib.hid (bl_set3 B.out BS.out (.bool (norm true A (-(j : Int))).neg) (.slice a_m n_m k_m) (.int .i64 (norm true A (-(j : Int))).e))
              refine (exp40 _ _ _ (HT.out.below B.out) RDM.out SX.out).mono ?_
              rintro r w10 ⟨q, hq, a_p, n_p, k_p, rfl, hv, hb⟩
              replace B := Lib.hid (bl_thru B.out (Nat.le_refl _) hb)
              clear hb c0 c1 c2 f0 f1 f2 ld X_d RDM MK FM BS
              obtain ⟨F1, F2, F3, F4, F5, F6⟩ := LAW.out q hq.out
              obtain ⟨D_p, hDp⟩ : ∃ D, D = ofInt q (-40) := ⟨_, rfl⟩
              obtain ⟨D_all, hDall⟩ : ∃ D, D = ofInt q (-40 + K) := ⟨_, rfl⟩
              obtain ⟨D_least, hDleast⟩ : ∃ D, D = norm false Y 0 := ⟨_, rfl⟩
              obtain ⟨D_most, hDmost⟩ : ∃ D, D = norm false (Y + O) 0 := ⟨_, rfl⟩
              have HC_all := Lib.hid (fun v w' ht hr => shift_small v q (-40) K w' ht hr (by omega) (by omega) F2)
              have HC_least := Lib.hid (fun v w' ht hv => make_small false v Y 0 w' ht hv (by omega) (by omega) (by omega))
              have HC_most := Lib.hid (fun v w' ht hv => make_small false v (Y + O) 0 w' ht hv (by omega) (by omega) (by omega))
              have F_least := Lib.hid (norm_small false (n := Y) (x := 0) (by omega) (by omega) (by omega))
              have F_most := Lib.hid (norm_small false (n := Y + O) (x := 0) (by omega) (by omega) (by omega))
              have LM1 := Lib.hid (fun w' => limbOf_any Y (by omega) w')
              have LM2 := Lib.hid (fun w' => limbOf_any (Y + O) (by omega) w')
              rw [show ((Y + O : Nat) : Int) = (Y : Int) + (O : Int) from by push_cast; rfl] at LM2
              rw [← hDall] at F2 F3 F5 F6 HC_all
              rw [← hDp] at F1 HC_all hv ⊢
              rw [← hDleast] at F5 HC_least F_least
              rw [← hDmost] at F6 HC_most F_most
              obtain ⟨D_above, hDabove⟩ : ∃ D, D = plus D_all ⟨false, 1, (K : Int) - 40⟩ := ⟨_, rfl⟩
              have HC_above := Lib.hid (fun v1 v2 w' h0 h1 h2 => add_fit F3 v1 v2 w' h0 h1 h2)
              have N1 := Lib.hid (fun v1 v2 w' h0 h1 h2 => nm_true F5 v1 v2 w' h0 h1 h2)
              have N2 := Lib.hid (fun v1 v2 w' h0 h1 h2 => nm_true F6 v1 v2 w' h0 h1 h2)
              rw [← hDabove] at HC_above N1 F3
              have F_p := Lib.hid F1
              have F_all := Lib.hid F2
              have F_above := Lib.hid F3
              have FL := Lib.hid F4
              have R_p := Lib.hid (rd_of (d := D_p) hv F_p.out)
              have k5 := ok5_zero
              clear F1 F2 F3 F4 F5 F6 LAW SX hq hv hDp hDall hDleast hDmost hDabove
              go_wp2_with fail
              refine (HC_all.out _ _ (HT.out.below (by have := B.out; have := B.out.size; go_grown)) (R_p.out.below (by go_grown))).mono ?_
              rintro r w11 ⟨a_all, n_all, k_all, rfl, hv, hb⟩
              have S : Below w10.heap.size w10 w11 := bl_thru (by go_grown) (Nat.le_refl _) hb
              replace B := Lib.hid (bl_thru B.out (Nat.le_refl _) S)
              clear R_p
              have R_all := Lib.hid (rd_of (d := D_all) hv F_all.out)
              clear hb S hv
              go_wp2_with fail
              refine (LM1.out _).mono ?_
              rintro r w12 ⟨v_y, rfl, hl, hb⟩
              have S : Below w11.heap.size w11 w12 := bl_thru (by go_grown) (Nat.le_refl _) hb
              replace B := Lib.hid (bl_thru B.out (Nat.le_refl _) S)
              have X_all := Lib.hid ((Box.new w11 _ _ _ _).below hb)
              replace R_all := Lib.hid (R_all.out.below S)
              clear hb S
              go_wp2_with fail
              refine (HC_least.out _ _ (HT.out.below B.out) hl).mono ?_
              rintro r w13 ⟨a_least, n_least, k_least, rfl, hv, hb⟩
              have S : Below w12.heap.size w12 w13 := hb
              replace B := Lib.hid (bl_thru B.out (Nat.le_refl _) S)
              replace X_all := Lib.hid (X_all.out.below S)
              replace R_all := Lib.hid (R_all.out.below S)
              have R_least := Lib.hid (rd_of (d := D_least) hv F_least.out)
              clear hb S hv
              clear hl
              go_wp2_with fail
              refine (LM2.out _).mono ?_
              rintro r w14 ⟨v_o, rfl, hl, hb⟩
              have S : Below w13.heap.size w13 w14 := bl_thru (by go_grown) (Nat.le_refl _) hb
              replace B := Lib.hid (bl_thru B.out (Nat.le_refl _) S)
              replace X_all := Lib.hid (X_all.out.below S)
              have X_least := Lib.hid ((Box.new w13 _ _ _ _).below hb)
              replace R_all := Lib.hid (R_all.out.below S)
              replace R_least := Lib.hid (R_least.out.below S)
              clear hb S
              go_wp2_with fail
              refine (HC_most.out _ _ (HT.out.below B.out) hl).mono ?_
              rintro r w15 ⟨a_most, n_most, k_most, rfl, hv, hb⟩
              have S : Below w14.heap.size w14 w15 := hb
              replace B := Lib.hid (bl_thru B.out (Nat.le_refl _) S)
              replace X_all := Lib.hid (X_all.out.below S)
              replace X_least := Lib.hid (X_least.out.below S)
              replace R_all := Lib.hid (R_all.out.below S)
              replace R_least := Lib.hid (R_least.out.below S)
              have R_most := Lib.hid (rd_of (d := D_most) hv F_most.out)
              clear hb S hv
              clear hl
              obtain ⟨c0_all, c1_all, c2_all, d0_all, d1_all, d2_all⟩ := X_all.out.cells
              have l_all := X_all.out.lt
              go_wp2_with fail
              refine (HC_above.out _ _ _ (HT.out.below (by have := B.out; have := B.out.size; go_grown)) (R_all.out.below (by go_grown)) (rd_of (d := ⟨false, 1, (K : Int) - 40⟩) (nv_uno _ _ 1 _ (by simp) (by decide) (by decide)) FL.out)).mono ?_
              rintro r w16 ⟨a_above, n_above, k_above, rfl, hv, hb⟩
              have S : Below w15.heap.size w15 w16 := bl_thru (by go_grown) (Nat.le_refl _) hb
              replace B := Lib.hid (bl_thru B.out (Nat.le_refl _) S)
              replace X_all := Lib.hid (X_all.out.below S)
              replace X_least := Lib.hid (X_least.out.below S)
              have X_most := Lib.hid (((Box.new w15 _ _ _ _).alloc _).below hb)
              replace R_all := Lib.hid (R_all.out.below S)
              replace R_least := Lib.hid (R_least.out.below S)
              replace R_most := Lib.hid (R_most.out.below S)
              have R_above := Lib.hid (rd_of (d := D_above) hv F_above.out)
              clear hb S hv c0_all c1_all c2_all d0_all d1_all d2_all l_all
              obtain ⟨c0_least, c1_least, c2_least, d0_least, d1_least, d2_least⟩ := X_least.out.cells
              have l_least := X_least.out.lt
              go_wp2_with (go_at_call 18; refine (ok_new5 _ _ _ _ _  _ _ (by simp)).mono ?_; rintro e w' ⟨rfl, rfl⟩)
              refine (N1.out _ _ _ (HT.out.below (by have := B.out; have := B.out.size; go_grown)) (R_least.out.below (by go_grown)) (R_above.out.below (by go_grown))).mono ?_
              rintro r w17 ⟨rfl, hb⟩
              have S : Below w16.heap.size w16 w17 := bl_thru (by go_grown) (Nat.le_refl _) hb
              replace B := Lib.hid (bl_thru B.out (Nat.le_refl _) S)
              replace X_all := Lib.hid (X_all.out.below S)
              clear X_least
              replace X_most := Lib.hid (X_most.out.below S)
              replace R_all := Lib.hid (R_all.out.below S)
              clear R_least
              replace R_most := Lib.hid (R_most.out.below S)
              clear R_above
              clear hb S c0_least c1_least c2_least d0_least d1_least d2_least l_least
              obtain ⟨c0_all, c1_all, c2_all, d0_all, d1_all, d2_all⟩ := X_all.out.cells
              have l_all := X_all.out.lt
              obtain ⟨c0_most, c1_most, c2_most, d0_most, d1_most, d2_most⟩ := X_most.out.cells
              have l_most := X_most.out.lt
              go_wp2_with fail
              refine (N2.out _ _ _ (HT.out.below B.out) R_all.out R_most.out).mono ?_
              rintro r w18 ⟨rfl, hb⟩
              have S : Below w17.heap.size w17 w18 := hb
              replace B := Lib.hid (bl_thru B.out (Nat.le_refl _) S)
              clear X_all
              clear X_most
              clear R_all
              clear R_most
              clear hb S c0_all c1_all c2_all d0_all d1_all d2_all l_all c0_most c1_most c2_most d0_most d1_most d2_most l_most
              go_wp2
              go_ret
              exact ⟨rfl, B.out⟩
end Go.Proofs.YtmpdbmaokbhcjaaDoor
