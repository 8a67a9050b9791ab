/-
  THE WALK of the law WholeRounds.
-/
import Derived.Test.YtdknfdncgmeimaaDoorVl
import Derived.Test.YtdknfdncgmeimaaDoorWn
import Derived.Test.YtdknfdncgmeimaaDoorWm
import Derived.Test.YtdknfdncgmeimaaDoorEx2
import Derived.Test.YtdknfdncgmeimaaDoorEx3
set_option linter.unusedVariables false
set_option linter.unusedSimpArgs false
namespace Go.Proofs.YtdknfdncgmeimaaDoor
open Go.RowKit Nt Fm Fl

theorem smag_abs' (x : Int) : (smag x).natAbs = mag (fabs x).toNat := by unfold smag; split <;> simp
theorem one_nv (w : World) (x : Nat) (T : TypeId) (h0 : x ≠ 0) (h1 : x < 4294967296) : NV (w.alloc (.cells #[.int .u32 (x : Int)] T)) (.slice (some ⟨w.heap.size, 0, none⟩) 1 1) x := by
  refine ⟨[x], ⟨Lims.cons h1 Lims.nil, by simpa using h0⟩, by simp [val], Lims.cons h1 Lims.nil, some ⟨w.heap.size, 0, none⟩, 1, rfl, Nat.le_refl 1, by show 1 ≤ maxLen; unfold maxLen; omega, Or.inr ⟨w.heap.size, 0, rfl, by simp, ?_⟩⟩
  intro i hi
  match i, hi with
  | 0, _ => simp [go_sem]
theorem one_nv2 (w : World) (o : Obj) (x : Nat) (T : TypeId) (h0 : x ≠ 0) (h1 : x < 4294967296) : NV ((w.alloc o).alloc (.cells #[.int .u32 (x : Int)] T)) (.slice (some ⟨w.heap.size + 1, 0, none⟩) 1 1) x := by
  have h := one_nv (w.alloc o) x T h0 h1
  rw [size_alloc] at h; exact h
theorem ofD_yes {x : Int} (h : hasV x = true) : ofD x = valD x := by unfold ofD; rw [if_pos h]
theorem hasV_f {x : Int} (h : hasV x = true) : fabs x < 9218868437227405312 := by unfold hasV at h; simpa using h
theorem diff_fit (x y : Int) (x0 : 0 ≤ x) (x1 : x ≤ 18446744073709551615) (y0 : 0 ≤ y) (y1 : y ≤ 18446744073709551615) : Fit (plus (valD x) (opp (valD y))) := by
  have hb := fneg_bd y0 y1
  have h := (valD_sml x x0 x1).plus (valD_sml (fneg y) hb.1 hb.2)
  rw [valD_fneg y0 y1] at h
  obtain ⟨⟨q, hq, hm⟩, e0, e1⟩ := h.bds (by decide)
  exact fit_of (plus_Nf _ _) (by omega) hm (by omega) (by omega)
theorem one_fit : Fit ⟨false, 1, 0⟩ := fit_of (k := 1) (Or.inr rfl) (by omega) (by decide) (by decide) (by decide)
theorem Ik_near {k V U I : Nat} (hU : 0 < U) (h : ∀ n, n ≤ I ↔ Ik k V U n) : V < I * U + U ∧ I * U < V + U := by
  have a := (h I).1 (Nat.le_refl _)
  have b := mt (h (I + 1)).2 (by omega)
  have c : I ≠ 0 → (I - 1) * U + U = I * U := fun h => by rw [← Nat.succ_mul]; congr 1; omega
  have d : (I + 1) * U = I * U + U := by rw [Nat.add_mul, Nat.one_mul]
  have e : I = 0 → I * U = 0 := fun h => by rw [h, Nat.zero_mul]
  rcases k with _ | _ | _ | k <;> simp only [Ik, Nat.add_sub_cancel] at a b <;> (try rw [d] at b) <;> (by_cases hz : I = 0)
  all_goals (first | (have e0 := e hz; rw [hz] at a b; rw [hz] at e0; omega) | (have e0 := e hz; omega) | (have c0 := c hz; omega))
theorem near_one {d : D} {mode : Int} (hd : d.Nf) (he : 0 ≤ d.e + ((1074 : Nat) : Int)) (m0 : 0 ≤ mode) (m1 : mode ≤ 4) : cmp (absD (plus d (opp (mulD d 0 mode)))) ⟨false, 1, 0⟩ = -1 := by
  obtain ⟨I, i1, i2, -, i4, i5⟩ := mul_spec d 0 mode (T := 1074) hd he (by decide) m0 m1
  have eR : 0 ≤ (opp (mulD d 0 mode)).e + ((1074 : Nat) : Int) := by
    show 0 ≤ (mulD d 0 mode).e + _
    rcases i5 with h | h
    · rw [h]; decide
    · omega
  have ep := plus_eT he eR
  have eo : 0 ≤ (⟨false, 1, 0⟩ : D).e + ((1074 : Nat) : Int) := by decide
  rw [cmp_vl (absD (plus d (opp (mulD d 0 mode)))) ⟨false, 1, 0⟩ 1074 ep eo, absD_vl, plus_vl _ _ _ he eR, opp_vl, i2, vl_abs d, vl_abs ⟨false, 1, 0⟩]
  have hU := Nat.two_pow_pos ((0 : Int) + ((1074 : Nat) : Int)).toNat
  have key := Ik_near hU i1
  generalize 2 ^ ((0 : Int) + ((1074 : Nat) : Int)).toNat = U at *
  generalize d.m * 2 ^ (d.e + ((1074 : Nat) : Int)).toNat = V at *
  generalize I * U = W at *
  apply Int.sign_eq_neg_one_of_neg
  cases d.neg <;> simp only [Bool.false_eq_true, if_false, if_true] <;> omega
theorem fl_inj {x y : Int} (x0 : 0 ≤ x) (x1 : x ≤ 18446744073709551615) (y0 : 0 ≤ y) (y1 : y ≤ 18446744073709551615) (hx : fabs x < 9218868437227405312) (hy : fabs y < 9218868437227405312) (h : valD x = valD y) (hg : fng x = fng y) : x = y := by
  have h1 : ((valD x).vl 1074).natAbs = ((valD y).vl 1074).natAbs := by rw [h]
  rw [valD_sm x0 x1 hx, valD_sm y0 y1 hy, smag_abs', smag_abs'] at h1
  have h2 := mag_inj h1
  have bx := fabs_bd x
  have bY := fabs_bd y
  have h3 : fabs x = fabs y := by omega
  unfold fng at hg
  unfold fabs at h3
  by_cases hs : 9223372036854775808 ≤ x
  · rw [decide_eq_true hs] at hg
    have := of_decide_eq_true hg.symm
    omega
  · rw [decide_eq_false hs] at hg
    have := of_decide_eq_false hg.symm
    omega
theorem wholeRounds_a {x mode : Int} (x0 : 0 ≤ x) (x1 : x ≤ 18446744073709551615) (hk : knownB mode = true) (hx : hasV x = true) :
    hasV (woV x mode) = true ∧ woV (woV x mode) mode = woV x mode ∧ woC (woV x mode) mode = false ∧ isW (woV x mode) = true ∧ (woV x mode == x) = !(woC x mode) ∧ isW x = !(woC x mode) ∧ cmp (absD (plus (valD x) (opp (valD (woV x mode))))) ⟨false, 1, 0⟩ = -1 := by
  have hm := known_in hk
  have hf := hasV_f hx
  obtain ⟨f1, -⟩ := valD_facts x x0 x1
  obtain ⟨b, h1, h2, h3, h4, h5⟩ := wo_fin x0 x1 hf hm.1 hm.2
  obtain ⟨a1, a2⟩ := wo_again x0 x1 hf hm.1 hm.2
  rw [(woV_yes (x := x) hk).1, (woV_yes (x := x) hk).2.1, (woV_yes (x := woV0 x mode) hk).1, (woV_yes (x := woV0 x mode) hk).2.1]
  have hv : hasV (woV0 x mode) = true := (hasV_iff _).2 h1
  have he := (mul_whole (mode := mode) f1 (valD_facts x x0 x1).2.1 (valD_e x0 x1) (valD_num x x0 x1 hf 0).1 hm.1 hm.2).1
  have hsame := mul_same (d := valD x) (pl := 0) (mode := mode) f1 hm.1 hm.2
  rw [← h4] at hsame
  refine ⟨hv, a1, a2, by unfold isW; rw [hv, h2, decide_eq_true he]; rfl, ?_, ?_, by rw [h2]; exact near_one f1 (valD_e x0 x1) hm.1 hm.2⟩
  · cases hc : woC0 x
    · have := fl_inj b.1 b.2 x0 x1 h1 hf (h2.trans (hsame.1 hc)) h3
      rw [this]; simp
    · rw [Bool.not_true, beq_eq_false_iff_ne]
      intro h
      rw [h] at h2
      have := hsame.2 h2.symm
      rw [hc] at this; cases this
  · unfold isW; rw [hx, Bool.true_and]
    cases hc : woC0 x
    · have := hsame.1 hc
      rw [this] at he
      rw [decide_eq_true he]; rfl
    · rw [Bool.not_true]
      apply decide_eq_false
      intro h
      have : mulC (valD x) 0 = false := by unfold mulC; rw [if_pos (Or.inl h)]
      rw [← h4, hc] at this; cases this

set_option maxRecDepth 100000 in
set_option maxHeartbeats 16000000 in
theorem walkWholeRounds (x : Int) (x0 : 0 ≤ x) (x1 : x ≤ 18446744073709551615) (mode : Int) (mode0 : -9223372036854775808 ≤ mode) (mode1 : mode ≤ 9223372036854775807) (w : World) (hT : Tab w) :
    Calls Tryd.prog 21 #[.int .u64 x, .int .i64 mode] w fun e w' => e = .returned (.bool true) ∧ Below w.heap.size w w' := by
  obtain ⟨p0, p1⟩ := woV_bd mode x0 x1
  have HM := Lib.hid (fun w' h => wround_any x mode x0 x1 mode0 mode1 w' h)
  have HM2 := Lib.hid (fun w' h => wround_any (woV x mode) mode p0 p1 mode0 mode1 w' h)
  have HA := Lib.hid (fun w' h => valu_any x x0 x1 w' h)
  have HB := Lib.hid (fun w' h => valu_any (woV x mode) p0 p1 w' h)
  have HI1 := Lib.hid (fun w' h => wis_any x x0 x1 w' h)
  have HI2 := Lib.hid (fun w' h => wis_any (woV x mode) p0 p1 w' h)
  have F_a := Lib.hid (ofD_fit x x0 x1)
  have F_b := Lib.hid (ofD_fit (woV x mode) p0 p1)
  have F_d := Lib.hid (diff_fit x (woV x mode) x0 x1 p0 p1)
  have HD : Hid (hasV x = true → hasV (woV x mode) = true → ∀ v1 v2 w', Tab w' → RD w' v1 0 (ofD x) → RD w' v2 0 (ofD (woV x mode)) → Calls Tryd.prog 34 #[v1, v2] w' (RetR w' 0 (plus (valD x) (opp (valD (woV x mode)))))) := Lib.hid (fun hx hy v1 v2 w' h0 h1 h2 => by
    have := sub_any v1 v2 0 0 (ofD x) (ofD (woV x mode)) w' h0 h1 h2
    have e0 : plus (ofD x) (opp (ofD (woV x mode))) = plus (valD x) (opp (valD (woV x mode))) := by rw [ofD_yes hx, ofD_yes hy]
    rw [e0, (opE_zero (plus (valD x) (opp (valD (woV x mode))))).1, (opE_zero (plus (valD x) (opp (valD (woV x mode))))).2, fitE_of F_d.out, if_pos rfl] at this
    exact this)
  have A_d := Lib.hid (absD_fit F_d.out)
  have HCM : Hid (∀ d1 d2 v1 v2 w', Tab w' → RD w' v1 0 d1 → RD w' v2 0 d2 → Calls Tryd.prog 33 #[v1, v2] w' fun r w'' => r = .returned (.tuple #[.int .i64 (cmp d1 d2), .int .i64 0]) ∧ Below w'.heap.size w' w'') := Lib.hid (fun d1 d2 v1 v2 w' h0 h1 h2 => by
    have := cmp_any v1 v2 0 0 d1 d2 w' h0 h1 h2
    have e1 : cmE 0 0 d1 d2 = cmp d1 d2 := by unfold cmE; rw [if_pos (by rfl)]
    have e2 : ck2 0 0 = 0 := rfl
    rw [e1, e2] at this; exact this)
  have K : Hid (adE mode = 1 ∨ (adE mode = 0 ∧ ((hasV x = false ∧ hasV (woV x mode) = false) ∨ (hasV x = true ∧ hasV (woV x mode) = true ∧ woV (woV x mode) mode = woV x mode ∧ woC (woV x mode) mode = false ∧ isW (woV x mode) = true ∧ (woV x mode == x) = !(woC x mode) ∧ isW x = !(woC x mode) ∧ cmp (absD (plus (valD x) (opp (valD (woV x mode))))) ⟨false, 1, 0⟩ = -1)))) := Lib.hid (by
    cases hk : knownB mode
    · left; unfold adE; rw [hk]; rfl
    · right
      refine ⟨by unfold adE; rw [hk]; rfl, ?_⟩
      cases hx : hasV x
      · left; refine ⟨rfl, ?_⟩
        have hm := known_in hk
        rw [(woV_yes hk).1, hasV_wo x0 x1 hm.1 hm.2]; exact hx
      · right; exact ⟨rfl, wholeRounds_a x0 x1 hk hx⟩)
  obtain ⟨D_a, hD_a⟩ : ∃ D, D = ofD x := ⟨_, rfl⟩
  obtain ⟨D_b, hD_b⟩ : ∃ D, D = ofD (woV x mode) := ⟨_, rfl⟩
  obtain ⟨D_d, hD_d⟩ : ∃ D, D = plus (valD x) (opp (valD (woV x mode))) := ⟨_, rfl⟩
  rw [← hD_a] at HA F_a HD
  rw [← hD_b] at HB F_b HD
  rw [← hD_d] at F_d A_d HD K
  clear hD_a hD_b hD_d
  generalize woV (woV x mode) mode = z at *
  generalize woC (woV x mode) mode = again at *
  generalize isW (woV x mode) = iy at *
  generalize isW x = ix at *
  generalize woV x mode = y at *
  generalize woC x mode = C at *
  generalize hasV x = hx at *
  generalize hasV y = hy at *
  generalize adE mode = E at *
  have HT := Lib.hid hT
  clear hT
  rcases K.out with hE | ⟨hE, ⟨h1, h2⟩ | ⟨h1, h2, h3, h4, h5, h6, h7, h8⟩⟩
  · subst hE
    clear K
    go_enter Tryd.func21, Tryd.ntmps21
    go_wp2_with fail
    refine (HM.out _ HT.out).mono ?_
    rintro r w1 ⟨rfl, hb⟩
    have S : Below w.heap.size w w1 := hb
    have B := Lib.hid S
    clear hb S
    go_wp2_with fail
    refine (HA.out _ (HT.out.below B.out)).mono ?_
    rintro r w2 ⟨a_a, n_a, k_a, rfl, hv, hb⟩
    have S : Below w1.heap.size w1 w2 := hb
    replace B := Lib.hid (bl_thru B.out (Nat.le_refl _) S)
    have R_a := Lib.hid (rd_of (d := D_a) hv F_a.out)
    clear hb S hv
    go_wp2_with fail
    refine (HB.out _ (HT.out.below (by have := B.out; have := B.out.size; go_grown))).mono ?_
    rintro r w3 ⟨a_b, n_b, k_b, rfl, hv, hb⟩
    have S : Below w2.heap.size w2 w3 := bl_thru (by go_grown) (Nat.le_refl _) hb
    replace B := Lib.hid (bl_thru B.out (Nat.le_refl _) S)
    have X_a := Lib.hid ((Box.new w2 _ _ _ _).below hb)
    replace R_a := Lib.hid (R_a.out.below S)
    have R_b := Lib.hid (rd_of (d := D_b) hv F_b.out)
    clear hb S hv
    go_wp2_with fail
    refine (wholeLives_any _ (HT.out.below (by have := B.out; have := B.out.size; go_grown))).mono ?_
    rintro r w4 ⟨rfl, hb⟩
    have S : Below w3.heap.size w3 w4 := bl_thru (by go_grown) (Nat.le_refl _) hb
    replace B := Lib.hid (bl_thru B.out (Nat.le_refl _) S)
    replace X_a := Lib.hid (X_a.out.below S)
    have X_b := Lib.hid ((Box.new w3 _ _ _ _).below hb)
    replace R_a := Lib.hid (R_a.out.below S)
    replace R_b := Lib.hid (R_b.out.below S)
    clear hb S
    go_wp2_with fail
    refine (wholeLives_any _ (HT.out.below B.out)).mono ?_
    rintro r w5 ⟨rfl, hb⟩
    have S : Below w4.heap.size w4 w5 := hb
    replace B := Lib.hid (bl_thru B.out (Nat.le_refl _) S)
    replace X_a := Lib.hid (X_a.out.below S)
    replace X_b := Lib.hid (X_b.out.below S)
    replace R_a := Lib.hid (R_a.out.below S)
    replace R_b := Lib.hid (R_b.out.below S)
    clear hb S
    go_wp2
    go_ret
    exact ⟨rfl, B.out⟩
  · subst hE h1 h2
    clear K
    go_enter Tryd.func21, Tryd.ntmps21
    go_wp2_with fail
    refine (HM.out _ HT.out).mono ?_
    rintro r w1 ⟨rfl, hb⟩
    have S : Below w.heap.size w w1 := hb
    have B := Lib.hid S
    clear hb S
    go_wp2_with fail
    refine (HA.out _ (HT.out.below B.out)).mono ?_
    rintro r w2 ⟨a_a, n_a, k_a, rfl, hv, hb⟩
    have S : Below w1.heap.size w1 w2 := hb
    replace B := Lib.hid (bl_thru B.out (Nat.le_refl _) S)
    have R_a := Lib.hid (rd_of (d := D_a) hv F_a.out)
    clear hb S hv
    go_wp2_with fail
    refine (HB.out _ (HT.out.below (by have := B.out; have := B.out.size; go_grown))).mono ?_
    rintro r w3 ⟨a_b, n_b, k_b, rfl, hv, hb⟩
    have S : Below w2.heap.size w2 w3 := bl_thru (by go_grown) (Nat.le_refl _) hb
    replace B := Lib.hid (bl_thru B.out (Nat.le_refl _) S)
    have X_a := Lib.hid ((Box.new w2 _ _ _ _).below hb)
    replace R_a := Lib.hid (R_a.out.below S)
    have R_b := Lib.hid (rd_of (d := D_b) hv F_b.out)
    clear hb S hv
    go_wp2_with fail
    refine (wholeLives_any _ (HT.out.below (by have := B.out; have := B.out.size; go_grown))).mono ?_
    rintro r w4 ⟨rfl, hb⟩
    have S : Below w3.heap.size w3 w4 := bl_thru (by go_grown) (Nat.le_refl _) hb
    replace B := Lib.hid (bl_thru B.out (Nat.le_refl _) S)
    replace X_a := Lib.hid (X_a.out.below S)
    have X_b := Lib.hid ((Box.new w3 _ _ _ _).below hb)
    replace R_a := Lib.hid (R_a.out.below S)
    replace R_b := Lib.hid (R_b.out.below S)
    clear hb S
    go_wp2_with fail
    refine (wholeLives_any _ (HT.out.below B.out)).mono ?_
    rintro r w5 ⟨rfl, hb⟩
    have S : Below w4.heap.size w4 w5 := hb
    replace B := Lib.hid (bl_thru B.out (Nat.le_refl _) S)
    replace X_a := Lib.hid (X_a.out.below S)
    replace X_b := Lib.hid (X_b.out.below S)
    replace R_a := Lib.hid (R_a.out.below S)
    replace R_b := Lib.hid (R_b.out.below S)
    clear hb S
    go_wp2
    go_ret
    exact ⟨rfl, B.out⟩
  · subst hE h1 h2 h3 h4 h5 h7
    have HD2 := Lib.hid (HD.out rfl rfl)
    have HC1 : Hid (∀ v1 v2 w', Tab w' → RD w' v1 0 (absD D_d) → RD w' v2 0 ⟨false, 1, 0⟩ → Calls Tryd.prog 33 #[v1, v2] w' fun r w'' => r = .returned (.tuple #[.int .i64 (-1), .int .i64 0]) ∧ Below w'.heap.size w' w'') := Lib.hid (fun v1 v2 w' a b c => by
      have := HCM.out (absD D_d) ⟨false, 1, 0⟩ v1 v2 w' a b c
      rw [h8] at this; exact this)
    clear HD h8 HCM
    cases C
    all_goals
      simp only [Bool.not_true, Bool.not_false] at h6 HI1
      have H6 := Lib.hid h6
      clear h6
      clear K
      go_enter Tryd.func21, Tryd.ntmps21
      go_wp2_with fail
      refine (HM.out _ HT.out).mono ?_
      rintro r w1 ⟨rfl, hb⟩
      have S : Below w.heap.size w w1 := hb
      have B := Lib.hid S
      clear hb S
      go_wp2_with fail
      refine (HA.out _ (HT.out.below B.out)).mono ?_
      rintro r w2 ⟨a_a, n_a, k_a, rfl, hv, hb⟩
      have S : Below w1.heap.size w1 w2 := hb
      replace B := Lib.hid (bl_thru B.out (Nat.le_refl _) S)
      have R_a := Lib.hid (rd_of (d := D_a) hv F_a.out)
      clear hb S hv
      go_wp2_with fail
      refine (HB.out _ (HT.out.below (by have := B.out; have := B.out.size; go_grown))).mono ?_
      rintro r w3 ⟨a_b, n_b, k_b, rfl, hv, hb⟩
      have S : Below w2.heap.size w2 w3 := bl_thru (by go_grown) (Nat.le_refl _) hb
      replace B := Lib.hid (bl_thru B.out (Nat.le_refl _) S)
      have X_a := Lib.hid ((Box.new w2 _ _ _ _).below hb)
      replace R_a := Lib.hid (R_a.out.below S)
      have R_b := Lib.hid (rd_of (d := D_b) hv F_b.out)
      clear hb S hv
      go_wp2_with fail
      refine (wholeLives_any _ (HT.out.below (by have := B.out; have := B.out.size; go_grown))).mono ?_
      rintro r w4 ⟨rfl, hb⟩
      have S : Below w3.heap.size w3 w4 := bl_thru (by go_grown) (Nat.le_refl _) hb
      replace B := Lib.hid (bl_thru B.out (Nat.le_refl _) S)
      replace X_a := Lib.hid (X_a.out.below S)
      have X_b := Lib.hid ((Box.new w3 _ _ _ _).below hb)
      replace R_a := Lib.hid (R_a.out.below S)
      replace R_b := Lib.hid (R_b.out.below S)
      clear hb S
      go_wp2_with fail
      refine (HM2.out _ (HT.out.below B.out)).mono ?_
      rintro r w5 ⟨rfl, hb⟩
      have S : Below w4.heap.size w4 w5 := hb
      replace B := Lib.hid (bl_thru B.out (Nat.le_refl _) S)
      replace X_a := Lib.hid (X_a.out.below S)
      replace X_b := Lib.hid (X_b.out.below S)
      replace R_a := Lib.hid (R_a.out.below S)
      replace R_b := Lib.hid (R_b.out.below S)
      clear hb S
      obtain ⟨c0_a, c1_a, c2_a, d0_a, d1_a, d2_a⟩ := X_a.out.cells
      have l_a := X_a.out.lt
      obtain ⟨c0_b, c1_b, c2_b, d0_b, d1_b, d2_b⟩ := X_b.out.cells
      have l_b := X_b.out.lt
      go_wp2_with fail
      refine (HD2.out _ _ _ (HT.out.below B.out) R_a.out R_b.out).mono ?_
      rintro r w6 ⟨a_d, n_d, k_d, rfl, hv, hb⟩
      have S : Below w5.heap.size w5 w6 := hb
      replace B := Lib.hid (bl_thru B.out (Nat.le_refl _) S)
      clear X_a
      clear X_b
      clear R_a
      clear R_b
      have R_d := Lib.hid (rd_of (d := D_d) hv F_d.out)
      clear hb S hv c0_a c1_a c2_a d0_a d1_a d2_a l_a c0_b c1_b c2_b d0_b d1_b d2_b l_b
      go_wp2_with fail
      have N_d := nv_of_rd R_d.out
      refine (HC1.out _ _ _ (HT.out.below (by have := B.out; have := B.out.size; go_grown)) (rd_of (d := absD D_d) ((N_d.alloc _).alloc _) A_d.out) (rd_of (d := ⟨false, 1, 0⟩) (one_nv2 _ _ 1 _ (by decide) (by decide)) one_fit)).mono ?_
      rintro r w7 ⟨rfl, hb⟩
      have B7 : Hid (Below w.heap.size w w7) := Lib.hid (bl_thru (by have := B.out; have := B.out.size; go_grown) (Nat.le_refl _) hb)
      clear hb N_d
      have h6 := H6.out
      go_wp2_with (go_at_call 31; refine (ok_new3 _ _ _ _ _ rfl).mono ?_; rintro e w' ⟨rfl, rfl⟩)
      refine (HI2.out _ (HT.out.below (by have := B7.out; have := B7.out.size; go_grown))).mono ?_
      rintro r w8 ⟨rfl, hb⟩
      have B8 : Hid (Below w.heap.size w w8) := Lib.hid (bl_thru (by have := B7.out; have := B7.out.size; go_grown) (Nat.le_refl _) hb)
      clear hb
      go_wp2_with fail
      refine (HI1.out _ (HT.out.below B8.out)).mono ?_
      rintro r w9 ⟨rfl, hb⟩
      have B9 : Hid (Below w.heap.size w w9) := Lib.hid (bl_thru B8.out (Nat.le_refl _) hb)
      clear hb
      go_wp2
      go_ret
      exact ⟨rfl, B9.out⟩
end Go.Proofs.YtdknfdncgmeimaaDoor
