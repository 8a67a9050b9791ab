/-
  THE WALK of the law GrowExact.
-/
import Derived.Test.YtapdjclhpcakeaaDoorGy
import Derived.Test.YtapdjclhpcakeaaDoorGt
import Derived.Test.YtapdjclhpcakeaaDoorBx
set_option linter.unusedVariables false
set_option linter.unusedSimpArgs false
namespace Go.Proofs.YtapdjclhpcakeaaDoor
open Go.RowKit Nt Fm Fl

theorem sumD_fit {l : List Int} (hu : ∀ x ∈ l, 0 ≤ x ∧ x ≤ 18446744073709551615) (hl : l.length ≤ 1000) : Fit (sumD l) := by
  have h := sumD_sml l hu l.length (Nat.le_refl _)
  rw [List.take_length] at h
  obtain ⟨⟨q, hq, hm⟩, e0, e1⟩ := h.bds (by omega)
  exact fit_of h.1 (by omega) hm (by omega) (by omega)
theorem gvD_fit {l : List Int} (hu : ∀ x ∈ l, 0 ≤ x ∧ x ≤ 18446744073709551615) : Fit (gvD l) := by
  unfold gvD; split
  · rename_i h; exact sumD_fit hu (by have := gcE_len' h; omega)
  · exact Fit.nz
theorem LU.shape2 {w : World} {v : Value} {l : List Int} (h : LU w v l) : ∃ (ao : Option Addr) (n c : Nat), v = .slice ao n c ∧ n = l.length := by
  obtain ⟨_, ao, c, h, _⟩ := h; exact ⟨ao, _, c, h, rfl⟩
theorem far_new1 (x : Int) (x0 : 0 ≤ x) (x1 : x ≤ 18446744073709551615) (B : Bool) (hB : farB [x] = B) (w : World) (T : TypeId) (b : Nat) (hb : b = w.heap.size) :
    Calls Tryd.prog 56 #[.slice (some ⟨b, 0, none⟩) 1 1] (w.alloc (.cells #[.int .u64 x] T)) fun e w' => e = .returned (.bool B) ∧ w.alloc (.cells #[.int .u64 x] T) = w' := by
  subst hb hB
  exact far_any _ [x] _ (one_lu w x T x0 x1)
theorem far_no1 {x : Int} (h : farB [x] = false) : ¬ 1923 ≤ fexp x := by unfold farB at h; simpa using h
theorem far_noL {l : List Int} (h : farB l = false) : ∀ i, i < l.length → ¬ 1923 ≤ fexp (l.getD i 0) := by
  intro i hi
  unfold farB at h
  rw [List.any_eq_false] at h
  have := h (l.getD i 0) (by simp [List.getD, hi])
  simpa using this
theorem gaE_ok {l : List Int} {x : Int} (h : gaE l x = 0) : gcE l = 0 ∧ hasV x = true := by
  unfold gaE at h
  by_cases hg : gcE l = 0
  · rw [if_pos hg] at h
    cases hv : hasV x
    · rw [hv, if_neg (by decide)] at h; omega
    · exact ⟨hg, rfl⟩
  · rw [if_neg hg] at h; exact absurd h hg
theorem sumD_vlS {l : List Int} (hu : ∀ x ∈ l, 0 ≤ x ∧ x ≤ 18446744073709551615) (hn : Nov l) : (sumD l).vl 1074 = ssum l ∧ 0 ≤ (sumD l).e + ((1074 : Nat) : Int) := by
  have := sumD_ss l hu (fun i hi => (hn.val i hi).1) l.length (Nat.le_refl _)
  rw [List.take_length] at this; exact this
theorem near_list {l : List Int} (hu : ∀ x ∈ l, 0 ≤ x ∧ x ≤ 18446744073709551615) (hf : farB l = false) : ∀ i, i < l.length → (smag (l.getD i 0)).natAbs < Ep.P 1975 := by
  intro i hi
  have b := getD_bd hu i
  have := near_bd (far_noL hf i hi) b.1 b.2
  have p : Ep.P 1975 = 2 * Ep.P 1974 := Ep.P_succ 1974
  have := Ep.P_pos 1974
  omega
theorem growExact_a {l : List Int} {x : Int} (hu : ∀ d ∈ l, 0 ≤ d ∧ d ≤ 18446744073709551615) (x0 : 0 ≤ x) (x1 : x ≤ 18446744073709551615) (he : gaE l x = 0) (hx : farB [x] = false) (hl : farB l = false) :
    (60 < (gaL l x).length ∧ gcE (gaL l x) = 2 ∧ (gaL l x).length = l.length + 1) ∨ ((gaL l x).length ≤ 60 ∧ gcE (gaL l x) = 0 ∧ (gaL l x).length ≤ l.length + 1 ∧ plus (sumD l) (valD x) = plus (sumD (gaL l x)) nz) := by
  obtain ⟨hg, hv⟩ := gaE_ok he
  obtain ⟨-, h2, h3, -, h5⟩ := grow_law hu x0 x1 hg hv (n := 1975) (by decide) (by decide) (near_list hu hl) (near_bd (far_no1 hx) x0 x1)
  have hlen := gcE_len' hg
  have hm := gaL_mem (l := l) hu x0 x1
  by_cases h6 : 60 < (gaL l x).length
  · left; exact ⟨h6, by unfold gcE; rw [if_pos h6], by omega⟩
  · right
    refine ⟨by omega, good_of_nov hm h2 (by omega), h5, ?_⟩
    obtain ⟨a1, a2⟩ := sumD_vlS hu (nov_of_good hu hg)
    obtain ⟨b1, b2⟩ := sumD_vlS hm h2
    have ex := valD_e x0 x1
    obtain ⟨k1, k2⟩ := plus_nzr_vl b2
    refine nf_inj (plus_Nf _ _) (plus_Nf _ _) (T := 1074) (plus_eT a2 ex) k2 ?_
    rw [k1, plus_vl _ _ _ a2 ex, a1, b1, valD_sm x0 x1 (hasV_lt hv), h3]; omega
theorem sum1_fit {l : List Int} {x : Int} (hu : ∀ d ∈ l, 0 ≤ d ∧ d ≤ 18446744073709551615) (hl : l.length ≤ 1000) (x0 : 0 ≤ x) (x1 : x ≤ 18446744073709551615) : Fit (plus (sumD l) (valD x)) := by
  have h := sumD_sml l hu l.length (Nat.le_refl _)
  rw [List.take_length] at h
  have h := h.plus (valD_sml x x0 x1)
  obtain ⟨⟨q, hq, hm⟩, e0, e1⟩ := h.bds (by omega)
  exact fit_of h.1 (by omega) hm (by omega) (by omega)
set_option maxRecDepth 100000 in
set_option maxHeartbeats 16000000 in
theorem walkGrowExact (v : Value) (l : List Int) (x : Int) (x0 : 0 ≤ x) (x1 : x ≤ 18446744073709551615) (w : World) (hT : Tab w) (hv : LU w v l) (hr : l.length * 8 ≤ 140737488351232) :
    Calls Tryd.prog 15 #[v, .int .u64 x] w fun e w' => e = .returned (.bool true) ∧ Below w.heap.size w w' := by
  have hu := hv.1
  have HM := Lib.hid (fun w' h0 hb => gadd_any v l x w' h0 (hv.below hb) x0 x1)
  have HA := Lib.hid (fun w' h0 hb => gValue_any v l w' h0 (hv.below hb))
  have HB := Lib.hid (fun w' h => valu_any x x0 x1 w' h)
  have HFL := fun w' hb => far_any v l w' (hv.below hb)
  have HC := Lib.hid (fun v w' h0 h1 => gValue_any v (gaL l x) w' h0 h1)
  have F_a := Lib.hid (gvD_fit hu)
  have F_b := Lib.hid (ofD_fit x x0 x1)
  have F_c := Lib.hid (gvD_fit (gaL_mem (l := l) hu x0 x1))
  obtain ⟨-, ao, cap, rfl, hcap, hmx, -⟩ := hv
  unfold maxLen at hmx
  have HT := Lib.hid hT
  clear hT hr
  by_cases he : gaE l x = 0
  · obtain ⟨hg, hvx⟩ := gaE_ok he
    have hlen := gcE_len' hg
    rw [he] at HM
    rw [hg] at HA
    rw [hvx] at HB
    cases hfx : farB [x]
    · have HFX := Lib.hid (fun w T b hb => far_new1 x x0 x1 false hfx w T b hb)
      cases hfl : farB l
      · rw [hfl] at HFL
        have HFL := Lib.hid HFL
        have hcase := growExact_a hu x0 x1 he hfx hfl
        have hfit := sum1_fit hu (by omega) x0 x1
        have e1 : gvD l = sumD l := by unfold gvD; rw [if_pos hg]
        have e2 : ofD x = valD x := ofD_val hvx
        have e3 : gcE (gaL l x) = 0 → gvD (gaL l x) = sumD (gaL l x) := fun h => by unfold gvD; rw [if_pos h]
        rw [← e1, ← e2] at hfit
        clear hg hvx hfx hfl he
        rcases hcase with ⟨c1, c2, c3⟩ | ⟨c1, c2, c3, c4⟩
        · rw [c2] at HC
          clear c2 e3 hfit e1 e2 hu
          obtain ⟨D_a, hD_a⟩ : ∃ D, D = gvD l := ⟨_, rfl⟩
          obtain ⟨D_b, hD_b⟩ : ∃ D, D = ofD x := ⟨_, rfl⟩
          obtain ⟨D_c, hD_c⟩ : ∃ D, D = gvD (gaL l x) := ⟨_, rfl⟩
          rw [← hD_a] at HA F_a
          rw [← hD_b] at HB F_b
          rw [← hD_c] at HC F_c
          clear hD_a hD_b hD_c
          obtain ⟨M, hM⟩ : ∃ M, M = gaL l x := ⟨_, rfl⟩
          rw [← hM] at HM HC c1 c3
          have C1 := Lib.hid c1
          have C3 := Lib.hid c3
          clear hM c1 c3
          go_enter Tryd.func15, Tryd.ntmps15
          go_wp2_with fail
          refine (HM.out _ HT.out (Below.refl _ _)).mono ?_
          rintro r w1 ⟨vm, rfl, hlm, hb⟩
          have S : Below w.heap.size w w1 := hb
          have B := Lib.hid S
          clear hb S
          obtain ⟨am, nm, cm, rfl, hnm⟩ := hlm.shape2
          have V_m := Lib.hid hlm
          have HN := Lib.hid hnm
          clear hlm hnm
          go_wp2_with fail
          refine (HA.out _ (HT.out.below B.out) B.out).mono ?_
          rintro r w2 ⟨a_a, n_a, k_a, rfl, hv, hb⟩
          have S : Below w1.heap.size w1 w2 := hb
          replace B := Lib.hid (bl_thru B.out (Nat.le_refl _) S)
          replace V_m := Lib.hid (V_m.out.below S)
          have R_a := Lib.hid (rd_of (d := D_a) hv F_a.out)
          clear hb S hv
          go_wp2_with fail
          refine (HB.out _ (HT.out.below (by have := B.out; have := B.out.size; go_grown))).mono ?_
          rintro r w3 ⟨a_b, n_b, k_b, rfl, hv, hb⟩
          have S : Below w2.heap.size w2 w3 := bl_thru (by go_grown) (Nat.le_refl _) hb
          replace B := Lib.hid (bl_thru B.out (Nat.le_refl _) S)
          have X_a := Lib.hid ((Box.new w2 _ _ _ _).below hb)
          replace R_a := Lib.hid (R_a.out.below S)
          replace V_m := Lib.hid (V_m.out.below S)
          have R_b := Lib.hid (rd_of (d := D_b) hv F_b.out)
          clear hb S hv
          go_wp2_with fail
          refine (growLives_any _ (HT.out.below (by have := B.out; have := B.out.size; go_grown))).mono ?_
          rintro r w4 ⟨rfl, hb⟩
          have S : Below w3.heap.size w3 w4 := bl_thru (by go_grown) (Nat.le_refl _) hb
          replace B := Lib.hid (bl_thru B.out (Nat.le_refl _) S)
          replace X_a := Lib.hid (X_a.out.below S)
          have X_b := Lib.hid ((Box.new w3 _ _ _ _).below hb)
          replace R_a := Lib.hid (R_a.out.below S)
          replace R_b := Lib.hid (R_b.out.below S)
          replace V_m := Lib.hid (V_m.out.below S)
          clear hb S
          go_wp2_with (first | (go_at_call 56; (with_reducible refine (HFX.out _ _ _ (by simp)).mono ?_); rintro e w' ⟨rfl, rfl⟩) | (go_at_call 56; refine (HFL.out _ (by have := B.out; have := B.out.size; go_grown)).mono ?_; rintro e w' ⟨rfl, rfl⟩))
          refine (HC.out _ _ (HT.out.below (by have := B.out; have := B.out.size; go_grown)) (V_m.out.below (by go_grown))).mono ?_
          rintro r w5 ⟨a_c, n_c, k_c, rfl, hv, hb⟩
          have S : Below w4.heap.size w4 w5 := bl_thru (by go_grown) (Nat.le_refl _) hb
          replace B := Lib.hid (bl_thru B.out (Nat.le_refl _) S)
          clear X_a
          clear X_b
          clear R_a
          clear R_b
          clear V_m
          have R_c := Lib.hid (rd_of (d := D_c) hv F_c.out)
          clear hb S hv
          have d1 : (60 : Int) < (nm : Int) := by have := HN.out; have := C1.out; omega
          have d3 : ((nm : Int) == (l.length : Int) + 1) = true := by have := HN.out; have := C3.out; rw [beq_iff_eq]; omega
          have d4 : (nm : Int) ≤ 9223372036854775807 := by have := HN.out; have := C3.out; omega
          go_wp2_with fail
          go_ret
          exact ⟨rfl, (by have := B.out; have := B.out.size; go_grown)⟩
        · rw [c2] at HC
          rw [← e1, ← e2, ← e3 c2] at c4
          clear c2 e3 e1 e2 hu
          obtain ⟨D_a, hD_a⟩ : ∃ D, D = gvD l := ⟨_, rfl⟩
          obtain ⟨D_b, hD_b⟩ : ∃ D, D = ofD x := ⟨_, rfl⟩
          obtain ⟨D_c, hD_c⟩ : ∃ D, D = gvD (gaL l x) := ⟨_, rfl⟩
          rw [← hD_a] at HA F_a
          rw [← hD_b] at HB F_b
          rw [← hD_c] at HC F_c
          rw [← hD_a, ← hD_b, ← hD_c] at c4
          rw [← hD_a, ← hD_b] at hfit
          have HBS := Lib.hid (fun va vb vc vd w' h0 h1 h2 h3 h4 => bothSame_any va vb vc vd D_a D_b D_c nz w' h0 h1 h2 h3 h4 c4 hfit)
          have ok2m := ok2_mk
          clear hD_a hD_b hD_c c4 hfit
          obtain ⟨M, hM⟩ : ∃ M, M = gaL l x := ⟨_, rfl⟩
          rw [← hM] at HM HC c1 c3
          have C1 := Lib.hid c1
          have C3 := Lib.hid c3
          clear hM c1 c3
          go_enter Tryd.func15, Tryd.ntmps15
          go_wp2_with fail
          refine (HM.out _ HT.out (Below.refl _ _)).mono ?_
          rintro r w1 ⟨vm, rfl, hlm, hb⟩
          have S : Below w.heap.size w w1 := hb
          have B := Lib.hid S
          clear hb S
          obtain ⟨am, nm, cm, rfl, hnm⟩ := hlm.shape2
          have V_m := Lib.hid hlm
          have HN := Lib.hid hnm
          clear hlm hnm
          go_wp2_with fail
          refine (HA.out _ (HT.out.below B.out) B.out).mono ?_
          rintro r w2 ⟨a_a, n_a, k_a, rfl, hv, hb⟩
          have S : Below w1.heap.size w1 w2 := hb
          replace B := Lib.hid (bl_thru B.out (Nat.le_refl _) S)
          replace V_m := Lib.hid (V_m.out.below S)
          have R_a := Lib.hid (rd_of (d := D_a) hv F_a.out)
          clear hb S hv
          go_wp2_with fail
          refine (HB.out _ (HT.out.below (by have := B.out; have := B.out.size; go_grown))).mono ?_
          rintro r w3 ⟨a_b, n_b, k_b, rfl, hv, hb⟩
          have S : Below w2.heap.size w2 w3 := bl_thru (by go_grown) (Nat.le_refl _) hb
          replace B := Lib.hid (bl_thru B.out (Nat.le_refl _) S)
          have X_a := Lib.hid ((Box.new w2 _ _ _ _).below hb)
          replace R_a := Lib.hid (R_a.out.below S)
          replace V_m := Lib.hid (V_m.out.below S)
          have R_b := Lib.hid (rd_of (d := D_b) hv F_b.out)
          clear hb S hv
          go_wp2_with fail
          refine (growLives_any _ (HT.out.below (by have := B.out; have := B.out.size; go_grown))).mono ?_
          rintro r w4 ⟨rfl, hb⟩
          have S : Below w3.heap.size w3 w4 := bl_thru (by go_grown) (Nat.le_refl _) hb
          replace B := Lib.hid (bl_thru B.out (Nat.le_refl _) S)
          replace X_a := Lib.hid (X_a.out.below S)
          have X_b := Lib.hid ((Box.new w3 _ _ _ _).below hb)
          replace R_a := Lib.hid (R_a.out.below S)
          replace R_b := Lib.hid (R_b.out.below S)
          replace V_m := Lib.hid (V_m.out.below S)
          clear hb S
          go_wp2_with (first | (go_at_call 56; (with_reducible refine (HFX.out _ _ _ (by simp)).mono ?_); rintro e w' ⟨rfl, rfl⟩) | (go_at_call 56; refine (HFL.out _ (by have := B.out; have := B.out.size; go_grown)).mono ?_; rintro e w' ⟨rfl, rfl⟩))
          refine (HC.out _ _ (HT.out.below (by have := B.out; have := B.out.size; go_grown)) (V_m.out.below (by go_grown))).mono ?_
          rintro r w5 ⟨a_c, n_c, k_c, rfl, hv, hb⟩
          have S : Below w4.heap.size w4 w5 := bl_thru (by go_grown) (Nat.le_refl _) hb
          replace B := Lib.hid (bl_thru B.out (Nat.le_refl _) S)
          replace X_a := Lib.hid (X_a.out.below S)
          replace X_b := Lib.hid (X_b.out.below S)
          replace R_a := Lib.hid (R_a.out.below S)
          replace R_b := Lib.hid (R_b.out.below S)
          clear V_m
          have R_c := Lib.hid (rd_of (d := D_c) hv F_c.out)
          clear hb S hv
          have d1 : (nm : Int) ≤ 60 := by have := HN.out; have := C1.out; omega
          have d3 : (nm : Int) ≤ (l.length : Int) + 1 := by have := HN.out; have := C3.out; omega
          obtain ⟨c0_a, c1_a, c2_a, d0_a, d1_a, d2_a⟩ := X_a.out.cells
          have l_a := X_a.out.lt
          obtain ⟨c0_b, c1_b, c2_b, d0_b, d1_b, d2_b⟩ := X_b.out.cells
          have l_b := X_b.out.lt
          go_wp2_with (go_at_call 28; refine (ok_new2 _ _  _ _ (by simp)).mono ?_; rintro e w' ⟨rfl, rfl⟩)
          refine (HBS.out _ _ _ _ _ (HT.out.below (by have := B.out; have := B.out.size; go_grown)) (R_a.out.below (by go_grown)) (R_b.out.below (by go_grown)) (R_c.out.below (by go_grown)) (RD.zero _)).mono ?_
          rintro r w6 ⟨rfl, hb⟩
          have S : Below w5.heap.size w5 w6 := bl_thru (by go_grown) (Nat.le_refl _) hb
          replace B := Lib.hid (bl_thru B.out (Nat.le_refl _) S)
          clear X_a
          clear X_b
          clear R_a
          clear R_b
          clear R_c
          clear hb S c0_a c1_a c2_a d0_a d1_a d2_a l_a c0_b c1_b c2_b d0_b d1_b d2_b l_b
          go_wp2
          go_ret
          exact ⟨rfl, B.out⟩
      · rw [hfl] at HFL
        have HFL := Lib.hid HFL
        clear hg hvx hfx hfl he hu hlen HC F_c
        obtain ⟨D_a, hD_a⟩ : ∃ D, D = gvD l := ⟨_, rfl⟩
        obtain ⟨D_b, hD_b⟩ : ∃ D, D = ofD x := ⟨_, rfl⟩
        rw [← hD_a] at HA F_a
        rw [← hD_b] at HB F_b
        clear hD_a hD_b
        generalize gaL l x = M at *
        go_enter Tryd.func15, Tryd.ntmps15
        go_wp2_with fail
        refine (HM.out _ HT.out (Below.refl _ _)).mono ?_
        rintro r w1 ⟨vm, rfl, hlm, hb⟩
        have S : Below w.heap.size w w1 := hb
        have B := Lib.hid S
        clear hb S
        obtain ⟨am, nm, cm, rfl, hnm⟩ := hlm.shape2
        have V_m := Lib.hid hlm
        have HN := Lib.hid hnm
        clear hlm hnm
        go_wp2_with fail
        refine (HA.out _ (HT.out.below B.out) B.out).mono ?_
        rintro r w2 ⟨a_a, n_a, k_a, rfl, hv, hb⟩
        have S : Below w1.heap.size w1 w2 := hb
        replace B := Lib.hid (bl_thru B.out (Nat.le_refl _) S)
        replace V_m := Lib.hid (V_m.out.below S)
        have R_a := Lib.hid (rd_of (d := D_a) hv F_a.out)
        clear hb S hv
        go_wp2_with fail
        refine (HB.out _ (HT.out.below (by have := B.out; have := B.out.size; go_grown))).mono ?_
        rintro r w3 ⟨a_b, n_b, k_b, rfl, hv, hb⟩
        have S : Below w2.heap.size w2 w3 := bl_thru (by go_grown) (Nat.le_refl _) hb
        replace B := Lib.hid (bl_thru B.out (Nat.le_refl _) S)
        have X_a := Lib.hid ((Box.new w2 _ _ _ _).below hb)
        replace R_a := Lib.hid (R_a.out.below S)
        replace V_m := Lib.hid (V_m.out.below S)
        have R_b := Lib.hid (rd_of (d := D_b) hv F_b.out)
        clear hb S hv
        go_wp2_with fail
        refine (growLives_any _ (HT.out.below (by have := B.out; have := B.out.size; go_grown))).mono ?_
        rintro r w4 ⟨rfl, hb⟩
        have S : Below w3.heap.size w3 w4 := bl_thru (by go_grown) (Nat.le_refl _) hb
        replace B := Lib.hid (bl_thru B.out (Nat.le_refl _) S)
        replace X_a := Lib.hid (X_a.out.below S)
        have X_b := Lib.hid ((Box.new w3 _ _ _ _).below hb)
        replace R_a := Lib.hid (R_a.out.below S)
        replace R_b := Lib.hid (R_b.out.below S)
        replace V_m := Lib.hid (V_m.out.below S)
        clear hb S
        go_wp2_with (first | (go_at_call 56; (with_reducible refine (HFX.out _ _ _ (by simp)).mono ?_); rintro e w' ⟨rfl, rfl⟩) | (go_at_call 56; refine (HFL.out _ (by have := B.out; have := B.out.size; go_grown)).mono ?_; rintro e w' ⟨rfl, rfl⟩))
        go_ret
        exact ⟨rfl, (by have := B.out; have := B.out.size; go_grown)⟩
    · have HFX := Lib.hid (fun w T b hb => far_new1 x x0 x1 true hfx w T b hb)
      clear hg hvx hfx he hu hlen HC F_c HFL
      obtain ⟨D_a, hD_a⟩ : ∃ D, D = gvD l := ⟨_, rfl⟩
      obtain ⟨D_b, hD_b⟩ : ∃ D, D = ofD x := ⟨_, rfl⟩
      rw [← hD_a] at HA F_a
      rw [← hD_b] at HB F_b
      clear hD_a hD_b
      generalize gaL l x = M at *
      go_enter Tryd.func15, Tryd.ntmps15
      go_wp2_with fail
      refine (HM.out _ HT.out (Below.refl _ _)).mono ?_
      rintro r w1 ⟨vm, rfl, hlm, hb⟩
      have S : Below w.heap.size w w1 := hb
      have B := Lib.hid S
      clear hb S
      obtain ⟨am, nm, cm, rfl, hnm⟩ := hlm.shape2
      have V_m := Lib.hid hlm
      have HN := Lib.hid hnm
      clear hlm hnm
      go_wp2_with fail
      refine (HA.out _ (HT.out.below B.out) B.out).mono ?_
      rintro r w2 ⟨a_a, n_a, k_a, rfl, hv, hb⟩
      have S : Below w1.heap.size w1 w2 := hb
      replace B := Lib.hid (bl_thru B.out (Nat.le_refl _) S)
      replace V_m := Lib.hid (V_m.out.below S)
      have R_a := Lib.hid (rd_of (d := D_a) hv F_a.out)
      clear hb S hv
      go_wp2_with fail
      refine (HB.out _ (HT.out.below (by have := B.out; have := B.out.size; go_grown))).mono ?_
      rintro r w3 ⟨a_b, n_b, k_b, rfl, hv, hb⟩
      have S : Below w2.heap.size w2 w3 := bl_thru (by go_grown) (Nat.le_refl _) hb
      replace B := Lib.hid (bl_thru B.out (Nat.le_refl _) S)
      have X_a := Lib.hid ((Box.new w2 _ _ _ _).below hb)
      replace R_a := Lib.hid (R_a.out.below S)
      replace V_m := Lib.hid (V_m.out.below S)
      have R_b := Lib.hid (rd_of (d := D_b) hv F_b.out)
      clear hb S hv
      go_wp2_with fail
      refine (growLives_any _ (HT.out.below (by have := B.out; have := B.out.size; go_grown))).mono ?_
      rintro r w4 ⟨rfl, hb⟩
      have S : Below w3.heap.size w3 w4 := bl_thru (by go_grown) (Nat.le_refl _) hb
      replace B := Lib.hid (bl_thru B.out (Nat.le_refl _) S)
      replace X_a := Lib.hid (X_a.out.below S)
      have X_b := Lib.hid ((Box.new w3 _ _ _ _).below hb)
      replace R_a := Lib.hid (R_a.out.below S)
      replace R_b := Lib.hid (R_b.out.below S)
      replace V_m := Lib.hid (V_m.out.below S)
      clear hb S
      go_wp2_with (go_at_call 56; refine (HFX.out _ _ _ (by simp)).mono ?_; rintro e w' ⟨rfl, rfl⟩)
      go_ret
      exact ⟨rfl, (by have := B.out; have := B.out.size; go_grown)⟩
  · have heb : (gaE l x != 0) = true := by rw [bne_iff_ne]; exact he
    have e1 : gaL l x = [] := by unfold gaL; rw [if_neg he]
    rw [e1] at HM
    clear he e1 hu HC F_c HFL
    generalize gaE l x = E at *
    generalize gcE l = G at *
    obtain ⟨D_a, hD_a⟩ : ∃ D, D = gvD l := ⟨_, rfl⟩
    obtain ⟨D_b, hD_b⟩ : ∃ D, D = ofD x := ⟨_, rfl⟩
    rw [← hD_a] at HA F_a
    rw [← hD_b] at HB F_b
    clear hD_a hD_b
    generalize hasV x = hx at *
    go_enter Tryd.func15, Tryd.ntmps15
    go_wp2_with fail
    refine (HM.out _ HT.out (Below.refl _ _)).mono ?_
    rintro r w1 ⟨vm, rfl, hlm, hb⟩
    have S : Below w.heap.size w w1 := hb
    have B := Lib.hid S
    clear hb S
    obtain ⟨am, nm, cm, rfl, hnm⟩ := hlm.shape2
    have V_m := Lib.hid hlm
    have HN := Lib.hid hnm
    clear hlm hnm
    go_wp2_with fail
    refine (HA.out _ (HT.out.below B.out) B.out).mono ?_
    rintro r w2 ⟨a_a, n_a, k_a, rfl, hv, hb⟩
    have S : Below w1.heap.size w1 w2 := hb
    replace B := Lib.hid (bl_thru B.out (Nat.le_refl _) S)
    replace V_m := Lib.hid (V_m.out.below S)
    have R_a := Lib.hid (rd_of (d := D_a) hv F_a.out)
    clear hb S hv
    go_wp2_with fail
    refine (HB.out _ (HT.out.below (by have := B.out; have := B.out.size; go_grown))).mono ?_
    rintro r w3 ⟨a_b, n_b, k_b, rfl, hv, hb⟩
    have S : Below w2.heap.size w2 w3 := bl_thru (by go_grown) (Nat.le_refl _) hb
    replace B := Lib.hid (bl_thru B.out (Nat.le_refl _) S)
    have X_a := Lib.hid ((Box.new w2 _ _ _ _).below hb)
    replace R_a := Lib.hid (R_a.out.below S)
    replace V_m := Lib.hid (V_m.out.below S)
    have R_b := Lib.hid (rd_of (d := D_b) hv F_b.out)
    clear hb S hv
    go_wp2_with fail
    refine (growLives_any _ (HT.out.below (by have := B.out; have := B.out.size; go_grown))).mono ?_
    rintro r w4 ⟨rfl, hb⟩
    have S : Below w3.heap.size w3 w4 := bl_thru (by go_grown) (Nat.le_refl _) hb
    replace B := Lib.hid (bl_thru B.out (Nat.le_refl _) S)
    replace X_a := Lib.hid (X_a.out.below S)
    have X_b := Lib.hid ((Box.new w3 _ _ _ _).below hb)
    replace R_a := Lib.hid (R_a.out.below S)
    replace R_b := Lib.hid (R_b.out.below S)
    replace V_m := Lib.hid (V_m.out.below S)
    clear hb S
    have dz : ((nm : Int) == 0) = true := by have := HN.out; simp at this; rw [beq_iff_eq]; omega
    go_wp2_with fail
    refine (growLives_any _ (HT.out.below B.out)).mono ?_
    rintro r w5 ⟨rfl, hb⟩
    have S : Below w4.heap.size w4 w5 := hb
    replace B := Lib.hid (bl_thru B.out (Nat.le_refl _) S)
    replace X_a := Lib.hid (X_a.out.below S)
    replace X_b := Lib.hid (X_b.out.below S)
    replace R_a := Lib.hid (R_a.out.below S)
    replace R_b := Lib.hid (R_b.out.below S)
    replace V_m := Lib.hid (V_m.out.below S)
    clear hb S
    go_wp2
    go_ret
    exact ⟨rfl, B.out⟩
end Go.Proofs.YtapdjclhpcakeaaDoor
