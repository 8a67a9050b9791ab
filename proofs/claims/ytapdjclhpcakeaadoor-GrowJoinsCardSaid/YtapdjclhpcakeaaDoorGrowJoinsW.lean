/-
  THE WALK of the law GrowJoins.
-/
import Derived.Test.YtapdjclhpcakeaaDoorGj
import Derived.Test.YtapdjclhpcakeaaDoorGt
import Derived.Test.YtapdjclhpcakeaaDoorBx
set_option linter.unusedVariables false
set_option linter.unusedSimpArgs false
namespace Go.Proofs.YtapdjclhpcakeaaDoor
open Go.RowKit Nt Fm Fl

theorem sumD_fit {l : List Int} (hu : ∀ x ∈ l, 0 ≤ x ∧ x ≤ 18446744073709551615) (hl : l.length ≤ 1000) : Fit (sumD l) := by
  have h := sumD_sml l hu l.length (Nat.le_refl _)
  rw [List.take_length] at h
  obtain ⟨⟨q, hq, hm⟩, e0, e1⟩ := h.bds (by omega)
  exact fit_of h.1 (by omega) hm (by omega) (by omega)
theorem gvD_fit {l : List Int} (hu : ∀ x ∈ l, 0 ≤ x ∧ x ≤ 18446744073709551615) : Fit (gvD l) := by
  unfold gvD; split
  · rename_i h; exact sumD_fit hu (by have := gcE_len' h; omega)
  · exact Fit.nz
theorem LU.shape2 {w : World} {v : Value} {l : List Int} (h : LU w v l) : ∃ (ao : Option Addr) (n c : Nat), v = .slice ao n c ∧ n = l.length := by
  obtain ⟨_, ao, c, h, _⟩ := h; exact ⟨ao, _, c, h, rfl⟩
theorem far_new1 (x : Int) (x0 : 0 ≤ x) (x1 : x ≤ 18446744073709551615) (B : Bool) (hB : farB [x] = B) (w : World) (T : TypeId) (b : Nat) (hb : b = w.heap.size) :
    Calls Tryd.prog 56 #[.slice (some ⟨b, 0, none⟩) 1 1] (w.alloc (.cells #[.int .u64 x] T)) fun e w' => e = .returned (.bool B) ∧ w.alloc (.cells #[.int .u64 x] T) = w' := by
  subst hb hB
  exact far_any _ [x] _ (one_lu w x T x0 x1)
theorem far_no1 {x : Int} (h : farB [x] = false) : ¬ 1923 ≤ fexp x := by unfold farB at h; simpa using h
theorem far_noL {l : List Int} (h : farB l = false) : ∀ i, i < l.length → ¬ 1923 ≤ fexp (l.getD i 0) := by
  intro i hi
  unfold farB at h
  rw [List.any_eq_false] at h
  have := h (l.getD i 0) (by simp [List.getD, hi])
  simpa using this
theorem gaE_ok {l : List Int} {x : Int} (h : gaE l x = 0) : gcE l = 0 ∧ hasV x = true := by
  unfold gaE at h
  by_cases hg : gcE l = 0
  · rw [if_pos hg] at h
    cases hv : hasV x
    · rw [hv, if_neg (by decide)] at h; omega
    · exact ⟨hg, rfl⟩
  · rw [if_neg hg] at h; exact absurd h hg
theorem sumD_vlS {l : List Int} (hu : ∀ x ∈ l, 0 ≤ x ∧ x ≤ 18446744073709551615) (hn : Nov l) : (sumD l).vl 1074 = ssum l ∧ 0 ≤ (sumD l).e + ((1074 : Nat) : Int) := by
  have := sumD_ss l hu (fun i hi => (hn.val i hi).1) l.length (Nat.le_refl _)
  rw [List.take_length] at this; exact this
theorem near_list {l : List Int} (hu : ∀ x ∈ l, 0 ≤ x ∧ x ≤ 18446744073709551615) (hf : farB l = false) : ∀ i, i < l.length → (smag (l.getD i 0)).natAbs < Ep.P 1975 := by
  intro i hi
  have b := getD_bd hu i
  have := near_bd (far_noL hf i hi) b.1 b.2
  have p : Ep.P 1975 = 2 * Ep.P 1974 := Ep.P_succ 1974
  have := Ep.P_pos 1974
  omega
theorem growExact_a' {l : List Int} {x : Int} (hu : ∀ d ∈ l, 0 ≤ d ∧ d ≤ 18446744073709551615) (x0 : 0 ≤ x) (x1 : x ≤ 18446744073709551615) (he : gaE l x = 0) (hx : farB [x] = false) (hl : farB l = false) :
    (60 < (gaL l x).length ∧ gcE (gaL l x) = 2 ∧ (gaL l x).length = l.length + 1) ∨ ((gaL l x).length ≤ 60 ∧ gcE (gaL l x) = 0 ∧ (gaL l x).length ≤ l.length + 1 ∧ plus (sumD l) (valD x) = plus (sumD (gaL l x)) nz) := by
  obtain ⟨hg, hv⟩ := gaE_ok he
  obtain ⟨-, h2, h3, -, h5⟩ := grow_law hu x0 x1 hg hv (n := 1975) (by decide) (by decide) (near_list hu hl) (near_bd (far_no1 hx) x0 x1)
  have hlen := gcE_len' hg
  have hm := gaL_mem (l := l) hu x0 x1
  by_cases h6 : 60 < (gaL l x).length
  · left; exact ⟨h6, by unfold gcE; rw [if_pos h6], by omega⟩
  · right
    refine ⟨by omega, good_of_nov hm h2 (by omega), h5, ?_⟩
    obtain ⟨a1, a2⟩ := sumD_vlS hu (nov_of_good hu hg)
    obtain ⟨b1, b2⟩ := sumD_vlS hm h2
    have ex := valD_e x0 x1
    obtain ⟨k1, k2⟩ := plus_nzr_vl b2
    refine nf_inj (plus_Nf _ _) (plus_Nf _ _) (T := 1074) (plus_eT a2 ex) k2 ?_
    rw [k1, plus_vl _ _ _ a2 ex, a1, b1, valD_sm x0 x1 (hasV_lt hv), h3]; omega
theorem sum1_fit {l : List Int} {x : Int} (hu : ∀ d ∈ l, 0 ≤ d ∧ d ≤ 18446744073709551615) (hl : l.length ≤ 1000) (x0 : 0 ≤ x) (x1 : x ≤ 18446744073709551615) : Fit (plus (sumD l) (valD x)) := by
  have h := sumD_sml l hu l.length (Nat.le_refl _)
  rw [List.take_length] at h
  have h := h.plus (valD_sml x x0 x1)
  obtain ⟨⟨q, hq, hm⟩, e0, e1⟩ := h.bds (by omega)
  exact fit_of h.1 (by omega) hm (by omega) (by omega)
theorem near_le {l : List Int} (hu : ∀ x ∈ l, 0 ≤ x ∧ x ≤ 18446744073709551615) (hf : farB l = false) : ∀ i, i < l.length → (smag (l.getD i 0)).natAbs ≤ Ep.P 1974 := by
  intro i hi
  have b := getD_bd hu i
  exact near_bd (far_noL hf i hi) b.1 b.2
theorem sum2_fit {a b : List Int} (hu : ∀ d ∈ a, 0 ≤ d ∧ d ≤ 18446744073709551615) (hl : a.length ≤ 1000) (hu2 : ∀ d ∈ b, 0 ≤ d ∧ d ≤ 18446744073709551615) (hl2 : b.length ≤ 1000) : Fit (plus (sumD a) (sumD b)) := by
  have h := sumD_sml a hu a.length (Nat.le_refl _)
  have h2 := sumD_sml b hu2 b.length (Nat.le_refl _)
  rw [List.take_length] at h h2
  have h := h.plus h2
  obtain ⟨⟨q, hq, hm⟩, e0, e1⟩ := h.bds (by omega)
  exact fit_of h.1 (by omega) hm (by omega) (by omega)
theorem joL_mem {a b : List Int} (ha : ∀ d ∈ a, 0 ≤ d ∧ d ≤ 18446744073709551615) (hb : ∀ d ∈ b, 0 ≤ d ∧ d ≤ 18446744073709551615) : ∀ d ∈ joL a b, 0 ≤ d ∧ d ≤ 18446744073709551615 := by
  unfold joL; split
  · exact jo_mem ha hb _
  · intro d hd; cases hd
theorem growJoins_a {a b : List Int} (ha : ∀ d ∈ a, 0 ≤ d ∧ d ≤ 18446744073709551615) (hb : ∀ d ∈ b, 0 ≤ d ∧ d ≤ 18446744073709551615) (he : joE a b = 0) (fa : farB a = false) (fb : farB b = false) :
    gcE a = 0 ∧ gcE b = 0 ∧ gcE (joL a b) = 0 ∧ plus (sumD a) (sumD b) = plus (sumD (joL a b)) nz ∧ (joE b a = 0 → gcE (joL b a) = 0 ∧ sumD (joL b a) = sumD (joL a b)) := by
  obtain ⟨g1, g2, g3, g4, g5⟩ := join_law ha hb he (near_le ha fa) (near_le hb fb)
  have hm := jo_mem ha hb b.length
  obtain ⟨a1, a2⟩ := sumD_vlS ha (nov_of_good ha g1)
  obtain ⟨b1, b2⟩ := sumD_vlS hb (nov_of_good hb g2)
  obtain ⟨c1, c2⟩ := sumD_vlS hm (nov_of_good hm g4)
  rw [g3]
  refine ⟨g1, g2, g4, ?_, fun h2 => ?_⟩
  · obtain ⟨k1, k2⟩ := plus_nzr_vl c2
    refine nf_inj (plus_Nf _ _) (plus_Nf _ _) (T := 1074) (plus_eT a2 b2) k2 ?_
    rw [k1, plus_vl _ _ _ a2 b2, a1, b1, c1, g5]
  · obtain ⟨-, -, f3, f4, f5⟩ := join_law hb ha h2 (near_le hb fb) (near_le ha fa)
    have hm2 := jo_mem hb ha a.length
    obtain ⟨d1, d2⟩ := sumD_vlS hm2 (nov_of_good hm2 f4)
    rw [f3]
    exact ⟨f4, nf_inj (sumD_nf _) (sumD_nf _) (T := 1074) d2 c2 (by rw [d1, c1, f5, g5]; omega)⟩
theorem joE_ok {a b : List Int} (h : joE a b ≠ 0) : joL a b = [] := by unfold joL; rw [if_neg h]
set_option maxRecDepth 100000 in
set_option maxHeartbeats 16000000 in
theorem walkGrowJoins (va : Value) (a : List Int) (vb : Value) (b : List Int) (w : World) (hT : Tab w) (hva : LU w va a) (hra : a.length * 8 ≤ 140737488351232) (hvb : LU w vb b) (hrb : b.length * 8 ≤ 140737488351232) :
    Calls Tryd.prog 18 #[va, vb] w fun e w' => e = .returned (.bool true) ∧ Below w.heap.size w w' := by
  have hu := hva.1
  have hu2 := hvb.1
  have HJ := Lib.hid (fun w' h0 hb => join_any va vb a b w' h0 (hva.below hb) (hvb.below hb))
  have HJ2 := Lib.hid (fun w' h0 hb => join_any vb va b a w' h0 (hvb.below hb) (hva.below hb))
  have HX := Lib.hid (fun w' h0 hb => gValue_any va a w' h0 (hva.below hb))
  have HY := Lib.hid (fun w' h0 hb => gValue_any vb b w' h0 (hvb.below hb))
  have HFA := fun w' hb => far_any va a w' (hva.below hb)
  have HFB := fun w' hb => far_any vb b w' (hvb.below hb)
  have HZ := Lib.hid (fun v w' h0 h1 => gValue_any v (joL a b) w' h0 h1)
  have HW := Lib.hid (fun v w' h0 h1 => gValue_any v (joL b a) w' h0 h1)
  have F_x := Lib.hid (gvD_fit hu)
  have F_y := Lib.hid (gvD_fit hu2)
  have F_z := Lib.hid (gvD_fit (joL_mem hu hu2))
  have F_w := Lib.hid (gvD_fit (joL_mem hu2 hu))
  obtain ⟨-, aa, ca, rfl, hcapa, hmxa, -⟩ := hva
  obtain ⟨-, ab, cb, rfl, hcapb, hmxb, -⟩ := hvb
  unfold maxLen at hmxa hmxb
  have HT := Lib.hid hT
  clear hT hra hrb
  by_cases he : joE a b = 0
  · rw [he] at HJ
    cases hfa : farB a
    · cases hfb : farB b
      · rw [hfa] at HFA
        rw [hfb] at HFB
        have HFA := Lib.hid HFA
        have HFB := Lib.hid HFB
        obtain ⟨g1, g2, g3, g4, g5⟩ := growJoins_a hu hu2 he hfa hfb
        have hfit := sum2_fit hu (by have := gcE_len' g1; omega) hu2 (by have := gcE_len' g2; omega)
        have e1 : gvD a = sumD a := by unfold gvD; rw [if_pos g1]
        have e2 : gvD b = sumD b := by unfold gvD; rw [if_pos g2]
        have e3 : gvD (joL a b) = sumD (joL a b) := by unfold gvD; rw [if_pos g3]
        rw [← e1, ← e2] at hfit g4
        rw [← e3] at g4
        rw [g1] at HX
        rw [g2] at HY
        rw [g3] at HZ
        obtain ⟨D_x, hD_x⟩ : ∃ D, D = gvD a := ⟨_, rfl⟩
        obtain ⟨D_y, hD_y⟩ : ∃ D, D = gvD b := ⟨_, rfl⟩
        rw [← hD_x] at HX F_x
        rw [← hD_y] at HY F_y
        obtain ⟨D_z, hD_z⟩ : ∃ D, D = gvD (joL a b) := ⟨_, rfl⟩
        rw [← hD_z] at HZ F_z
        rw [← hD_x, ← hD_y] at hfit
        rw [← hD_x, ← hD_y, ← hD_z] at g4
        have HBS := Lib.hid (fun va vb vc vd w' h0 h1 h2 h3 h4 => bothSame_any va vb vc vd D_x D_y D_z nz w' h0 h1 h2 h3 h4 g4 hfit)
        have ok3m := ok3_mk
        by_cases h2 : joE b a = 0
        · obtain ⟨f1, f2⟩ := g5 h2
          have e4 : gvD (joL b a) = D_z := by rw [hD_z, e3]; unfold gvD; rw [if_pos f1, f2]
          rw [h2] at HJ2
          rw [f1] at HW
          rw [e4] at HW F_w
          have ok1m := ok1_mk
          clear f1 f2 e4 g1 g2 g3 g4 g5 e1 e2 e3 hfit hD_x hD_y hD_z hu hu2 hfa hfb he h2
          generalize joL b a = M2 at *
          generalize joL a b = M at *
          obtain ⟨D_w, hD_w⟩ : ∃ D, D = D_z := ⟨_, rfl⟩
          rw [← hD_w] at F_w HW
          have HS : Hid (∀ v1 v2 w', DV w' v1 D_w → DV w' v2 D_z → Calls Tryd.prog 62 #[v1, v2] w' fun r w'' => r = .returned (.bool true) ∧ Below w'.heap.size w' w'') := Lib.hid (fun v1 v2 w' h1 h2 => same_self v1 v2 D_z w' (by rw [hD_w] at h1; exact h1) h2)
          clear hD_w
          go_enter Tryd.func18, Tryd.ntmps18
          go_wp2_with fail
          refine (HJ.out _ HT.out (Below.refl _ _)).mono ?_
          rintro r w1 ⟨vl, rfl, hll, hb⟩
          have S : Below w.heap.size w w1 := hb
          have B := Lib.hid S
          clear hb S
          obtain ⟨al, nl, cl, rfl, hnl⟩ := hll.shape2
          have V_l := Lib.hid hll
          have HN := Lib.hid hnl
          clear hll hnl
          go_wp2_with fail
          refine (HX.out _ (HT.out.below B.out) B.out).mono ?_
          rintro r w2 ⟨a_x, n_x, k_x, rfl, hv, hb⟩
          have S : Below w1.heap.size w1 w2 := hb
          replace B := Lib.hid (bl_thru B.out (Nat.le_refl _) S)
          replace V_l := Lib.hid (V_l.out.below S)
          have R_x := Lib.hid (rd_of (d := D_x) hv F_x.out)
          clear hb S hv
          go_wp2_with fail
          refine (HY.out _ (HT.out.below (by have := B.out; have := B.out.size; go_grown)) (by have := B.out; have := B.out.size; go_grown)).mono ?_
          rintro r w3 ⟨a_y, n_y, k_y, rfl, hv, hb⟩
          have S : Below w2.heap.size w2 w3 := bl_thru (by go_grown) (Nat.le_refl _) hb
          replace B := Lib.hid (bl_thru B.out (Nat.le_refl _) S)
          have X_x := Lib.hid ((Box.new w2 _ _ _ _).below hb)
          replace R_x := Lib.hid (R_x.out.below S)
          replace V_l := Lib.hid (V_l.out.below S)
          have R_y := Lib.hid (rd_of (d := D_y) hv F_y.out)
          clear hb S hv
          go_wp2_with fail
          refine (growLives_any _ (HT.out.below (by have := B.out; have := B.out.size; go_grown))).mono ?_
          rintro r w4 ⟨rfl, hb⟩
          have S : Below w3.heap.size w3 w4 := bl_thru (by go_grown) (Nat.le_refl _) hb
          replace B := Lib.hid (bl_thru B.out (Nat.le_refl _) S)
          replace X_x := Lib.hid (X_x.out.below S)
          have X_y := Lib.hid ((Box.new w3 _ _ _ _).below hb)
          replace R_x := Lib.hid (R_x.out.below S)
          replace R_y := Lib.hid (R_y.out.below S)
          replace V_l := Lib.hid (V_l.out.below S)
          clear hb S
          go_wp2_with (first | (go_at_call 56; (with_reducible refine (HFA.out _ B.out).mono ?_); rintro e w' ⟨rfl, rfl⟩) | (go_at_call 56; (with_reducible refine (HFB.out _ B.out).mono ?_); rintro e w' ⟨rfl, rfl⟩))
          refine (HZ.out _ _ (HT.out.below B.out) V_l.out).mono ?_
          rintro r w5 ⟨a_z, n_z, k_z, rfl, hv, hb⟩
          have S : Below w4.heap.size w4 w5 := hb
          replace B := Lib.hid (bl_thru B.out (Nat.le_refl _) S)
          replace X_x := Lib.hid (X_x.out.below S)
          replace X_y := Lib.hid (X_y.out.below S)
          replace R_x := Lib.hid (R_x.out.below S)
          replace R_y := Lib.hid (R_y.out.below S)
          clear V_l
          have R_z := Lib.hid (rd_of (d := D_z) hv F_z.out)
          clear hb S hv
          obtain ⟨c0_x, c1_x, c2_x, d0_x, d1_x, d2_x⟩ := X_x.out.cells
          have l_x := X_x.out.lt
          obtain ⟨c0_y, c1_y, c2_y, d0_y, d1_y, d2_y⟩ := X_y.out.cells
          have l_y := X_y.out.lt
          go_wp2_with (go_at_call 28; refine (ok_new3 _ _ _  _ _ (by simp)).mono ?_; rintro e w' ⟨rfl, rfl⟩)
          refine (HBS.out _ _ _ _ _ (HT.out.below (by have := B.out; have := B.out.size; go_grown)) (R_x.out.below (by go_grown)) (R_y.out.below (by go_grown)) (R_z.out.below (by go_grown)) (RD.zero _)).mono ?_
          rintro r w6 ⟨rfl, hb⟩
          have S : Below w5.heap.size w5 w6 := bl_thru (by go_grown) (Nat.le_refl _) hb
          replace B := Lib.hid (bl_thru B.out (Nat.le_refl _) S)
          clear X_x
          clear X_y
          have X_z := Lib.hid (((Box.new w5 _ _ _ _).alloc _).below hb)
          clear R_x
          clear R_y
          replace R_z := Lib.hid (R_z.out.below S)
          clear hb S c0_x c1_x c2_x d0_x d1_x d2_x l_x c0_y c1_y c2_y d0_y d1_y d2_y l_y
          go_wp2_with fail
          refine (HJ2.out _ (HT.out.below B.out) B.out).mono ?_
          rintro r w7 ⟨vm, rfl, hlm, hb⟩
          have S : Below w6.heap.size w6 w7 := hb
          replace B := Lib.hid (bl_thru B.out (Nat.le_refl _) S)
          replace X_z := Lib.hid (X_z.out.below S)
          replace R_z := Lib.hid (R_z.out.below S)
          clear hb S
          obtain ⟨am, nm, cm, rfl, hnm⟩ := hlm.shape2
          have V_m := Lib.hid hlm
          clear hlm hnm
          go_wp2_with fail
          refine (HW.out _ _ (HT.out.below B.out) V_m.out).mono ?_
          rintro r w8 ⟨a_w, n_w, k_w, rfl, hv, hb⟩
          have S : Below w7.heap.size w7 w8 := hb
          replace B := Lib.hid (bl_thru B.out (Nat.le_refl _) S)
          replace X_z := Lib.hid (X_z.out.below S)
          replace R_z := Lib.hid (R_z.out.below S)
          clear V_m
          have R_w := Lib.hid (rd_of (d := D_w) hv F_w.out)
          clear hb S hv
          obtain ⟨c0_z, c1_z, c2_z, d0_z, d1_z, d2_z⟩ := X_z.out.cells
          have l_z := X_z.out.lt
          go_wp2_with (go_at_call 28; refine (ok_new1 _  _ _ (by simp)).mono ?_; rintro e w' ⟨rfl, rfl⟩)
          refine (HS.out _ _ _ (R_w.out.below (by go_grown)).dv (R_z.out.below (by go_grown)).dv).mono ?_
          rintro r w9 ⟨rfl, hb⟩
          have S : Below w8.heap.size w8 w9 := bl_thru (by go_grown) (Nat.le_refl _) hb
          replace B := Lib.hid (bl_thru B.out (Nat.le_refl _) S)
          clear X_z
          clear R_z
          clear R_w
          clear hb S c0_z c1_z c2_z d0_z d1_z d2_z l_z
          go_wp2
          go_ret
          exact ⟨rfl, B.out⟩
        · have hok : ok1 (joE b a) = false := by unfold ok1; exact beq_eq_false_iff_ne.2 h2
          obtain ⟨D_w, hD_w⟩ : ∃ D, D = gvD (joL b a) := ⟨_, rfl⟩
          rw [← hD_w] at HW F_w
          clear hD_w g1 g2 g3 g4 g5 e1 e2 e3 hfit hD_x hD_y hD_z hu hu2 hfa hfb he h2
          generalize gcE (joL b a) = G2 at *
          generalize joL b a = M2 at *
          generalize joL a b = M at *
          generalize joE b a = E2 at *
          go_enter Tryd.func18, Tryd.ntmps18
          go_wp2_with fail
          refine (HJ.out _ HT.out (Below.refl _ _)).mono ?_
          rintro r w1 ⟨vl, rfl, hll, hb⟩
          have S : Below w.heap.size w w1 := hb
          have B := Lib.hid S
          clear hb S
          obtain ⟨al, nl, cl, rfl, hnl⟩ := hll.shape2
          have V_l := Lib.hid hll
          have HN := Lib.hid hnl
          clear hll hnl
          go_wp2_with fail
          refine (HX.out _ (HT.out.below B.out) B.out).mono ?_
          rintro r w2 ⟨a_x, n_x, k_x, rfl, hv, hb⟩
          have S : Below w1.heap.size w1 w2 := hb
          replace B := Lib.hid (bl_thru B.out (Nat.le_refl _) S)
          replace V_l := Lib.hid (V_l.out.below S)
          have R_x := Lib.hid (rd_of (d := D_x) hv F_x.out)
          clear hb S hv
          go_wp2_with fail
          refine (HY.out _ (HT.out.below (by have := B.out; have := B.out.size; go_grown)) (by have := B.out; have := B.out.size; go_grown)).mono ?_
          rintro r w3 ⟨a_y, n_y, k_y, rfl, hv, hb⟩
          have S : Below w2.heap.size w2 w3 := bl_thru (by go_grown) (Nat.le_refl _) hb
          replace B := Lib.hid (bl_thru B.out (Nat.le_refl _) S)
          have X_x := Lib.hid ((Box.new w2 _ _ _ _).below hb)
          replace R_x := Lib.hid (R_x.out.below S)
          replace V_l := Lib.hid (V_l.out.below S)
          have R_y := Lib.hid (rd_of (d := D_y) hv F_y.out)
          clear hb S hv
          go_wp2_with fail
          refine (growLives_any _ (HT.out.below (by have := B.out; have := B.out.size; go_grown))).mono ?_
          rintro r w4 ⟨rfl, hb⟩
          have S : Below w3.heap.size w3 w4 := bl_thru (by go_grown) (Nat.le_refl _) hb
          replace B := Lib.hid (bl_thru B.out (Nat.le_refl _) S)
          replace X_x := Lib.hid (X_x.out.below S)
          have X_y := Lib.hid ((Box.new w3 _ _ _ _).below hb)
          replace R_x := Lib.hid (R_x.out.below S)
          replace R_y := Lib.hid (R_y.out.below S)
          replace V_l := Lib.hid (V_l.out.below S)
          clear hb S
          go_wp2_with (first | (go_at_call 56; (with_reducible refine (HFA.out _ B.out).mono ?_); rintro e w' ⟨rfl, rfl⟩) | (go_at_call 56; (with_reducible refine (HFB.out _ B.out).mono ?_); rintro e w' ⟨rfl, rfl⟩))
          refine (HZ.out _ _ (HT.out.below B.out) V_l.out).mono ?_
          rintro r w5 ⟨a_z, n_z, k_z, rfl, hv, hb⟩
          have S : Below w4.heap.size w4 w5 := hb
          replace B := Lib.hid (bl_thru B.out (Nat.le_refl _) S)
          replace X_x := Lib.hid (X_x.out.below S)
          replace X_y := Lib.hid (X_y.out.below S)
          replace R_x := Lib.hid (R_x.out.below S)
          replace R_y := Lib.hid (R_y.out.below S)
          clear V_l
          have R_z := Lib.hid (rd_of (d := D_z) hv F_z.out)
          clear hb S hv
          obtain ⟨c0_x, c1_x, c2_x, d0_x, d1_x, d2_x⟩ := X_x.out.cells
          have l_x := X_x.out.lt
          obtain ⟨c0_y, c1_y, c2_y, d0_y, d1_y, d2_y⟩ := X_y.out.cells
          have l_y := X_y.out.lt
          go_wp2_with (go_at_call 28; refine (ok_new3 _ _ _  _ _ (by simp)).mono ?_; rintro e w' ⟨rfl, rfl⟩)
          refine (HBS.out _ _ _ _ _ (HT.out.below (by have := B.out; have := B.out.size; go_grown)) (R_x.out.below (by go_grown)) (R_y.out.below (by go_grown)) (R_z.out.below (by go_grown)) (RD.zero _)).mono ?_
          rintro r w6 ⟨rfl, hb⟩
          have S : Below w5.heap.size w5 w6 := bl_thru (by go_grown) (Nat.le_refl _) hb
          replace B := Lib.hid (bl_thru B.out (Nat.le_refl _) S)
          clear X_x
          clear X_y
          have X_z := Lib.hid (((Box.new w5 _ _ _ _).alloc _).below hb)
          clear R_x
          clear R_y
          replace R_z := Lib.hid (R_z.out.below S)
          clear hb S c0_x c1_x c2_x d0_x d1_x d2_x l_x c0_y c1_y c2_y d0_y d1_y d2_y l_y
          go_wp2_with fail
          refine (HJ2.out _ (HT.out.below B.out) B.out).mono ?_
          rintro r w7 ⟨vm, rfl, hlm, hb⟩
          have S : Below w6.heap.size w6 w7 := hb
          replace B := Lib.hid (bl_thru B.out (Nat.le_refl _) S)
          replace X_z := Lib.hid (X_z.out.below S)
          replace R_z := Lib.hid (R_z.out.below S)
          clear hb S
          obtain ⟨am, nm, cm, rfl, hnm⟩ := hlm.shape2
          have V_m := Lib.hid hlm
          clear hlm hnm
          go_wp2_with fail
          refine (HW.out _ _ (HT.out.below B.out) V_m.out).mono ?_
          rintro r w8 ⟨a_w, n_w, k_w, rfl, hv, hb⟩
          have S : Below w7.heap.size w7 w8 := hb
          replace B := Lib.hid (bl_thru B.out (Nat.le_refl _) S)
          replace X_z := Lib.hid (X_z.out.below S)
          replace R_z := Lib.hid (R_z.out.below S)
          clear V_m
          have R_w := Lib.hid (rd_of (d := D_w) hv F_w.out)
          clear hb S hv
          obtain ⟨c0_z, c1_z, c2_z, d0_z, d1_z, d2_z⟩ := X_z.out.cells
          have l_z := X_z.out.lt
          go_wp2_with (go_at_call 28; refine (ok_new1 _  _ _ (by simp)).mono ?_; rintro e w' ⟨rfl, rfl⟩)
          go_ret
          exact ⟨rfl, (by have := B.out; have := B.out.size; go_grown)⟩
      · rw [hfa] at HFA
        rw [hfb] at HFB
        have HFA := Lib.hid HFA
        have HFB := Lib.hid HFB
        clear HJ2 HZ HW F_z F_w hu hu2 he hfa hfb
        obtain ⟨D_x, hD_x⟩ : ∃ D, D = gvD a := ⟨_, rfl⟩
        obtain ⟨D_y, hD_y⟩ : ∃ D, D = gvD b := ⟨_, rfl⟩
        rw [← hD_x] at HX F_x
        rw [← hD_y] at HY F_y
        clear hD_x hD_y
        generalize gcE a = Ea at *
        generalize gcE b = Eb at *
        generalize joL a b = M at *
        go_enter Tryd.func18, Tryd.ntmps18
        go_wp2_with fail
        refine (HJ.out _ HT.out (Below.refl _ _)).mono ?_
        rintro r w1 ⟨vl, rfl, hll, hb⟩
        have S : Below w.heap.size w w1 := hb
        have B := Lib.hid S
        clear hb S
        obtain ⟨al, nl, cl, rfl, hnl⟩ := hll.shape2
        have V_l := Lib.hid hll
        have HN := Lib.hid hnl
        clear hll hnl
        go_wp2_with fail
        refine (HX.out _ (HT.out.below B.out) B.out).mono ?_
        rintro r w2 ⟨a_x, n_x, k_x, rfl, hv, hb⟩
        have S : Below w1.heap.size w1 w2 := hb
        replace B := Lib.hid (bl_thru B.out (Nat.le_refl _) S)
        replace V_l := Lib.hid (V_l.out.below S)
        have R_x := Lib.hid (rd_of (d := D_x) hv F_x.out)
        clear hb S hv
        go_wp2_with fail
        refine (HY.out _ (HT.out.below (by have := B.out; have := B.out.size; go_grown)) (by have := B.out; have := B.out.size; go_grown)).mono ?_
        rintro r w3 ⟨a_y, n_y, k_y, rfl, hv, hb⟩
        have S : Below w2.heap.size w2 w3 := bl_thru (by go_grown) (Nat.le_refl _) hb
        replace B := Lib.hid (bl_thru B.out (Nat.le_refl _) S)
        have X_x := Lib.hid ((Box.new w2 _ _ _ _).below hb)
        replace R_x := Lib.hid (R_x.out.below S)
        replace V_l := Lib.hid (V_l.out.below S)
        have R_y := Lib.hid (rd_of (d := D_y) hv F_y.out)
        clear hb S hv
        go_wp2_with fail
        refine (growLives_any _ (HT.out.below (by have := B.out; have := B.out.size; go_grown))).mono ?_
        rintro r w4 ⟨rfl, hb⟩
        have S : Below w3.heap.size w3 w4 := bl_thru (by go_grown) (Nat.le_refl _) hb
        replace B := Lib.hid (bl_thru B.out (Nat.le_refl _) S)
        replace X_x := Lib.hid (X_x.out.below S)
        have X_y := Lib.hid ((Box.new w3 _ _ _ _).below hb)
        replace R_x := Lib.hid (R_x.out.below S)
        replace R_y := Lib.hid (R_y.out.below S)
        replace V_l := Lib.hid (V_l.out.below S)
        clear hb S
        go_wp2_with (first | (go_at_call 56; (with_reducible refine (HFA.out _ B.out).mono ?_); rintro e w' ⟨rfl, rfl⟩) | (go_at_call 56; (with_reducible refine (HFB.out _ B.out).mono ?_); rintro e w' ⟨rfl, rfl⟩))
        go_ret
        exact ⟨rfl, B.out⟩
    · rw [hfa] at HFA
      have HFA := Lib.hid HFA
      have HFB := Lib.hid HFB
      clear HJ2 HZ HW F_z F_w hu hu2 he hfa
      obtain ⟨D_x, hD_x⟩ : ∃ D, D = gvD a := ⟨_, rfl⟩
      obtain ⟨D_y, hD_y⟩ : ∃ D, D = gvD b := ⟨_, rfl⟩
      rw [← hD_x] at HX F_x
      rw [← hD_y] at HY F_y
      clear hD_x hD_y
      generalize gcE a = Ea at *
      generalize gcE b = Eb at *
      generalize joL a b = M at *
      go_enter Tryd.func18, Tryd.ntmps18
      go_wp2_with fail
      refine (HJ.out _ HT.out (Below.refl _ _)).mono ?_
      rintro r w1 ⟨vl, rfl, hll, hb⟩
      have S : Below w.heap.size w w1 := hb
      have B := Lib.hid S
      clear hb S
      obtain ⟨al, nl, cl, rfl, hnl⟩ := hll.shape2
      have V_l := Lib.hid hll
      have HN := Lib.hid hnl
      clear hll hnl
      go_wp2_with fail
      refine (HX.out _ (HT.out.below B.out) B.out).mono ?_
      rintro r w2 ⟨a_x, n_x, k_x, rfl, hv, hb⟩
      have S : Below w1.heap.size w1 w2 := hb
      replace B := Lib.hid (bl_thru B.out (Nat.le_refl _) S)
      replace V_l := Lib.hid (V_l.out.below S)
      have R_x := Lib.hid (rd_of (d := D_x) hv F_x.out)
      clear hb S hv
      go_wp2_with fail
      refine (HY.out _ (HT.out.below (by have := B.out; have := B.out.size; go_grown)) (by have := B.out; have := B.out.size; go_grown)).mono ?_
      rintro r w3 ⟨a_y, n_y, k_y, rfl, hv, hb⟩
      have S : Below w2.heap.size w2 w3 := bl_thru (by go_grown) (Nat.le_refl _) hb
      replace B := Lib.hid (bl_thru B.out (Nat.le_refl _) S)
      have X_x := Lib.hid ((Box.new w2 _ _ _ _).below hb)
      replace R_x := Lib.hid (R_x.out.below S)
      replace V_l := Lib.hid (V_l.out.below S)
      have R_y := Lib.hid (rd_of (d := D_y) hv F_y.out)
      clear hb S hv
      go_wp2_with fail
      refine (growLives_any _ (HT.out.below (by have := B.out; have := B.out.size; go_grown))).mono ?_
      rintro r w4 ⟨rfl, hb⟩
      have S : Below w3.heap.size w3 w4 := bl_thru (by go_grown) (Nat.le_refl _) hb
      replace B := Lib.hid (bl_thru B.out (Nat.le_refl _) S)
      replace X_x := Lib.hid (X_x.out.below S)
      have X_y := Lib.hid ((Box.new w3 _ _ _ _).below hb)
      replace R_x := Lib.hid (R_x.out.below S)
      replace R_y := Lib.hid (R_y.out.below S)
      replace V_l := Lib.hid (V_l.out.below S)
      clear hb S
      go_wp2_with (first | (go_at_call 56; (with_reducible refine (HFA.out _ B.out).mono ?_); rintro e w' ⟨rfl, rfl⟩) | (go_at_call 56; (with_reducible refine (HFB.out _ B.out).mono ?_); rintro e w' ⟨rfl, rfl⟩))
      go_ret
      exact ⟨rfl, B.out⟩
  · have heb : (joE a b != 0) = true := by rw [bne_iff_ne]; exact he
    rw [joE_ok he] at HJ
    clear HJ2 HZ HW F_z F_w hu hu2 he HFA HFB
    obtain ⟨D_x, hD_x⟩ : ∃ D, D = gvD a := ⟨_, rfl⟩
    obtain ⟨D_y, hD_y⟩ : ∃ D, D = gvD b := ⟨_, rfl⟩
    rw [← hD_x] at HX F_x
    rw [← hD_y] at HY F_y
    clear hD_x hD_y
    generalize gcE a = Ea at *
    generalize gcE b = Eb at *
    generalize joE a b = E at *
    go_enter Tryd.func18, Tryd.ntmps18
    go_wp2_with fail
    refine (HJ.out _ HT.out (Below.refl _ _)).mono ?_
    rintro r w1 ⟨vl, rfl, hll, hb⟩
    have S : Below w.heap.size w w1 := hb
    have B := Lib.hid S
    clear hb S
    obtain ⟨al, nl, cl, rfl, hnl⟩ := hll.shape2
    have V_l := Lib.hid hll
    have HN := Lib.hid hnl
    clear hll hnl
    go_wp2_with fail
    refine (HX.out _ (HT.out.below B.out) B.out).mono ?_
    rintro r w2 ⟨a_x, n_x, k_x, rfl, hv, hb⟩
    have S : Below w1.heap.size w1 w2 := hb
    replace B := Lib.hid (bl_thru B.out (Nat.le_refl _) S)
    replace V_l := Lib.hid (V_l.out.below S)
    have R_x := Lib.hid (rd_of (d := D_x) hv F_x.out)
    clear hb S hv
    go_wp2_with fail
    refine (HY.out _ (HT.out.below (by have := B.out; have := B.out.size; go_grown)) (by have := B.out; have := B.out.size; go_grown)).mono ?_
    rintro r w3 ⟨a_y, n_y, k_y, rfl, hv, hb⟩
    have S : Below w2.heap.size w2 w3 := bl_thru (by go_grown) (Nat.le_refl _) hb
    replace B := Lib.hid (bl_thru B.out (Nat.le_refl _) S)
    have X_x := Lib.hid ((Box.new w2 _ _ _ _).below hb)
    replace R_x := Lib.hid (R_x.out.below S)
    replace V_l := Lib.hid (V_l.out.below S)
    have R_y := Lib.hid (rd_of (d := D_y) hv F_y.out)
    clear hb S hv
    go_wp2_with fail
    refine (growLives_any _ (HT.out.below (by have := B.out; have := B.out.size; go_grown))).mono ?_
    rintro r w4 ⟨rfl, hb⟩
    have S : Below w3.heap.size w3 w4 := bl_thru (by go_grown) (Nat.le_refl _) hb
    replace B := Lib.hid (bl_thru B.out (Nat.le_refl _) S)
    replace X_x := Lib.hid (X_x.out.below S)
    have X_y := Lib.hid ((Box.new w3 _ _ _ _).below hb)
    replace R_x := Lib.hid (R_x.out.below S)
    replace R_y := Lib.hid (R_y.out.below S)
    replace V_l := Lib.hid (V_l.out.below S)
    clear hb S
    have dz : ((nl : Int) == 0) = true := by have := HN.out; simp at this; rw [beq_iff_eq]; omega
    go_wp2_with fail
    refine (growLives_any _ (HT.out.below B.out)).mono ?_
    rintro r w5 ⟨rfl, hb⟩
    have S : Below w4.heap.size w4 w5 := hb
    replace B := Lib.hid (bl_thru B.out (Nat.le_refl _) S)
    replace X_x := Lib.hid (X_x.out.below S)
    replace X_y := Lib.hid (X_y.out.below S)
    replace R_x := Lib.hid (R_x.out.below S)
    replace R_y := Lib.hid (R_y.out.below S)
    replace V_l := Lib.hid (V_l.out.below S)
    clear hb S
    go_wp2
    go_ret
    exact ⟨rfl, B.out⟩
end Go.Proofs.YtapdjclhpcakeaaDoor
