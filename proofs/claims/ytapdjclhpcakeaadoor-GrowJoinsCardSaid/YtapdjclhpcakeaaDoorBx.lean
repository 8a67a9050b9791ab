/-
  SOME OF MY TEXTS in one: Xz Bs Xf Xq Xw. Each says what it proves.
-/
import Derived.Test.YtapdjclhpcakeaaDoorBy
import Derived.Test.YtapdjclhpcakeaaDoorXs
import Derived.Test.YtapdjclhpcakeaaDoorVl
set_option linter.unusedVariables false
set_option linter.unusedSimpArgs false
/-
  PLAIN: sums that are exact; with 0 added, or times 1. exactLives walked.
-/
namespace Go.Proofs.YtapdjclhpcakeaaDoor
open Go.RowKit Nt Fm Fl

/-- a sum that is a number -/
theorem sum_exactv {x y z : Int} (x0 : 0 ≤ x) (x1 : x ≤ 18446744073709551615) (y0 : 0 ≤ y) (y1 : y ≤ 18446744073709551615) (hx : fabs x < 9218868437227405312) (hy : fabs y < 9218868437227405312) (hz : fabs z < 9218868437227405312) (h : smag x + smag y = smag z) :
    fabs (plV x y) < 9218868437227405312 ∧ smag (plV x y) = smag z := by
  obtain ⟨-, -, -, a, b⟩ := allV_fin [x, y] (by simp [hx, hy]) 0
  obtain ⟨v1, v2⟩ := sumD_two_vl x0 x1 y0 y1 hx hy
  have hf : fabs (plV x y) < 9218868437227405312 := by
    unfold plV
    by_cases hm : (sumD [x, y]).m = 0
    · rw [b hm]; decide
    · rw [a hm]
      have hb := fabs_bd z
      have hMR : MR = 9218868437227405312 := rfl
      have ht : tt 0 (sumD [x, y]).m (sumD [x, y]).e = mag (fabs z).toNat * 2 ^ 0 := by
        rw [tt_vl, show 1074 + 0 = 1074 from rfl, v1, h, smag_abs]; simp
      have := numk_exact (t := 0) (by omega) (kd (sumD [x, y]).neg 0) _ (by omega) ht
      have h1 := (fng_numR (sumD [x, y]) 0).1
      have h2 := fabs_bd (numR (sumD [x, y]) 0)
      omega
  have hn := sum_nr x0 x1 y0 y1 hx hy hf
  exact ⟨hf, (hn.exact (by rw [h]; exact rep_smag z)).trans h⟩
theorem smag_0 {v : Int} (h : smag v = 0) : fabs v = 0 := by
  have h1 := smag_abs v
  have h2 := fabs_bd v
  rw [h] at h1
  have : mag (fabs v).toNat = mag 0 := by rw [mag_zero]; omega
  have := mag_inj this
  omega
theorem diff_exactv {x y z : Int} (x0 : 0 ≤ x) (x1 : x ≤ 18446744073709551615) (y0 : 0 ≤ y) (y1 : y ≤ 18446744073709551615) (hx : fabs x < 9218868437227405312) (hy : fabs y < 9218868437227405312) (hz : fabs z < 9218868437227405312) (h : smag x - smag y = smag z) :
    fabs (miV x y) < 9218868437227405312 ∧ smag (miV x y) = smag z := by
  obtain ⟨n0, n1⟩ := fneg_bd y0 y1
  exact sum_exactv x0 x1 n0 n1 hx (by rw [fabs_fneg]; exact hy) hz (by rw [smag_fneg y0 y1]; omega)
theorem pl_zero {x : Int} (x0 : 0 ≤ x) (x1 : x ≤ 18446744073709551615) (hx : fabs x < 9218868437227405312) : plV x 0 = x ∨ x = 9223372036854775808 := by
  by_cases h : x = 9223372036854775808
  · exact Or.inr h
  · left
    obtain ⟨-, -, -, a, b⟩ := allV_fin [x, 0] (by simp [hx]; decide) 0
    have e : sumD [x, 0] = valD x := by rw [sumD_two, valD_z (x := 0) (by rfl), plus_nz_right (valD_nf x)]
    rw [e] at a b
    unfold plV
    by_cases hm : (valD x).m = 0
    · have hz := valD_m0 x0 x1 hx hm
      have : x = 0 := by unfold fabs at hz; omega
      subst this; exact (by kernel_rfl : allV [0, 0] 0 = 0)
    · rw [a hm]
      rcases (valD_num x x0 x1 hx 0).2 with h1 | h1
      · exact h1
      · exact absurd h1.1 h
theorem zero_law {x : Int} (x0 : 0 ≤ x) (x1 : x ≤ 18446744073709551615) (hv : hasV x = true) :
    tsE x 0 = 0 ∧ (tsS x 0 = x ∨ x = 9223372036854775808) ∧ fcls (tsR x 0) = 1 ∧ tpE x 4607182418800017408 = 0 ∧ tpP x 4607182418800017408 = x ∧ fcls (tpR x 4607182418800017408) = 1 := by
  have hx : fabs x < 9218868437227405312 := by unfold hasV at hv; simpa using hv
  have z0 : (0 : Int) ≤ 0 := by decide
  have z1 : (0 : Int) ≤ 18446744073709551615 := by decide
  have hz : fabs 0 < 9218868437227405312 := by decide
  have sz : smag 0 = 0 := smag_z (by decide)
  obtain ⟨s1, s2⟩ := sum_exactv (z := x) x0 x1 z0 z1 hx hz hx (by omega)
  obtain ⟨sb0, sb1⟩ := plV_bd x0 x1 z0 z1
  obtain ⟨a1, a2⟩ := diff_exactv (z := x) sb0 sb1 z0 z1 s1 hz hx (by omega)
  obtain ⟨ab0, ab1⟩ := miV_bd sb0 sb1 z0 z1
  obtain ⟨b1, b2⟩ := diff_exactv (z := 0) sb0 sb1 ab0 ab1 s1 a1 hz (by omega)
  obtain ⟨bb0, bb1⟩ := miV_bd sb0 sb1 ab0 ab1
  obtain ⟨p1, p2⟩ := diff_exactv (z := 0) x0 x1 ab0 ab1 hx a1 hz (by omega)
  obtain ⟨pb0, pb1⟩ := miV_bd x0 x1 ab0 ab1
  obtain ⟨q1, q2⟩ := diff_exactv (z := 0) z0 z1 bb0 bb1 hz b1 hz (by omega)
  obtain ⟨qb0, qb1⟩ := miV_bd z0 z1 bb0 bb1
  obtain ⟨r1, r2⟩ := sum_exactv (z := 0) pb0 pb1 qb0 qb1 p1 q1 hz (by omega)
  have e0 : tsE x 0 = 0 := by
    have h1 : xcE x 0 = 0 := by unfold xcE; rw [if_pos ⟨hv, by decide⟩]
    have h2 : hasV (plV x 0) = true := by unfold hasV; simpa using s1
    unfold tsE; rw [if_pos h1, if_pos h2]
  have m1 : muV0 x 4607182418800017408 0 = x := by
    rcases (mu_one 0 x0 x1).2 with h | h
    · exact absurd h (fcls_fin hx).1
    · exact h
  have e1 : tpE x 4607182418800017408 = 0 := by
    have h1 : xcE x 4607182418800017408 = 0 := by unfold xcE; rw [if_pos ⟨hv, by decide⟩]
    unfold tpE; rw [if_pos h1, m1, if_pos hv]
  obtain ⟨n0, n1⟩ := fneg_bd x0 x1
  refine ⟨e0, ?_, ?_, e1, ?_, ?_⟩
  · unfold tsS; rw [if_pos e0]; exact pl_zero x0 x1 hx
  · unfold tsR; rw [if_pos e0]
    exact fcls_1 (smag_0 (by rw [sz] at r2; exact r2))
  · unfold tpP; rw [if_pos e1, m1]
  · unfold tpR; rw [if_pos e1, m1, (fm_one 0 x0 x1 n0 n1).1]
    have := (diff_exactv (z := 0) x0 x1 x0 x1 hx hx hz (by omega)).2
    exact fcls_1 (smag_0 (by rw [sz] at this; exact this))
theorem zero_none {x : Int} (hv : hasV x = false) : tsE x 0 = 4 ∧ tpE x 4607182418800017408 = 4 := by
  have h1 : ∀ y, xcE x y = 4 := fun y => by unfold xcE; rw [if_neg]; rintro ⟨h, -⟩; rw [hv] at h; cases h
  unfold tsE tpE; rw [h1, h1, if_neg (by decide), if_neg (by decide)]; exact ⟨rfl, rfl⟩

theorem xlives_facts : (tsS 4607182418800017408 4363988038922010624 = 4607182418800017408 ∧ tsR 4607182418800017408 4363988038922010624 = 4363988038922010624 ∧ tsE 4607182418800017408 4363988038922010624 = 0) ∧
    (tpP 4607182418800017409 4607182418800017409 = 4607182418800017410 ∧ tpR 4607182418800017409 4607182418800017409 = 4138808057553485824 ∧ tpE 4607182418800017409 4607182418800017409 = 0) ∧
    (spH 4607182418800017409 26 = 4607182418800017408 ∧ spL 4607182418800017409 26 = 4372995238176751616 ∧ spE 4607182418800017409 26 = 0) :=
  ⟨⟨by kernel_rfl, by kernel_rfl, by kernel_rfl⟩, ⟨by kernel_rfl, by kernel_rfl, by kernel_rfl⟩, ⟨by kernel_rfl, by kernel_rfl, by kernel_rfl⟩⟩
set_option maxRecDepth 100000 in
set_option maxHeartbeats 4000000 in
theorem exactLives_any (w : World) (hT : Tab w) :
    Calls Tryd.prog 32 #[] w fun e w' => e = .returned (.bool true) ∧ Below w.heap.size w w' := by
  obtain ⟨⟨e1, e2, e3⟩, ⟨e4, e5, e6⟩, ⟨e7, e8, e9⟩⟩ := xlives_facts
  have h1 := fun w' h => twoSum_any 4607182418800017408 4363988038922010624 (by decide) (by decide) (by decide) (by decide) w' h
  have h2 := fun w' h => twoProd_any 4607182418800017409 4607182418800017409 (by decide) (by decide) (by decide) (by decide) w' h
  have h3 := fun w' h => split_any 4607182418800017409 26 (by decide) (by decide) (by decide) (by decide) w' h
  rw [e1, e2, e3] at h1
  rw [e4, e5, e6] at h2
  rw [e7, e8, e9] at h3
  have H1 := Lib.hid h1
  have H2 := Lib.hid h2
  have H3 := Lib.hid h3
  have HT := Lib.hid hT
  have k3 := ok3_mk
  clear h1 h2 h3 hT e1 e2 e3 e4 e5 e6 e7 e8 e9
  go_enter Tryd.func32, Tryd.ntmps32
  go_wp2_with fail
  refine (H1.out _ HT.out).mono ?_
  rintro r w1 ⟨rfl, hb⟩
  have B1 := Lib.hid hb
  clear hb
  go_wp2_with fail
  refine (H2.out _ (HT.out.below B1.out)).mono ?_
  rintro r w2 ⟨rfl, hb⟩
  have B2 := Lib.hid (bl_thru B1.out (Nat.le_refl _) hb)
  clear hb
  go_wp2_with fail
  refine (H3.out _ (HT.out.below B2.out)).mono ?_
  rintro r w3 ⟨rfl, hb⟩
  have B3 := Lib.hid (bl_thru B2.out (Nat.le_refl _) hb)
  clear hb
  go_wp2_with (go_at_call 28; refine (ok_new3 _ _ _ _ _ rfl).mono ?_; rintro e w' ⟨rfl, rfl⟩)
  go_ret
  exact ⟨rfl, B3.out.alloc B3.out.size _⟩
end Go.Proofs.YtapdjclhpcakeaaDoor

/-
  THE WALKS of ulpkeep.bothSame (where it says true), far.
-/
namespace Go.Proofs.YtapdjclhpcakeaaDoor
open Go.RowKit Nt Fm Fl

theorem Box.new4 (w : World) (o p q : Obj) (x y z : Value) (T : TypeId) : Box ((((w.alloc o).alloc p).alloc q).alloc (.cells #[x, y, z] T)) (w.heap.size + 1 + 1 + 1) T x y z := by
  have := Box.new3 (w.alloc o) p q x y z T
  rwa [size_alloc] at this
/-- the operation of two that fit, whose sum fits -/
theorem add_fit (v1 v2 : Value) (d1 d2 S : D) (w : World) (hT : Tab w) (h1 : RD w v1 0 d1) (h2 : RD w v2 0 d2) (hS : plus d1 d2 = S) (hf : Fit S) :
    Calls Tryd.prog 105 #[v1, v2] w (RetR w 0 S) := by
  have := add_any v1 v2 0 0 d1 d2 w hT h1 h2
  rw [hS, (opE_zero S).1, (opE_zero S).2, fitE_of hf, if_pos rfl] at this
  exact this
theorem same_self (v1 v2 : Value) (d : D) (w : World) (h1 : DV w v1 d) (h2 : DV w v2 d) :
    Calls Tryd.prog 62 #[v1, v2] w fun r w' => r = .returned (.bool true) ∧ Below w.heap.size w w' := by
  have := same_any v1 v2 d d w h1 h2
  rw [sameB_refl] at this; exact this
set_option maxRecDepth 100000 in
set_option maxHeartbeats 16000000 in
theorem bothSame_any (va vb vc vd : Value) (a b c d : D) (w : World) (hT : Tab w) (ra : RD w va 0 a) (rb : RD w vb 0 b) (rc : RD w vc 0 c) (rd : RD w vd 0 d) (hs : plus a b = plus c d) (hf : Fit (plus a b)) :
    Calls Tryd.prog 50 #[va, vb, vc, vd] w fun e w' => e = .returned (.bool true) ∧ Below w.heap.size w w' := by
  obtain ⟨D_s, hD_s⟩ : ∃ D, D = plus a b := ⟨_, rfl⟩
  obtain ⟨D_t, hD_t⟩ : ∃ D, D = plus c d := ⟨_, rfl⟩
  rw [← hD_s, ← hD_t] at hs
  rw [← hD_s] at hf
  have hf2 : Fit D_t := by rw [← hs]; exact hf
  have HA := Lib.hid (fun v1 v2 w' h0 h1 h2 => add_fit v1 v2 a b D_s w' h0 h1 h2 hD_s.symm hf)
  have HB := Lib.hid (fun v1 v2 w' h0 h1 h2 => add_fit v1 v2 c d D_t w' h0 h1 h2 hD_t.symm hf2)
  have F_s := Lib.hid hf
  have F_t := Lib.hid hf2
  have HS : Hid (∀ v1 v2 w', DV w' v1 D_s → DV w' v2 D_t → Calls Tryd.prog 62 #[v1, v2] w' fun r w'' => r = .returned (.bool true) ∧ Below w'.heap.size w' w'') := Lib.hid (fun v1 v2 w' h1 h2 => same_self v1 v2 D_s w' h1 (by rw [hs]; exact h2))
  clear hs hf hf2 hD_s hD_t
  have R_a := Lib.hid ra
  have R_b := Lib.hid rb
  have R_c := Lib.hid rc
  have R_d := Lib.hid rd
  have HT := Lib.hid hT
  clear hT
  obtain ⟨ga, aa, na, pa, xa, rfl, -⟩ := ra
  obtain ⟨gb, ab, nb, pb, xb, rfl, -⟩ := rb
  obtain ⟨gc, ac, nc, pc, xc, rfl, -⟩ := rc
  obtain ⟨gd, ad, nd, pd, xd, rfl, -⟩ := rd
  go_enter Tryd.func50, Tryd.ntmps50
  go_wp2_with fail
  refine (HA.out _ _ _ (HT.out.below (by go_grown)) (R_a.out.below (by go_grown)) (R_b.out.below (by go_grown))).mono ?_
  rintro r w1 ⟨a_s, n_s, k_s, rfl, hv, hb⟩
  have S : Below w.heap.size w w1 := bl_thru (by go_grown) (Nat.le_refl _) hb
  have B := Lib.hid S
  have X_c := Lib.hid (((Box.new3 w _ _ _ _ _ _).alloc _).below hb)
  have X_d := Lib.hid ((Box.new4 w _ _ _ _ _ _ _).below hb)
  clear R_a
  clear R_b
  replace R_c := Lib.hid (R_c.out.below S)
  replace R_d := Lib.hid (R_d.out.below S)
  have R_s := Lib.hid (rd_of (d := D_s) hv F_s.out)
  clear hb S hv
  obtain ⟨c0_c, c1_c, c2_c, d0_c, d1_c, d2_c⟩ := X_c.out.cells
  have l_c := X_c.out.lt
  obtain ⟨c0_d, c1_d, c2_d, d0_d, d1_d, d2_d⟩ := X_d.out.cells
  have l_d := X_d.out.lt
  go_wp2_with fail
  refine (HB.out _ _ _ (HT.out.below (by have := B.out; have := B.out.size; go_grown)) (R_c.out.below (by go_grown)) (R_d.out.below (by go_grown))).mono ?_
  rintro r w2 ⟨a_t, n_t, k_t, rfl, hv, hb⟩
  have S : Below w1.heap.size w1 w2 := bl_thru (by go_grown) (Nat.le_refl _) hb
  replace B := Lib.hid (bl_thru B.out (Nat.le_refl _) S)
  clear X_c
  clear X_d
  have X_s := Lib.hid ((Box.new w1 _ _ _ _).below hb)
  clear R_c
  clear R_d
  replace R_s := Lib.hid (R_s.out.below S)
  have R_t := Lib.hid (rd_of (d := D_t) hv F_t.out)
  clear hb S hv c0_c c1_c c2_c d0_c d1_c d2_c l_c c0_d c1_d c2_d d0_d d1_d d2_d l_d
  obtain ⟨c0_s, c1_s, c2_s, d0_s, d1_s, d2_s⟩ := X_s.out.cells
  have l_s := X_s.out.lt
  go_wp2_with (go_at_call 28; refine (ok_new2 _ _  _ _ (by simp)).mono ?_; rintro e w' ⟨rfl, rfl⟩)
  refine (HS.out _ _ _ (R_s.out.below (by go_grown)).dv (R_t.out.below (by go_grown)).dv).mono ?_
  rintro r w3 ⟨rfl, hb⟩
  have S : Below w2.heap.size w2 w3 := bl_thru (by go_grown) (Nat.le_refl _) hb
  replace B := Lib.hid (bl_thru B.out (Nat.le_refl _) S)
  clear X_s
  clear R_s
  clear R_t
  clear hb S c0_s c1_s c2_s d0_s d1_s d2_s l_s
  go_wp2
  go_ret
  exact ⟨rfl, B.out⟩
/-- is one of them far? -/
def farB (l : List Int) : Bool := l.any fun x => decide (1923 ≤ fexp x)
theorem far_take (l : List Int) (k : Nat) (h : k < l.length) (hk : farB (l.take k) = false) : farB (l.take (k + 1)) = decide (1923 ≤ fexp l[k]) := by
  unfold farB at *
  rw [List.take_succ_eq_append_getElem h, List.any_append, hk]; simp
theorem far_yes (l : List Int) (k : Nat) (h : k < l.length) (hk : 1923 ≤ fexp l[k]) : farB l = true := by
  unfold farB
  rw [List.any_eq_true]; exact ⟨_, List.getElem_mem h, by simpa using hk⟩
theorem far_exp {x : Int} (h0 : 0 ≤ x) (h1 : x ≤ 18446744073709551615) : IntKind.u64.wrap (x * 2) / 9007199254740992 = fexp x := by
  unfold fexp IntKind.wrap; simp [IntKind.bits, IntKind.signed]; omega
set_option maxHeartbeats 2000000 in
theorem far_any (v : Value) (l : List Int) (w : World) (hv : LU w v l) :
    Calls Tryd.prog 56 #[v] w fun e w' => e = .returned (.bool (farB l)) ∧ w = w' := by
  obtain ⟨hu, ao, cap, rfl, hcap, hmx, hc⟩ := hv
  unfold maxLen at hmx
  have HU := Lib.hid hu
  have HC := Lib.hid hc
  clear hu hc
  go_enter Tryd.func56, Tryd.ntmps56
  go_wp2
  go_loop [7] (fun i => ∃ k : Nat, k ≤ l.length ∧ i = .int .i64 k ∧ Hid (farB (l.take k) = false)) (fun i => l.length - (intOf i).toNat)
  case atStart => exact ⟨0, Nat.zero_le _, rfl, Lib.hid (by simp [farB])⟩
  case round =>
    obtain ⟨k, hk, rfl, HF⟩ := hrel
    by_cases hlt : k < l.length
    · obtain ⟨b, off, rfl, hbw, hc⟩ : ∃ b off, ao = some ⟨b, off, none⟩ ∧ b < w.heap.size ∧ w.cell? ⟨b, off + k, none⟩ = some (.int .u64 l[k]) := by
        rcases HC.out with h | ⟨b, off, h1, h2, h3⟩
        · omega
        · refine ⟨b, off, h1, h2, ?_⟩
          have := h3 k hlt
          rw [show l.getD k 0 = l[k] by simp [List.getD, hlt]] at this; exact this
      obtain ⟨x0, x1⟩ := HU.out _ (List.getElem_mem hlt)
      have hfe := far_exp x0 x1
      have hts := far_take l k hlt HF.out
      have hye := far_yes l k hlt
      generalize l[k] = x at *
      have kb : (k : Int) < (l.length : Int) := by omega
      by_cases hz : 1923 ≤ fexp x
      · have HZ := Lib.hid (hye hz)
        clear hye hts
        go_wp2
        go_ret
        exact ⟨by rw [HZ.out]; rfl, rfl⟩
      · rw [decide_eq_false hz] at hts
        have HT := Lib.hid hts
        clear hye hts
        go_wp2
        go_round
        case rel => exact ⟨k + 1, by omega, by go_num, HT⟩
        case measure => simp [intOf]; omega
    · have hk2 : k = l.length := by omega
      have ht := HF.out
      rw [hk2, List.take_length] at ht
      have HT := Lib.hid ht
      clear hk2 ht HF
      go_wp2
      go_ret
      exact ⟨by rw [HT.out]; rfl, rfl⟩
end Go.Proofs.YtapdjclhpcakeaaDoor

/-
  PLAIN: the laws of TwoSum, FastSum, TwoProd as the statements ask them; helpers of their walks.
-/
namespace Go.Proofs.YtapdjclhpcakeaaDoor
open Go.RowKit Nt Fm Fl

theorem hasV_lt {x : Int} (h : hasV x = true) : fabs x < 9218868437227405312 := by unfold hasV at h; simpa using h
theorem hasV_of {x : Int} (h : fabs x < 9218868437227405312) : hasV x = true := by unfold hasV; simpa using h
theorem ofD_val {x : Int} (h : hasV x = true) : ofD x = valD x := by unfold ofD; rw [if_pos h]
theorem mag_P (n : Nat) : mag (4503599627370496 + n * 4503599627370496) = Ep.P (52 + n) := by
  rw [mag_of 4503599627370496 n (by omega) (by omega), Ep.P_add]; rfl
theorem near_bd {x : Int} (h : ¬ 1923 ≤ fexp x) (x0 : 0 ≤ x) (x1 : x ≤ 18446744073709551615) : (smag x).natAbs ≤ Ep.P 1974 := by
  rw [smag_abs]
  have hb := fabs_bd x
  have hfe : fabs x = fexp x * 4503599627370496 + ffr x := by unfold fabs fexp ffr; omega
  have bf := ffr_bd x
  have be := fexp_bd x
  have h1 := mag_mono (show (fabs x).toNat ≤ 4503599627370496 + 1922 * 4503599627370496 by omega)
  rw [mag_P 1922, show 52 + 1922 = 1974 from rfl] at h1
  exact h1
theorem far_no2 {x y : Int} (h : farB [x, y] = false) : ¬ 1923 ≤ fexp x ∧ ¬ 1923 ≤ fexp y := by
  unfold farB at h; simpa using h
theorem sum_fit (x y : Int) (x0 : 0 ≤ x) (x1 : x ≤ 18446744073709551615) (y0 : 0 ≤ y) (y1 : y ≤ 18446744073709551615) : Fit (plus (valD x) (valD y)) := by
  have h := (valD_sml x x0 x1).plus (valD_sml y y0 y1)
  obtain ⟨⟨q, hq, hm⟩, e0, e1⟩ := h.bds (by decide)
  exact fit_of (plus_Nf _ _) (by omega) hm (by omega) (by omega)
/-- sums are alike, if they count alike -/
theorem same_sum {a b c d : Int} (a0 : 0 ≤ a) (a1 : a ≤ 18446744073709551615) (b0 : 0 ≤ b) (b1 : b ≤ 18446744073709551615) (c0 : 0 ≤ c) (c1 : c ≤ 18446744073709551615) (d0 : 0 ≤ d) (d1 : d ≤ 18446744073709551615)
    (ha : fabs a < 9218868437227405312) (hb : fabs b < 9218868437227405312) (hc : fabs c < 9218868437227405312) (hd : fabs d < 9218868437227405312) (h : smag a + smag b = smag c + smag d) : plus (valD a) (valD b) = plus (valD c) (valD d) := by
  have ea := valD_e a0 a1; have eb := valD_e b0 b1; have ec := valD_e c0 c1; have ed := valD_e d0 d1
  refine nf_inj (plus_Nf _ _) (plus_Nf _ _) (T := 1074) (plus_eT ea eb) (plus_eT ec ed) ?_
  rw [plus_vl _ _ _ ea eb, plus_vl _ _ _ ec ed, valD_sm a0 a1 ha, valD_sm b0 b1 hb, valD_sm c0 c1 hc, valD_sm d0 d1 hd, h]
def posD (d : D) : D := ⟨false, d.m, d.e⟩
theorem posD_nf {d : D} (h : d.Nf) : (posD d).Nf := by
  rcases h with h | h
  · left; rw [h]; rfl
  · right; exact h
theorem posD_fit {d : D} (h : Fit d) : Fit (posD d) := ⟨posD_nf h.1, h.2.1, h.2.2.1, h.2.2.2⟩
theorem posD_vl (d : D) (T : Nat) : (posD d).vl T = ((d.vl T).natAbs : Int) := by
  rw [vl_natAbs]; unfold posD D.vl D.sm; simp
theorem tsS_bd {x y : Int} (x0 : 0 ≤ x) (x1 : x ≤ 18446744073709551615) (y0 : 0 ≤ y) (y1 : y ≤ 18446744073709551615) : 0 ≤ tsS x y ∧ tsS x y ≤ 18446744073709551615 := by
  have := plV_bd x0 x1 y0 y1
  unfold tsS; split <;> omega
theorem tsR_bd {x y : Int} (x0 : 0 ≤ x) (x1 : x ≤ 18446744073709551615) (y0 : 0 ≤ y) (y1 : y ≤ 18446744073709551615) : 0 ≤ tsR x y ∧ tsR x y ≤ 18446744073709551615 := by
  obtain ⟨s0, s1⟩ := plV_bd x0 x1 y0 y1
  obtain ⟨a0, a1⟩ := miV_bd s0 s1 y0 y1
  obtain ⟨b0, b1⟩ := miV_bd s0 s1 a0 a1
  obtain ⟨p0, p1⟩ := miV_bd x0 x1 a0 a1
  obtain ⟨q0, q1⟩ := miV_bd y0 y1 b0 b1
  unfold tsR; split
  · exact plV_bd p0 p1 q0 q1
  · omega
theorem fsR_bd {x y : Int} (x0 : 0 ≤ x) (x1 : x ≤ 18446744073709551615) (y0 : 0 ≤ y) (y1 : y ≤ 18446744073709551615) : 0 ≤ fsR x y ∧ fsR x y ≤ 18446744073709551615 := by
  obtain ⟨s0, s1⟩ := plV_bd x0 x1 y0 y1
  obtain ⟨a0, a1⟩ := miV_bd s0 s1 x0 x1
  unfold fsR; split
  · exact miV_bd y0 y1 a0 a1
  · omega
theorem tpP_bd (x y : Int) : 0 ≤ tpP x y ∧ tpP x y ≤ 18446744073709551615 := by
  have := muV0_bd' x y
  unfold tpP; split <;> omega
theorem tpR_bd (x y : Int) : 0 ≤ tpR x y ∧ tpR x y ≤ 18446744073709551615 := by
  have h := fmV_bd x y (fneg (muV0 x y 0)) 0 (fneg_bd (muV0_bd' x y).1 (muV0_bd' x y).2).1 (fneg_bd (muV0_bd' x y).1 (muV0_bd' x y).2).2
  rw [(fmV_yes (x := x) (y := y) (z := fneg (muV0 x y 0)) (mode := 0) rfl).1] at h
  unfold tpR; split
  · exact h
  · omega
/-- what is told where there is an error -/
theorem ts_err {x y : Int} (h : tsE x y ≠ 0) : tsS x y = 0 ∧ tsR x y = 0 ∧ fsR x y = 0 := by
  unfold tsS tsR fsR; rw [if_neg h, if_neg h, if_neg h]; exact ⟨rfl, rfl, rfl⟩
theorem ts_val {x y : Int} (h : tsE x y = 0) : hasV x = true ∧ hasV y = true := by
  unfold tsE at h
  split at h
  · rename_i h1
    unfold xcE at h1
    split at h1
    · rename_i h2; exact h2
    · omega
  · omega
theorem ts_yes {x y : Int} (hx : hasV x = true) (hy : hasV y = true) (h : hasV (plV x y) = true) : tsE x y = 0 ∧ tsS x y = plV x y ∧ tsR x y = plV (tsP x y) (tsQ x y) ∧ fsR x y = miV y (miV (plV x y) x) := by
  have h1 : xcE x y = 0 := by unfold xcE; rw [if_pos ⟨hx, hy⟩]
  have h0 : tsE x y = 0 := by unfold tsE; rw [if_pos h1, if_pos h]
  unfold tsS tsR fsR; rw [if_pos h0, if_pos h0, if_pos h0]; exact ⟨h0, rfl, rfl, rfl⟩
/-- THE LAW ExactSum -/
theorem exactSum_a {x y : Int} (x0 : 0 ≤ x) (x1 : x ≤ 18446744073709551615) (y0 : 0 ≤ y) (y1 : y ≤ 18446744073709551615) (he : tsE x y = 0) (hf : farB [x, y] = false) :
    hasV x = true ∧ hasV y = true ∧ hasV (tsS x y) = true ∧ hasV (tsR x y) = true ∧ plus (valD x) (valD y) = plus (valD (tsS x y)) (valD (tsR x y)) ∧ cmp (posD (valD (tsR x y))) ⟨false, 1, ulE (tsS x y) - 1⟩ ≤ 0 := by
  obtain ⟨hx, hy⟩ := ts_val he
  obtain ⟨fx, fy⟩ := far_no2 hf
  obtain ⟨h1, h2, h3, h4⟩ := two_law x0 x1 y0 y1 (hasV_lt hx) (hasV_lt hy) (N := 1974) (by decide) (by decide) (near_bd fx x0 x1) (near_bd fy y0 y1)
  obtain ⟨-, eS, eR, -⟩ := ts_yes hx hy (hasV_of h1)
  have sb := plV_bd x0 x1 y0 y1
  have rb := tsR_bd x0 x1 y0 y1
  rw [eS, eR]
  rw [eR] at rb
  refine ⟨hx, hy, hasV_of h1, hasV_of h2, same_sum x0 x1 y0 y1 sb.1 sb.2 rb.1 rb.2 (hasV_lt hx) (hasV_lt hy) h1 h2 (by omega), ?_⟩
  have hh := half_law h1 h4
  have be := fexp_bd (plV x y)
  have er := valD_e rb.1 rb.2
  have e1 : 0 ≤ (posD (valD (plV (tsP x y) (tsQ x y)))).e + ((1075 : Nat) : Int) := by show 0 ≤ (valD _).e + _; omega
  have e2 : 0 ≤ (⟨false, 1, ulE (plV x y) - 1⟩ : D).e + ((1075 : Nat) : Int) := by show 0 ≤ ulE (plV x y) - 1 + _; unfold ulE; omega
  refine (cmp_le e1 e2).2 ?_
  rw [posD_vl]
  have e3 : (valD (plV (tsP x y) (tsQ x y))).vl 1075 = 2 * smag (plV (tsP x y) (tsQ x y)) := by
    rw [← valD_sm rb.1 rb.2 h2]; unfold D.vl
    rw [show ((valD (plV (tsP x y) (tsQ x y))).e + ((1075 : Nat) : Int)).toNat = 1 + ((valD (plV (tsP x y) (tsQ x y))).e + ((1074 : Nat) : Int)).toNat by omega, Int.pow_add, Int.mul_left_comm]; rfl
  have e4 : (⟨false, 1, ulE (plV x y) - 1⟩ : D).vl 1075 = ((2 ^ (ulE (plV x y) + 1074).toNat : Nat) : Int) := by
    unfold D.vl D.sm
    simp only [Bool.false_eq_true, if_false]
    rw [show (ulE (plV x y) - 1 + ((1075 : Nat) : Int)).toNat = (ulE (plV x y) + 1074).toNat by omega]; simp
  rw [e3, e4, h3]
  omega
/-- THE LAW ExactFast -/
theorem exactFast_a {x y : Int} (x0 : 0 ≤ x) (x1 : x ≤ 18446744073709551615) (y0 : 0 ≤ y) (y1 : y ≤ 18446744073709551615) (he : tsE x y = 0) (hf : farB [x, y] = false) (hxy : fabs y ≤ fabs x) :
    hasV x = true ∧ hasV y = true ∧ hasV (tsS x y) = true ∧ hasV (fsR x y) = true ∧ plus (valD x) (valD y) = plus (valD (tsS x y)) (valD (fsR x y)) ∧ (tsR x y = fsR x y ∨ (tsR x y ≠ fsR x y ∧ fcls (tsR x y) = 1 ∧ fcls (fsR x y) = 1)) := by
  obtain ⟨hx, hy⟩ := ts_val he
  obtain ⟨fx, fy⟩ := far_no2 hf
  obtain ⟨h1, h2, h3, h4⟩ := two_law x0 x1 y0 y1 (hasV_lt hx) (hasV_lt hy) (N := 1974) (by decide) (by decide) (near_bd fx x0 x1) (near_bd fy y0 y1)
  obtain ⟨g1, g2⟩ := fast_law x0 x1 y0 y1 (hasV_lt hx) (hasV_lt hy) (N := 1974) (by decide) (by decide) (near_bd fx x0 x1) (near_bd fy y0 y1) hxy
  obtain ⟨-, eS, eR, eF⟩ := ts_yes hx hy (hasV_of h1)
  have sb := plV_bd x0 x1 y0 y1
  have rb := tsR_bd x0 x1 y0 y1
  have fb := fsR_bd x0 x1 y0 y1
  rw [eS, eR, eF]
  rw [eR] at rb
  rw [eF] at fb
  refine ⟨hx, hy, hasV_of h1, hasV_of g1, same_sum x0 x1 y0 y1 sb.1 sb.2 fb.1 fb.2 (hasV_lt hx) (hasV_lt hy) h1 g1 (by omega), ?_⟩
  generalize plV (tsP x y) (tsQ x y) = r at *
  generalize miV y (miV (plV x y) x) = q at *
  by_cases h : r = q
  · exact Or.inl h
  · right
    have hs : smag r = smag q := by omega
    have ha : fabs r = fabs q := by
      have := congrArg Int.natAbs hs
      rw [smag_abs, smag_abs] at this
      have := mag_inj this
      have := fabs_bd r; have := fabs_bd q; omega
    have hz : fabs r = 0 := by
      apply Classical.byContradiction; intro hne
      apply h
      have hm : 0 < mag (fabs r).toNat := by
        have := mag_lt (show 0 < (fabs r).toNat by have := fabs_bd r; omega); rw [mag_zero] at this; exact this
      unfold smag at hs
      rw [← ha] at hs
      have hg : fng r = fng q := by
        cases hr : fng r <;> cases hq : fng q <;> rw [hr, hq] at hs <;> simp at hs ⊢ <;> omega
      unfold fng at hg
      unfold fabs at ha
      by_cases hb : 9223372036854775808 ≤ r
      · rw [decide_eq_true hb] at hg
        have := of_decide_eq_true hg.symm
        omega
      · rw [decide_eq_false hb] at hg
        have := of_decide_eq_false hg.symm
        omega
    exact ⟨h, fcls_1 hz, fcls_1 (by rw [← ha]; exact hz)⟩
/-- a one-limb mantissa that has just been laid -/
theorem one_nvb (w : World) (b x : Nat) (T : TypeId) (hb : b = w.heap.size) (h0 : x ≠ 0) (h1 : x < 4294967296) : NV (w.alloc (.cells #[.int .u32 (x : Int)] T)) (.slice (some ⟨b, 0, none⟩) 1 1) x := by
  subst hb
  refine ⟨[x], ⟨Lims.cons h1 Lims.nil, by simpa using h0⟩, by simp [val], Lims.cons h1 Lims.nil, some ⟨w.heap.size, 0, none⟩, 1, rfl, Nat.le_refl 1, by show 1 ≤ maxLen; unfold maxLen; omega, Or.inr ⟨w.heap.size, 0, rfl, by simp, ?_⟩⟩
  intro i hi
  match i, hi with
  | 0, _ => simp [go_sem]
theorem far_new2 (x y : Int) (x0 : 0 ≤ x) (x1 : x ≤ 18446744073709551615) (y0 : 0 ≤ y) (y1 : y ≤ 18446744073709551615) (B : Bool) (hB : farB [x, y] = B) (w : World) (T : TypeId) (b : Nat) (hb : b = w.heap.size) :
    Calls Tryd.prog 56 #[.slice (some ⟨b, 0, none⟩) 2 2] (w.alloc (.cells #[.int .u64 x, .int .u64 y] T)) fun e w' => e = .returned (.bool B) ∧ w.alloc (.cells #[.int .u64 x, .int .u64 y] T) = w' := by
  subst hb hB
  exact far_any _ [x, y] _ (two_lu w x y T x0 x1 y0 y1)
end Go.Proofs.YtapdjclhpcakeaaDoor

/-
  PLAIN: what is lost of a product, and it, are together just the product (Dekker). No Go function here.
-/
namespace Go.Proofs.YtapdjclhpcakeaaDoor
open Go.RowKit Nt Fm Fl

theorem valD_vlt {x : Int} (x0 : 0 ≤ x) (x1 : x ≤ 18446744073709551615) (hx : fabs x < 9218868437227405312) (t : Nat) : (valD x).vl (1074 + t) = smag x * ((2 ^ t : Nat) : Int) := by
  rw [valD_vl x x0 x1 hx t]
  unfold smag
  cases fng x <;> simp [Int.neg_mul]
theorem smag_q {x : Int} (x0 : 0 ≤ x) (x1 : x ≤ 18446744073709551615) (hx : fabs x < 9218868437227405312) : ∃ (q : Int) (j : Nat), q.natAbs < 9007199254740992 ∧ smag x = q * (Ep.P j : Int) ∧ (j : Int) = ulE x + 1074 := by
  obtain ⟨q, j, h1, h2, h3⟩ := mag_q x0 x1 hx
  cases hg : fng x
  · refine ⟨(q : Int), j, by simpa using h1, ?_, h3⟩
    unfold smag; rw [hg, if_neg (by decide), h2]; unfold Ep.P; simp
  · refine ⟨-(q : Int), j, by simpa using h1, ?_, h3⟩
    unfold smag; rw [hg, if_pos rfl, h2]; unfold Ep.P; simp [Int.neg_mul]
theorem smag_lt {x : Int} (hx : fabs x < 9218868437227405312) : (smag x).natAbs < Ep.P 2098 := by
  rw [smag_abs]
  have hb := fabs_bd x
  have h1 := mag_lt (show (fabs x).toNat < 4503599627370496 + 2046 * 4503599627370496 by omega)
  rw [mag_P 2046, show 52 + 2046 = 2098 from rfl] at h1
  exact h1
/-- the product, counted in the least number -/
theorem prod_Z {x y : Int} (x0 : 0 ≤ x) (x1 : x ≤ 18446744073709551615) (y0 : 0 ≤ y) (y1 : y ≤ 18446744073709551615) (hx : fabs x < 9218868437227405312) (hy : fabs y < 9218868437227405312) (hu : -1074 ≤ ulE x + ulE y) :
    ∃ (Z q1 q2 : Int) (J : Nat), q1.natAbs < 9007199254740992 ∧ q2.natAbs < 9007199254740992 ∧ Z = q1 * q2 * (Ep.P J : Int) ∧ (prD x y).vl (1074 + 1074) = Z * ((2 ^ 1074 : Nat) : Int) ∧ 0 ≤ (prD x y).e + ((1074 + 1074 : Nat) : Int) := by
  obtain ⟨q1, j1, a1, a2, a3⟩ := smag_q x0 x1 hx
  obtain ⟨q2, j2, b1, b2, b3⟩ := smag_q y0 y1 hy
  obtain ⟨J, hJ⟩ : ∃ J : Nat, j1 + j2 = J + 1074 := ⟨j1 + j2 - 1074, by omega⟩
  obtain ⟨p1, p2⟩ := prD_vl x0 x1 y0 y1 hx hy
  refine ⟨q1 * q2 * (Ep.P J : Int), q1, q2, J, a1, b1, rfl, ?_, p2⟩
  rw [show (1074 + 1074 : Nat) = 2148 from rfl, p1, a2, b2]
  have e : (Ep.P j1 : Int) * (Ep.P j2 : Int) = (Ep.P J : Int) * ((2 ^ 1074 : Nat) : Int) := by
    rw [← Int.natCast_mul, ← Ep.P_add, hJ, Ep.P_add, Int.natCast_mul]; rfl
  rw [Int.mul_assoc q1, Int.mul_left_comm (Ep.P j1 : Int) q2, e]; simp only [Int.mul_assoc]
theorem plus_nzr_vl {d : D} {T : Nat} (h : 0 ≤ d.e + (T : Int)) : (plus d nz).vl T = d.vl T ∧ 0 ≤ (plus d nz).e + (T : Int) := by
  have hn : 0 ≤ nz.e + (T : Int) := by unfold nz; simp only; omega
  rw [plus_vl _ _ _ h hn, vl_zero (d := nz) rfl, Int.add_zero]
  exact ⟨rfl, plus_eT h hn⟩
/-- THE LAW ExactProd -/
theorem prod_law {x y : Int} (x0 : 0 ≤ x) (x1 : x ≤ 18446744073709551615) (y0 : 0 ≤ y) (y1 : y ≤ 18446744073709551615) (hx : fabs x < 9218868437227405312) (hy : fabs y < 9218868437227405312) (hu : -1074 ≤ ulE x + ulE y) (hp : fabs (muV0 x y 0) < 9218868437227405312) :
    fabs (fmV0 x y (fneg (muV0 x y 0)) 0) < 9218868437227405312 ∧ plus (prD x y) nz = plus (valD (muV0 x y 0)) (valD (fmV0 x y (fneg (muV0 x y 0)) 0)) := by
  obtain ⟨Z, q1, q2, J, h1, h2, h3, h4, h5⟩ := prod_Z x0 x1 y0 y1 hx hy hu
  obtain ⟨-, -, m3, m4, -⟩ := mu_fin hx hy 0
  have pb := muV0_bd' x y
  have nb := fneg_bd pb.1 pb.2
  have hnr : Ep.Nr Z (smag (muV0 x y 0)) := by
    by_cases hz : (prD x y).m = 0
    · have e := smag_z (m3 hz)
      rw [e]
      have hZ : Z = 0 := by
        rw [vl_zero hz] at h4
        rcases Int.mul_eq_zero.1 h4.symm with h | h
        · exact h
        · have := Nat.two_pow_pos 1074; omega
      rw [hZ]; exact ⟨Ep.Rep.zero, fun f _ => by omega⟩
    · have e := m4 hz
      rw [e] at hp ⊢
      exact near_numR h5 h4 hp
  obtain ⟨g1, -⟩ := prod_rest (X := 0) (Y := 0) h1 h2 h3 hnr
  have hZb : Z.natAbs ≤ Ep.P (53 + 2045) := by
    have := smag_lt hp
    have r := Ep.Rep.pow 2098
    have a1 := hnr.ge r
    have a2 := hnr.le r.neg
    rw [show 53 + 2045 = 2098 from rfl]
    omega
  have hbd := Ep.half hnr hZb
  have hbd' : (Z - smag (muV0 x y 0)).natAbs ≤ Ep.P 2045 := by omega
  -- the fused one
  have hfn : fabs (fneg (muV0 x y 0)) < 9218868437227405312 := by rw [fabs_fneg]; exact hp
  have hvz := valD_vlt nb.1 nb.2 hfn 1074
  rw [smag_fneg pb.1 pb.2] at hvz
  have ez := valD_e nb.1 nb.2
  have ez' : 0 ≤ (valD (fneg (muV0 x y 0))).e + ((1074 + 1074 : Nat) : Int) := by omega
  have hfs : (fsD x y (fneg (muV0 x y 0))).vl (1074 + 1074) = (Z - smag (muV0 x y 0)) * ((2 ^ 1074 : Nat) : Int) := by
    unfold fsD
    rw [plus_vl _ _ _ h5 ez', h4, hvz, ← Int.add_mul, Int.sub_eq_add_neg]
  have efs : 0 ≤ (fsD x y (fneg (muV0 x y 0))).e + ((1074 + 1074 : Nat) : Int) := plus_eT h5 ez'
  have hsp := spB_fin hx hy
  obtain ⟨c5, c4⟩ := fcls_fin hfn
  have hr : fabs (fmV0 x y (fneg (muV0 x y 0)) 0) < 9218868437227405312 ∧ smag (fmV0 x y (fneg (muV0 x y 0)) 0) = Z - smag (muV0 x y 0) := by
    by_cases hz : (fsD x y (fneg (muV0 x y 0))).m = 0
    · have e0 : Z - smag (muV0 x y 0) = 0 := by
        rw [vl_zero hz] at hfs
        rcases Int.mul_eq_zero.1 hfs.symm with h | h
        · exact h
        · have := Nat.two_pow_pos 1074; omega
      have hfz : fabs (fmV0 x y (fneg (muV0 x y 0)) 0) = 0 := by
        unfold fmV0
        rw [hsp, if_neg (by rintro (h | ⟨h, -⟩); exact c5 h; cases h), if_neg (by decide), if_neg c4, if_neg (by omega)]
        by_cases hp0 : (prD x y).m = 0
        · rw [if_pos hp0]
          have hs0 := sgn_abs x y
          have hn0 : fabs (fneg (muV0 x y 0)) = 0 := by rw [fabs_fneg]; exact m3 hp0
          refine (allV_fin [sgn x y, fneg (muV0 x y 0)] (by intro v hv; simp at hv; rcases hv with rfl | rfl <;> omega) 0).2.2.2.2 ?_
          rw [sumD_two, valD_z (fcls_1 hs0), valD_z (fcls_1 hn0)]; rfl
        · rw [if_neg hp0, if_neg (by decide)]; decide
      rw [e0]; exact ⟨by omega, smag_z hfz⟩
    · have e : fmV0 x y (fneg (muV0 x y 0)) 0 = numR (fsD x y (fneg (muV0 x y 0))) 0 := by
        unfold fmV0
        rw [hsp, if_neg (by rintro (h | ⟨h, -⟩); exact c5 h; cases h), if_neg (by decide), if_neg c4, if_pos hz]
      rw [e]
      have hf := fin_of_le efs hfs (n := 2045) (by decide) (by decide) hbd' 0
      exact ⟨hf, (near_numR efs hfs hf).exact g1⟩
  refine ⟨hr.1, ?_⟩
  have rb := fmV_bd x y (fneg (muV0 x y 0)) 0 nb.1 nb.2
  rw [(fmV_yes (x := x) (y := y) (z := fneg (muV0 x y 0)) (mode := 0) rfl).1] at rb
  have er := valD_e rb.1 rb.2
  have ep := valD_e pb.1 pb.2
  have er' : 0 ≤ (valD (fmV0 x y (fneg (muV0 x y 0)) 0)).e + ((1074 + 1074 : Nat) : Int) := by omega
  have ep' : 0 ≤ (valD (muV0 x y 0)).e + ((1074 + 1074 : Nat) : Int) := by omega
  obtain ⟨k1, k2⟩ := plus_nzr_vl h5
  refine nf_inj (plus_Nf _ _) (plus_Nf _ _) (T := 1074 + 1074) k2 (plus_eT ep' er') ?_
  rw [k1, plus_vl _ _ _ ep' er', valD_vlt pb.1 pb.2 hp, valD_vlt rb.1 rb.2 hr.1, h4, hr.2, ← Int.add_mul]
  congr 1; omega
theorem tp_err {x y : Int} (h : tpE x y ≠ 0) : tpP x y = 0 ∧ tpR x y = 0 := by
  unfold tpP tpR; rw [if_neg h, if_neg h]; exact ⟨rfl, rfl⟩
theorem tp_val {x y : Int} (h : tpE x y = 0) : hasV x = true ∧ hasV y = true ∧ hasV (muV0 x y 0) = true := by
  unfold tpE at h
  split at h
  · rename_i h1
    unfold xcE at h1
    split at h1
    · rename_i h2
      split at h
      · rename_i h3; exact ⟨h2.1, h2.2, h3⟩
      · omega
    · omega
  · omega
theorem exactProd_a {x y : Int} (x0 : 0 ≤ x) (x1 : x ≤ 18446744073709551615) (y0 : 0 ≤ y) (y1 : y ≤ 18446744073709551615) (he : tpE x y = 0) (hu : -1074 ≤ ulE x + ulE y) :
    hasV (tpP x y) = true ∧ hasV (tpR x y) = true ∧ plus (prD x y) nz = plus (valD (tpP x y)) (valD (tpR x y)) := by
  obtain ⟨hx, hy, hp⟩ := tp_val he
  obtain ⟨h1, h2⟩ := prod_law x0 x1 y0 y1 (hasV_lt hx) (hasV_lt hy) hu (hasV_lt hp)
  have e1 : tpP x y = muV0 x y 0 := by unfold tpP; rw [if_pos he]
  have e2 : tpR x y = fmV0 x y (fneg (muV0 x y 0)) 0 := by unfold tpR; rw [if_pos he]
  rw [e1, e2]
  exact ⟨hp, hasV_of h1, h2⟩
theorem prod_fit (x y : Int) (x0 : 0 ≤ x) (x1 : x ≤ 18446744073709551615) (y0 : 0 ≤ y) (y1 : y ≤ 18446744073709551615) : Fit (prD x y) := by
  obtain ⟨a, b, c⟩ := prD_bd x y x0 x1 y0 y1
  exact fit_of (prD_nf x y) (by decide) a (by omega) (by omega)
end Go.Proofs.YtapdjclhpcakeaaDoor

/-
  PLAIN: both parts of a split number, and the products of parts (Veltkamp). No Go function here.
-/
namespace Go.Proofs.YtapdjclhpcakeaaDoor
open Go.RowKit Nt Fm Fl

theorem fin_of_mag {d : D} {t : Nat} (ht : 0 ≤ d.e + ((1074 + t : Nat) : Int)) {z : Int} (hz : d.vl (1074 + t) = z * ((2 ^ t : Nat) : Int)) {r : Nat} (hr : r < MR) (h : z.natAbs ≤ mag r) (mode : Int) : fabs (numR d mode) < 9218868437227405312 := by
  have ht' : 0 ≤ d.e + 1074 + (t : Int) := by omega
  have hMR : MR = 9218868437227405312 := rfl
  have hT : tt t d.m d.e = z.natAbs * 2 ^ t := by rw [tt_vl, hz, Int.natAbs_mul, Int.natAbs_natCast]
  have := numk_le ht' (kd d.neg mode) hr (by rw [hT]; exact Nat.mul_le_mul_right _ h)
  have h1 := (fng_numR d mode).1
  have h2 := fabs_bd (numR d mode)
  omega
theorem sum_fin_mag {x y : Int} (x0 : 0 ≤ x) (x1 : x ≤ 18446744073709551615) (y0 : 0 ≤ y) (y1 : y ≤ 18446744073709551615) (hx : fabs x < 9218868437227405312) (hy : fabs y < 9218868437227405312) {r : Nat} (hr : r < MR) (h : (smag x + smag y).natAbs ≤ mag r) (hrep : Ep.Rep (smag x + smag y)) :
    fabs (plV x y) < 9218868437227405312 ∧ smag (plV x y) = smag x + smag y := by
  have hf : fabs (plV x y) < 9218868437227405312 := by
    obtain ⟨-, -, -, a, b⟩ := allV_fin [x, y] (by simp [hx, hy]) 0
    obtain ⟨v1, v2⟩ := sumD_two_vl x0 x1 y0 y1 hx hy
    unfold plV
    by_cases hz : (sumD [x, y]).m = 0
    · rw [b hz]; decide
    · rw [a hz]
      exact fin_of_mag (t := 0) v2 (z := smag x + smag y) (by rw [show 1074 + 0 = 1074 from rfl, v1]; simp) hr h 0
  exact ⟨hf, (sum_nr x0 x1 y0 y1 hx hy hf).exact hrep⟩
/-- what the parts are -/
structure Parts (x h l : Int) : Prop where
  fh : fabs h < 9218868437227405312
  fl : fabs l < 9218868437227405312
  sum : smag h + smag l = smag x
  hi : ∃ (q : Int) (j : Nat), q.natAbs ≤ 67108864 ∧ smag h = q * (Ep.P j : Int) ∧ ulE x + 1074 ≤ (j : Int)
  lo : ∃ (q : Int) (j : Nat), q.natAbs ≤ 134217728 ∧ smag l = q * (Ep.P j : Int) ∧ ulE x + 1074 ≤ (j : Int)
theorem sg_mul (g : Bool) (m : Nat) (P : Int) : (if g = true then -((m : Nat) : Int) else (m : Int)) * P = if g = true then -((m : Int) * P) else (m : Int) * P := by
  cases g <;> simp [Int.neg_mul]
theorem cutM_zero (neg : Bool) (m : Nat) {k : Int} (hk : 0 < k) : cutM neg m k 3 = m / 2 ^ k.toNat := by
  unfold cutM
  rw [if_neg (by omega)]
  split
  · rfl
  · rw [if_neg (by unfold upB; simp), Nat.add_zero]
theorem split_parts {x : Int} (x0 : 0 ≤ x) (x1 : x ≤ 18446744073709551615) (hx : fabs x < 9218868437227405312) : Parts x (spH0 x 26) (miV x (spH0 x 26)) := by
  have hMR : MR = 9218868437227405312 := rfl
  have hbx := fabs_bd x
  have be := fexp_bd x
  have zb : smag 0 = 0 := smag_z (by decide)
  by_cases hc : fcls x = 1
  · have e : spH0 x 26 = x := by unfold spH0; rw [if_pos hc]
    have hz := fcls_zero hc
    have sx : smag x = 0 := smag_z hz
    rw [e]
    obtain ⟨a, b⟩ := diff_exactv (z := 0) x0 x1 x0 x1 hx hx (by decide) (by omega)
    refine ⟨hx, a, by omega, ⟨0, (ulE x + 1074).toNat, by decide, by omega, by omega⟩, ⟨0, (ulE x + 1074).toNat, by decide, by omega, by omega⟩⟩
  · have e : spH0 x 26 = numR (spD x 26) 0 := by unfold spH0; rw [if_neg hc]
    have hval := valD_sm x0 x1 hx
    have hve := valD_e x0 x1
    obtain ⟨f1, f2, f3, f4, f5⟩ := valD_facts x x0 x1
    have hm0 : (valD x).m ≠ 0 := by
      intro h0
      have := valD_m0 x0 x1 hx h0
      exact hc (fcls_1 this)
    have hue : ulE x ≤ (valD x).e := by
      have := (norm_bd (fng x) (max (fexp x) 1 - 1075) (k := 64) (m := if 0 < fexp x then (ffr x + 4503599627370496).toNat else (ffr x).toNat) (by have := ffr_bd x; split <;> omega)).2
      rcases this with h | h
      · exfalso; apply hm0; unfold valD; rw [h]; rfl
      · have := h.1; unfold ulE; unfold valD; exact this
    have hub : -1074 ≤ ulE x := by unfold ulE; omega
    rw [e]
    have hpl : spPl x 26 = (bl (valD x).m : Int) + (valD x).e - 26 := rfl
    have hbl := bl_lt (valD x).m
    have hbg := bl_le hm0
    have hbp := bl_pos hm0
    have hb53 : bl (valD x).m ≤ 53 := blen_le f2
    -- the higher part, counted
    obtain ⟨qh, jh, ql, jl, a1, a2, a3, a4, a5, a6, a7⟩ : ∃ (qh jh ql jl : Nat), qh ≤ 67108864 ∧ ql ≤ 134217728 ∧ ulE x + 1074 ≤ (jh : Int) ∧ ulE x + 1074 ≤ (jl : Int) ∧ (spD x 26).vl 1074 = (if (valD x).neg = true then -((qh : Nat) : Int) else (qh : Int)) * (Ep.P jh : Int) ∧
        (valD x).vl 1074 = (spD x 26).vl 1074 + (if (valD x).neg = true then -((ql : Nat) : Int) else (ql : Int)) * (Ep.P jl : Int) ∧ 0 ≤ (spD x 26).e + ((1074 : Nat) : Int) := by
      by_cases hle : spPl x 26 ≤ (valD x).e
      · have es : spD x 26 = norm (valD x).neg (valD x).m (valD x).e := by unfold spD mulD; rw [if_pos (Or.inl hle)]
        have ev : (spD x 26).vl 1074 = (valD x).vl 1074 := by rw [es, norm_vl _ _ _ _ hve]
        have hm26 : (valD x).m ≤ 67108864 := by
          have : 2 ^ bl (valD x).m ≤ 2 ^ 26 := Nat.pow_le_pow_right (by decide) (by omega)
          omega
        refine ⟨(valD x).m, ((valD x).e + ((1074 : Nat) : Int)).toNat, 0, (ulE x + 1074).toNat, hm26, by decide, by omega, by omega, ?_, ?_, ?_⟩
        · rw [ev]; unfold D.vl D.sm Ep.P; rw [Int.natCast_pow]; rfl
        · rw [ev]; simp
        · rw [es]; exact norm_eT hve
      · have es : spD x 26 = norm (valD x).neg ((valD x).m / 2 ^ (spPl x 26 - (valD x).e).toNat) (spPl x 26) := by
          unfold spD mulD; rw [if_neg (by rintro (h | h); exact hle h; exact hm0 h), cutM_zero _ _ (by omega)]
        obtain ⟨k, hk⟩ : ∃ k : Nat, spPl x 26 - (valD x).e = k := ⟨(spPl x 26 - (valD x).e).toNat, by omega⟩
        have hk2 : (spPl x 26 - (valD x).e).toNat = k := by omega
        rw [hk2] at es
        have hkl : bl (valD x).m = k + 26 := by omega
        have hq : (valD x).m / 2 ^ k < 2 ^ 26 := by
          rw [Nat.div_lt_iff_lt_mul (Nat.two_pow_pos _), ← Nat.pow_add, show 26 + k = k + 26 by omega, ← hkl]; exact hbl
        have hr : (valD x).m % 2 ^ k < 2 ^ k := Nat.mod_lt _ (Nat.two_pow_pos _)
        have hr2 : 2 ^ k ≤ 2 ^ 27 := Nat.pow_le_pow_right (by decide) (by omega)
        have hT : 0 ≤ spPl x 26 + ((1074 : Nat) : Int) := by omega
        have ev : (spD x 26).vl 1074 = (if (valD x).neg = true then -(((valD x).m / 2 ^ k : Nat) : Int) else (((valD x).m / 2 ^ k : Nat) : Int)) * (Ep.P (spPl x 26 + ((1074 : Nat) : Int)).toNat : Int) := by
          rw [es, norm_vl _ _ _ _ hT]; unfold D.vl D.sm Ep.P; simp only; rw [Int.natCast_pow]; rfl
        refine ⟨(valD x).m / 2 ^ k, (spPl x 26 + ((1074 : Nat) : Int)).toNat, (valD x).m % 2 ^ k, ((valD x).e + ((1074 : Nat) : Int)).toNat, by omega, by omega, by omega, by omega, ev, ?_, ?_⟩
        · rw [ev]
          have hdm := Nat.div_add_mod (valD x).m (2 ^ k)
          have ej : (spPl x 26 + ((1074 : Nat) : Int)).toNat = k + ((valD x).e + ((1074 : Nat) : Int)).toNat := by omega
          rw [ej, Ep.P_add]
          have ek : Ep.P k = 2 ^ k := rfl
          have ee : (valD x).vl 1074 = (if (valD x).neg = true then -(((valD x).m : Nat) : Int) else ((valD x).m : Int)) * (Ep.P ((valD x).e + ((1074 : Nat) : Int)).toNat : Int) := by
            unfold D.vl D.sm Ep.P; rw [Int.natCast_pow]; rfl
          rw [ee, ek]
          generalize ((Ep.P ((valD x).e + ((1074 : Nat) : Int)).toNat : Nat)) = U at *
          have h3 : ((valD x).m : Int) = ((2 ^ k : Nat) : Int) * (((valD x).m / 2 ^ k : Nat) : Int) + (((valD x).m % 2 ^ k : Nat) : Int) := by
            rw [← Int.natCast_mul, ← Int.natCast_add, hdm]
          generalize (((valD x).m / 2 ^ k : Nat) : Int) = Q at *
          generalize (((valD x).m % 2 ^ k : Nat) : Int) = R at *
          rw [h3, Int.natCast_mul]
          generalize ((2 ^ k : Nat) : Int) = K at *
          cases (valD x).neg
          · simp only [Bool.false_eq_true, if_false]
            rw [Int.add_mul, ← Int.mul_assoc, Int.mul_comm Q K]
          · simp only [if_true]
            rw [← Int.mul_assoc, ← Int.add_mul]; congr 1; rw [Int.neg_mul, Int.mul_comm Q K]; omega
        · rw [es]; exact norm_eT hT
    have asg : ∀ (g : Bool) (q : Nat), (if g = true then -((q : Nat) : Int) else (q : Int)).natAbs = q := by
      intro g q; cases g <;> simp
    have repH : Ep.Rep ((spD x 26).vl 1074) := by
      rw [a5]
      refine ⟨jh, ⟨_, Int.mul_comm _ _⟩, ?_⟩
      rw [Int.natAbs_mul, asg, Int.natAbs_natCast, Ep.P_add]
      exact Nat.mul_le_mul_right _ (Nat.le_trans a1 (by decide))
    -- no farther than x
    have hle : ((spD x 26).vl 1074).natAbs ≤ (smag x).natAbs ∧ (smag x - (spD x 26).vl 1074).natAbs ≤ (smag x).natAbs := by
      rw [← hval, a6, a5]
      have p1 : (0 : Int) ≤ (qh : Int) * (Ep.P jh : Int) := Int.mul_nonneg (by omega) (by omega)
      have p2 : (0 : Int) ≤ (ql : Int) * (Ep.P jl : Int) := Int.mul_nonneg (by omega) (by omega)
      rw [sg_mul, sg_mul]
      generalize (qh : Int) * (Ep.P jh : Int) = A at *
      generalize (ql : Int) * (Ep.P jl : Int) = Bq at *
      cases (valD x).neg
      · simp only [Bool.false_eq_true, if_false]; omega
      · simp only [if_true]; omega
    rw [smag_abs] at hle
    have hfin := fin_of_mag (d := spD x 26) (t := 0) a7 (z := (spD x 26).vl 1074) (by rw [show 1074 + 0 = 1074 from rfl]; simp) (r := (fabs x).toNat) (by omega) hle.1 0
    have hH := (near_numR (d := spD x 26) (t := 0) a7 (z := (spD x 26).vl 1074) (by rw [show 1074 + 0 = 1074 from rfl]; simp) hfin).exact repH
    have hb := numR_bd (spD x 26) 0
    have nb := fneg_bd hb.1 hb.2
    have hL : smag x + smag (fneg (numR (spD x 26) 0)) = (if (valD x).neg = true then -((ql : Nat) : Int) else (ql : Int)) * (Ep.P jl : Int) := by
      rw [smag_fneg hb.1 hb.2, hH, ← hval, a6]; omega
    have hl := sum_fin_mag x0 x1 nb.1 nb.2 hx (by rw [fabs_fneg]; exact hfin) (r := (fabs x).toNat) (by omega) (by
      rw [smag_fneg hb.1 hb.2, hH]; have := hle.2; rw [Int.sub_eq_add_neg] at this; exact this) (by
      rw [hL]
      refine ⟨jl, ⟨_, Int.mul_comm _ _⟩, ?_⟩
      rw [Int.natAbs_mul, asg, Int.natAbs_natCast, Ep.P_add]
      exact Nat.mul_le_mul_right _ (Nat.le_trans a2 (by decide)))
    have hl2 : smag (miV x (numR (spD x 26) 0)) = smag x + smag (fneg (numR (spD x 26) 0)) := hl.2
    refine ⟨hfin, hl.1, ?_, ⟨(if (valD x).neg = true then -((qh : Nat) : Int) else (qh : Int)), jh, by rw [asg]; exact a1, by rw [hH]; exact a5, a3⟩, ⟨(if (valD x).neg = true then -((ql : Nat) : Int) else (ql : Int)), jl, by rw [asg]; exact a2, by rw [hl2]; exact hL, a4⟩⟩
    rw [hl2, smag_fneg hb.1 hb.2]; omega
/-- a product of few bits is exact, or without an end -/
theorem prod_exact {h m : Int} (h0 : 0 ≤ h) (h1 : h ≤ 18446744073709551615) (m0 : 0 ≤ m) (m1 : m ≤ 18446744073709551615) (fh : fabs h < 9218868437227405312) (fm : fabs m < 9218868437227405312) {q1 q2 : Int} {j1 j2 : Nat}
    (a1 : q1.natAbs ≤ 67108864) (a2 : q2.natAbs ≤ 134217728) (e1 : smag h = q1 * (Ep.P j1 : Int)) (e2 : smag m = q2 * (Ep.P j2 : Int)) (hj : 1074 ≤ j1 + j2) : muC0 h m = false ∨ 4 ≤ fcls (muV0 h m 0) := by
  by_cases hf : fabs (muV0 h m 0) < 9218868437227405312
  · left
    obtain ⟨J, hJ⟩ : ∃ J : Nat, j1 + j2 = J + 1074 := ⟨j1 + j2 - 1074, by omega⟩
    obtain ⟨p1, p2⟩ := prD_vl h0 h1 m0 m1 fh fm
    obtain ⟨-, -, m3, m4, -⟩ := mu_fin fh fm 0
    have hZ : (prD h m).vl (1074 + 1074) = (q1 * q2 * (Ep.P J : Int)) * ((2 ^ 1074 : Nat) : Int) := by
      rw [show (1074 + 1074 : Nat) = 2148 from rfl, p1, e1, e2]
      have e : (Ep.P j1 : Int) * (Ep.P j2 : Int) = (Ep.P J : Int) * ((2 ^ 1074 : Nat) : Int) := by
        rw [← Int.natCast_mul, ← Ep.P_add, hJ, Ep.P_add, Int.natCast_mul]; rfl
      rw [Int.mul_assoc q1, Int.mul_left_comm (Ep.P j1 : Int) q2, e]; simp only [Int.mul_assoc]
    have hrep : Ep.Rep (q1 * q2 * (Ep.P J : Int)) := by
      refine ⟨J, ⟨_, Int.mul_comm _ _⟩, ?_⟩
      rw [Int.natAbs_mul, Int.natAbs_mul, Int.natAbs_natCast, Ep.P_add]
      have e53 : Ep.P 53 = 67108864 * 134217728 := by decide
      rw [e53]
      exact Nat.mul_le_mul_right _ (Nat.mul_le_mul a1 a2)
    have pb := muV0_bd' h m
    have hs : smag (muV0 h m 0) = q1 * q2 * (Ep.P J : Int) := by
      by_cases hz : (prD h m).m = 0
      · rw [vl_zero hz] at hZ
        rw [smag_z (m3 hz)]
        rcases Int.mul_eq_zero.1 hZ.symm with h | h
        · exact h.symm
        · have := Nat.two_pow_pos 1074; omega
      · rw [m4 hz] at hf ⊢
        exact (near_numR p2 hZ hf).exact hrep
    rcases mu_exact fh fm 0 with h | ⟨h, h'⟩
    · exact h.1
    · exfalso
      refine h' (hasV_of hf) ?_
      have ep := valD_e pb.1 pb.2
      refine nf_inj (valD_nf _) (prD_nf _ _) (T := 1074 + 1074) (by omega) p2 ?_
      rw [valD_vlt pb.1 pb.2 hf, hs, hZ]
  · right
    unfold fcls
    have := fabs_bd (muV0 h m 0)
    rw [if_neg (by omega), if_neg (by omega), if_neg (by omega)]
    split <;> omega
end Go.Proofs.YtapdjclhpcakeaaDoor
