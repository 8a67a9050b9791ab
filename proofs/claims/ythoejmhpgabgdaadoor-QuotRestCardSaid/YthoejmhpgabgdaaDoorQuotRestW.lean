/-
  THE WALK of the law QuotRest.
-/
import Derived.Test.YthoejmhpgabgdaaDoorRp
import Derived.Test.YthoejmhpgabgdaaDoorQl
import Derived.Test.YthoejmhpgabgdaaDoorVl
import Derived.Test.YthoejmhpgabgdaaDoorBw
set_option linter.unusedVariables false
set_option linter.unusedSimpArgs false
namespace Go.Proofs.YthoejmhpgabgdaaDoor
open Go.RowKit Nt Fm Fl

def posQ (d : D) : D := ⟨false, d.m, d.e⟩
theorem posQ_fit {d : D} (h : Fit d) : Fit (posQ d) := by
  obtain ⟨h1, h2, h3, h4⟩ := h
  refine ⟨?_, h2, h3, h4⟩
  rcases h1 with h1 | h1
  · left; rw [h1]; rfl
  · exact Or.inr h1
theorem posQ_vl (d : D) (T : Nat) : (posQ d).vl T = ((d.vl T).natAbs : Int) := by
  rw [vl_natAbs]
  unfold D.vl D.sm posQ
  simp
theorem rest_cmp {r y : Int} (r0 : 0 ≤ r) (r1 : r ≤ 18446744073709551615) (y0 : 0 ≤ y) (y1 : y ≤ 18446744073709551615) (hr : fabs r < 9218868437227405312) (hy : fabs y < 9218868437227405312) (h : 2 * mag (fabs r).toNat ≤ mag (fabs y).toNat) :
    cmp (posQ (norm (valD r).neg (valD r).m ((valD r).e + 1))) (posQ (valD y)) ≤ 0 := by
  have e1 := (valD_facts r r0 r1).2.2.1
  have e2 := (valD_facts y y0 y1).2.2.1
  have a1 : 0 ≤ (norm (valD r).neg (valD r).m ((valD r).e + 1)).e + ((1074 : Nat) : Int) := norm_eT (by omega)
  have tr := valD_sm r0 r1 hr
  have ty := valD_sm y0 y1 hy
  have nr := vl_natAbs (valD r) 1074
  have hv : ((norm (valD r).neg (valD r).m ((valD r).e + 1)).vl 1074).natAbs = 2 * mag (fabs r).toNat := by
    rw [norm_vl _ _ _ _ (by omega), vl_natAbs]
    rw [tr, smag_abs] at nr
    show (valD r).m * 2 ^ ((valD r).e + 1 + ((1074 : Nat) : Int)).toNat = _
    rw [show ((valD r).e + 1 + ((1074 : Nat) : Int)).toNat = ((valD r).e + ((1074 : Nat) : Int)).toNat + 1 by omega, Nat.pow_succ, ← Nat.mul_assoc, ← nr, Nat.mul_comm]
  rw [cmp_vl (posQ (norm (valD r).neg (valD r).m ((valD r).e + 1))) (posQ (valD y)) 1074 a1 (by show 0 ≤ (valD y).e + ((1074 : Nat) : Int); omega), posQ_vl, posQ_vl, hv, ty, smag_abs]
  rcases Int.lt_trichotomy (((2 * mag (fabs r).toNat : Nat) : Int) - ((mag (fabs y).toNat : Nat) : Int)) 0 with h1 | h1 | h1
  · rw [Int.sign_eq_neg_one_of_neg h1]; decide
  · rw [h1]; decide
  · omega
theorem mag_three {K : Nat} (hK : K = 1074) : mag 4613937818241073152 = 3 * 2 ^ K := by
  obtain ⟨j, hj⟩ : ∃ j, j + 51 = K := ⟨K - 51, by omega⟩
  have e : 6755399441055744 + j * 4503599627370496 = 4613937818241073152 := by omega
  clear hK
  have := mag_of 6755399441055744 j (Or.inl (by decide)) (by decide)
  rw [e] at this
  rw [this, ← hj, show 6755399441055744 = 3 * 2 ^ 51 by decide, Nat.mul_assoc, ← Nat.pow_add, Nat.add_comm 51]
theorem three_mult {y : Int} (y0 : 0 ≤ y) (y1 : y ≤ 18446744073709551615) (hy : fabs y < 9218868437227405312) (hym : (valD y).m ≠ 0) (hc : muC y 4613937818241073152 0 = false) (hp : fcls (muV y 4613937818241073152 0) < 4) :
    fcls (remV (muV y 4613937818241073152 0) y) = 1 := by
  obtain ⟨p0, p1⟩ := muV_bd y 4613937818241073152 0
  have h3 : fabs 4613937818241073152 < 9218868437227405312 := by decide
  have hy0 : fabs y ≠ 0 := fun h => by rw [valD_z (fcls_1 h)] at hym; exact hym rfl
  have hk : knownB 0 = true := by decide
  obtain ⟨-, m2, -, m4, -⟩ := mu_fin hy h3 0
  rw [(muV_yes hk).1] at hp p0 p1 ⊢
  rw [(muV_yes hk).2.1, m2] at hc
  have hpf : fabs (muV0 y 4613937818241073152 0) < 9218868437227405312 := by
    apply Classical.byContradiction; intro k
    by_cases e : fabs (muV0 y 4613937818241073152 0) = 9218868437227405312
    · have := fcls_4 e; omega
    · have := fcls_5 (show 9218868437227405312 < fabs (muV0 y 4613937818241073152 0) by omega); omega
  obtain ⟨K, hK⟩ : ∃ K, K = 1074 := ⟨_, rfl⟩
  obtain ⟨v, -⟩ := prD_vl' y0 y1 (show (0 : Int) ≤ 4613937818241073152 by decide) (by decide) hy h3 K hK
  have e3 : (fabs 4613937818241073152).toNat = 4613937818241073152 := by decide
  have hv : ((prD y 4613937818241073152).vl (1074 + K)).natAbs = mag (fabs y).toNat * (3 * 2 ^ K) := by
    rw [v, Int.natAbs_mul, smag_abs, smag_abs, e3, mag_three hK]
  have by' := fabs_bd y
  have hB : 0 < mag (fabs y).toNat := by
    have := mag_lt (show 0 < (fabs y).toNat by omega); rw [mag_zero] at this; exact this
  have hz : (prD y 4613937818241073152).m ≠ 0 := by
    intro h
    rw [vl_zero h] at hv
    have h2 : mag (fabs y).toNat * (3 * 2 ^ K) = 0 := hv.symm
    rcases Nat.mul_eq_zero.1 h2 with h2 | h2
    · omega
    · have := Nat.two_pow_pos K; omega
  have hn := m4 hz
  obtain ⟨w1, -⟩ := valD_numR (prD_nf y 4613937818241073152) 0 hc
  rw [← hn] at w1
  refine rest_mult (k := 3) p0 p1 hpf hy hy0 ?_
  have ht := (valD_tt (muV0 y 4613937818241073152 0) p0 p1 K).resolve_right (by omega)
  rw [tt_vl, w1, hv, ← Nat.mul_assoc, Nat.mul_comm _ 3] at ht
  exact (Nat.eq_of_mul_eq_mul_right (Nat.two_pow_pos K) ht).symm
theorem ofD_yesr {x : Int} (h : hasV x = true) : ofD x = valD x := by unfold ofD; rw [if_pos h]
theorem len_ofr {w : World} {a : Option Addr} {n c m : Nat} (h : NV w (.slice a n c) m) : (m = 0 ∧ n = 0) ∨ (m ≠ 0 ∧ 1 ≤ n) := by
  obtain ⟨ao', n', c', h1, -, -, h2⟩ := nv_len h
  simp only [Value.slice.injEq] at h1
  obtain ⟨-, rfl, -⟩ := h1
  exact h2
theorem twice_fit (x : Int) (x0 : 0 ≤ x) (x1 : x ≤ 18446744073709551615) : Fit (norm (ofD x).neg (ofD x).m ((ofD x).e + 1)) := by
  have hb : (ofD x).m < 2 ^ 53 ∧ -1074 ≤ (ofD x).e ∧ (ofD x).e ≤ 1100 := by
    obtain ⟨a, b, c, d, -⟩ := valD_facts x x0 x1
    unfold ofD; split
    · exact ⟨b, c, d⟩
    · exact ⟨by decide, by decide, by decide⟩
  obtain ⟨b1, b2⟩ := norm_bd (ofD x).neg ((ofD x).e + 1) hb.1
  refine fit_of (norm_nf _ _ _) (k := 53) (by omega) (by omega) ?_ ?_
  · rcases b2 with b2 | b2
    · rw [b2]; decide
    · omega
  · rcases b2 with b2 | b2
    · rw [b2]; decide
    · omega
set_option maxRecDepth 100000 in
set_option maxHeartbeats 16000000 in
theorem walkQuotRest (x : Int) (x0 : 0 ≤ x) (x1 : x ≤ 18446744073709551615) (y : Int) (y0 : 0 ≤ y) (y1 : y ≤ 18446744073709551615) (w : World) (hT : Tab w) :
    Calls Tryd.prog 8 #[.int .u64 x, .int .u64 y] w fun e w' => e = .returned (.bool true) ∧ Below w.heap.size w w' := by
  obtain ⟨p0, p1⟩ := remV_bd (y := y) x0 x1
  have HM := Lib.hid (fun w' h => qrem_any x y x0 x1 y0 y1 w' h)
  have HA := Lib.hid (fun w' h => valu_any (remV x y) p0 p1 w' h)
  have HB := Lib.hid (fun w' h => valu_any y y0 y1 w' h)
  have F_a := Lib.hid (ofD_fit (remV x y) p0 p1)
  have F_b := Lib.hid (ofD_fit y y0 y1)
  have HT := Lib.hid hT
  clear hT
  have hcase : hasV (remV x y) = false ∨ (hasV (remV x y) = true ∧ (hasV y = false ∨ (hasV y = true ∧ ((ofD y).m = 0 ∨ (ofD y).m ≠ 0)))) := by
    cases hasV (remV x y) <;> cases hasV y <;> simp <;> omega
  rcases hcase with vx | ⟨vx, vy | ⟨vy, hz | hz⟩⟩
  · obtain ⟨D_a, hD_a⟩ : ∃ D, D = ofD (remV x y) := ⟨_, rfl⟩
    obtain ⟨D_b, hD_b⟩ : ∃ D, D = ofD y := ⟨_, rfl⟩
    rw [← hD_a] at HA F_a
    rw [← hD_b] at HB F_b
    skip
    clear hD_a hD_b
    generalize remV x y = r at *
    generalize hasV r = hr at *
    generalize hasV y = hy at *
    go_enter Tryd.func8, Tryd.ntmps8
    go_wp2_with fail
    refine (HM.out _ HT.out).mono ?_
    rintro r w1 ⟨rfl, hb⟩
    have S : Below w.heap.size w w1 := hb
    have B := Lib.hid S
    clear hb S
    go_wp2_with fail
    refine (HA.out _ (HT.out.below B.out)).mono ?_
    rintro r w2 ⟨a_a, n_a, k_a, rfl, hv, hb⟩
    have S : Below w1.heap.size w1 w2 := hb
    replace B := Lib.hid (bl_thru B.out (Nat.le_refl _) S)
    have R_a := Lib.hid (rd_of (d := D_a) hv F_a.out)
    clear hb S hv
    go_wp2_with fail
    refine (HB.out _ (HT.out.below (by have := B.out; have := B.out.size; go_grown))).mono ?_
    rintro r w3 ⟨a_b, n_b, k_b, rfl, hv, hb⟩
    have S : Below w2.heap.size w2 w3 := bl_thru (by go_grown) (Nat.le_refl _) hb
    replace B := Lib.hid (bl_thru B.out (Nat.le_refl _) S)
    have X_a := Lib.hid ((Box.new w2 _ _ _ _).below hb)
    replace R_a := Lib.hid (R_a.out.below S)
    have R_b := Lib.hid (rd_of (d := D_b) hv F_b.out)
    clear hb S hv
    have zb := B.out.size
    go_wp2_with fail
    refine (quotLives_any _ (HT.out.below (by have := B.out; have := B.out.size; go_grown))).mono ?_
    rintro r w4 ⟨rfl, hb⟩
    have S : Below w3.heap.size w3 w4 := bl_thru (by go_grown) (Nat.le_refl _) hb
    replace B := Lib.hid (bl_thru B.out (Nat.le_refl _) S)
    replace X_a := Lib.hid (X_a.out.below S)
    have X_b := Lib.hid ((Box.new w3 _ _ _ _).below hb)
    replace R_a := Lib.hid (R_a.out.below S)
    replace R_b := Lib.hid (R_b.out.below S)
    clear hb S
    go_wp2_with fail
    refine (quotLives_any _ (HT.out.below B.out)).mono ?_
    rintro r w5 ⟨rfl, hb⟩
    have S : Below w4.heap.size w4 w5 := hb
    replace B := Lib.hid (bl_thru B.out (Nat.le_refl _) S)
    replace X_a := Lib.hid (X_a.out.below S)
    replace X_b := Lib.hid (X_b.out.below S)
    replace R_a := Lib.hid (R_a.out.below S)
    replace R_b := Lib.hid (R_b.out.below S)
    clear hb S
    go_wp2
    go_ret
    exact ⟨rfl, B.out⟩
  · obtain ⟨D_a, hD_a⟩ : ∃ D, D = ofD (remV x y) := ⟨_, rfl⟩
    obtain ⟨D_b, hD_b⟩ : ∃ D, D = ofD y := ⟨_, rfl⟩
    rw [← hD_a] at HA F_a
    rw [← hD_b] at HB F_b
    rw [vx] at HA
    clear vx
    clear hD_a hD_b
    generalize remV x y = r at *
    generalize hasV r = hr at *
    generalize hasV y = hy at *
    go_enter Tryd.func8, Tryd.ntmps8
    go_wp2_with fail
    refine (HM.out _ HT.out).mono ?_
    rintro r w1 ⟨rfl, hb⟩
    have S : Below w.heap.size w w1 := hb
    have B := Lib.hid S
    clear hb S
    go_wp2_with fail
    refine (HA.out _ (HT.out.below B.out)).mono ?_
    rintro r w2 ⟨a_a, n_a, k_a, rfl, hv, hb⟩
    have S : Below w1.heap.size w1 w2 := hb
    replace B := Lib.hid (bl_thru B.out (Nat.le_refl _) S)
    have R_a := Lib.hid (rd_of (d := D_a) hv F_a.out)
    clear hb S hv
    go_wp2_with fail
    refine (HB.out _ (HT.out.below (by have := B.out; have := B.out.size; go_grown))).mono ?_
    rintro r w3 ⟨a_b, n_b, k_b, rfl, hv, hb⟩
    have S : Below w2.heap.size w2 w3 := bl_thru (by go_grown) (Nat.le_refl _) hb
    replace B := Lib.hid (bl_thru B.out (Nat.le_refl _) S)
    have X_a := Lib.hid ((Box.new w2 _ _ _ _).below hb)
    replace R_a := Lib.hid (R_a.out.below S)
    have R_b := Lib.hid (rd_of (d := D_b) hv F_b.out)
    clear hb S hv
    have zb := B.out.size
    go_wp2_with fail
    refine (quotLives_any _ (HT.out.below (by have := B.out; have := B.out.size; go_grown))).mono ?_
    rintro r w4 ⟨rfl, hb⟩
    have S : Below w3.heap.size w3 w4 := bl_thru (by go_grown) (Nat.le_refl _) hb
    replace B := Lib.hid (bl_thru B.out (Nat.le_refl _) S)
    replace X_a := Lib.hid (X_a.out.below S)
    have X_b := Lib.hid ((Box.new w3 _ _ _ _).below hb)
    replace R_a := Lib.hid (R_a.out.below S)
    replace R_b := Lib.hid (R_b.out.below S)
    clear hb S
    go_wp2_with fail
    refine (quotLives_any _ (HT.out.below B.out)).mono ?_
    rintro r w5 ⟨rfl, hb⟩
    have S : Below w4.heap.size w4 w5 := hb
    replace B := Lib.hid (bl_thru B.out (Nat.le_refl _) S)
    replace X_a := Lib.hid (X_a.out.below S)
    replace X_b := Lib.hid (X_b.out.below S)
    replace R_a := Lib.hid (R_a.out.below S)
    replace R_b := Lib.hid (R_b.out.below S)
    clear hb S
    go_wp2
    go_ret
    exact ⟨rfl, B.out⟩
  · obtain ⟨D_a, hD_a⟩ : ∃ D, D = ofD (remV x y) := ⟨_, rfl⟩
    obtain ⟨D_b, hD_b⟩ : ∃ D, D = ofD y := ⟨_, rfl⟩
    rw [← hD_a] at HA F_a
    rw [← hD_b] at HB F_b
    rw [← hD_b] at hz
    rw [vx] at HA
    rw [vy] at HB
    clear vx vy
    clear hD_a hD_b
    generalize remV x y = r at *
    generalize hasV r = hr at *
    generalize hasV y = hy at *
    go_enter Tryd.func8, Tryd.ntmps8
    go_wp2_with fail
    refine (HM.out _ HT.out).mono ?_
    rintro r w1 ⟨rfl, hb⟩
    have S : Below w.heap.size w w1 := hb
    have B := Lib.hid S
    clear hb S
    go_wp2_with fail
    refine (HA.out _ (HT.out.below B.out)).mono ?_
    rintro r w2 ⟨a_a, n_a, k_a, rfl, hv, hb⟩
    have S : Below w1.heap.size w1 w2 := hb
    replace B := Lib.hid (bl_thru B.out (Nat.le_refl _) S)
    have R_a := Lib.hid (rd_of (d := D_a) hv F_a.out)
    clear hb S hv
    go_wp2_with fail
    refine (HB.out _ (HT.out.below (by have := B.out; have := B.out.size; go_grown))).mono ?_
    rintro r w3 ⟨a_b, n_b, k_b, rfl, hv, hb⟩
    have S : Below w2.heap.size w2 w3 := bl_thru (by go_grown) (Nat.le_refl _) hb
    replace B := Lib.hid (bl_thru B.out (Nat.le_refl _) S)
    have X_a := Lib.hid ((Box.new w2 _ _ _ _).below hb)
    replace R_a := Lib.hid (R_a.out.below S)
    have R_b := Lib.hid (rd_of (d := D_b) hv F_b.out)
    clear hb S hv
    have zb := B.out.size
    go_wp2_with fail
    refine (quotLives_any _ (HT.out.below (by have := B.out; have := B.out.size; go_grown))).mono ?_
    rintro r w4 ⟨rfl, hb⟩
    have S : Below w3.heap.size w3 w4 := bl_thru (by go_grown) (Nat.le_refl _) hb
    replace B := Lib.hid (bl_thru B.out (Nat.le_refl _) S)
    replace X_a := Lib.hid (X_a.out.below S)
    have X_b := Lib.hid ((Box.new w3 _ _ _ _).below hb)
    replace R_a := Lib.hid (R_a.out.below S)
    replace R_b := Lib.hid (R_b.out.below S)
    clear hb S
    have hlen := len_ofr (nv_of_rd R_b.out)
    obtain rfl : n_b = 0 := by omega
    clear hlen hz
    obtain ⟨c0_b, c1_b, c2_b, d0_b, d1_b, d2_b⟩ := X_b.out.cells
    have l_b := X_b.out.lt
    go_wp2_with fail
    refine (quotLives_any _ (HT.out.below B.out)).mono ?_
    rintro r w5 ⟨rfl, hb⟩
    have S : Below w4.heap.size w4 w5 := hb
    replace B := Lib.hid (bl_thru B.out (Nat.le_refl _) S)
    replace X_a := Lib.hid (X_a.out.below S)
    replace X_b := Lib.hid (X_b.out.below S)
    replace R_a := Lib.hid (R_a.out.below S)
    replace R_b := Lib.hid (R_b.out.below S)
    clear hb S c0_b c1_b c2_b d0_b d1_b d2_b l_b
    go_wp2
    go_ret
    exact ⟨rfl, B.out⟩
  · have hym : (valD y).m ≠ 0 := by rw [← ofD_yesr vy]; exact hz
    have hyf : fabs y < 9218868437227405312 := by unfold hasV at vy; simpa using vy
    have hrf : fabs (remV x y) < 9218868437227405312 := by unfold hasV at vx; simpa using vx
    obtain ⟨rl1, rl2⟩ := rest_law x0 x1 y0 y1 vx vy hym
    have hcm := rest_cmp p0 p1 y0 y1 hrf hyf rl1
    rw [← ofD_yesr vx, ← ofD_yesr vy] at hcm
    have h3m := fun h1 h2 => three_mult y0 y1 hyf hym h1 h2
    have mb := muV_bd y 4613937818241073152 0
    have HRR := Lib.hid (fun w' h => qrem_any (remV x y) y p0 p1 y0 y1 w' h)
    rw [rl2] at HRR
    have HMU := Lib.hid (fun w' h => pmul_any y 4613937818241073152 0 y0 y1 (by decide) (by decide) w' h)
    have had : adE 0 = 0 := by decide
    rw [had] at HMU
    have HNO := Lib.hid (fun w' h => qrem_any (muV y 4613937818241073152 0) y mb.1 mb.2 y0 y1 w' h)
    have CP := Lib.hid (fun w' => class_any (muV y 4613937818241073152 0) mb.1 mb.2 w')
    have nbd := remV_bd (y := y) mb.1 mb.2
    have CN := Lib.hid (fun w' => class_any (remV (muV y 4613937818241073152 0) y) nbd.1 nbd.2 w')
    have F_t := Lib.hid (twice_fit (remV x y) p0 p1)
    have HS1 : Hid (∀ v w', Tab w' → RD w' v 0 (ofD (remV x y)) → Calls Tryd.prog 37 #[v, .int .i64 1] w' (RetR w' 0 (norm (ofD (remV x y)).neg (ofD (remV x y)).m ((ofD (remV x y)).e + 1)))) := Lib.hid (fun v w' h0 h1 => by
      have := shift_any v 0 1 (ofD (remV x y)) w' h0 h1 (by omega) (by omega)
      have e1 : shE 0 1 (norm (ofD (remV x y)).neg (ofD (remV x y)).m ((ofD (remV x y)).e + 1)) = 0 := by unfold shE; rw [if_pos rfl, if_neg (by omega), fitE_of F_t.out]
      have e2 : shR 0 1 (norm (ofD (remV x y)).neg (ofD (remV x y)).m ((ofD (remV x y)).e + 1)) = norm (ofD (remV x y)).neg (ofD (remV x y)).m ((ofD (remV x y)).e + 1) := by unfold shR; rw [if_pos e1]
      rw [e1, e2] at this; exact this)
    obtain ⟨D_a, hD_a⟩ : ∃ D, D = ofD (remV x y) := ⟨_, rfl⟩
    obtain ⟨D_b, hD_b⟩ : ∃ D, D = ofD y := ⟨_, rfl⟩
    rw [← hD_a] at HA F_a
    rw [← hD_b] at HB F_b
    obtain ⟨D_t, hD_t⟩ : ∃ D, D = norm (ofD (remV x y)).neg (ofD (remV x y)).m ((ofD (remV x y)).e + 1) := ⟨_, rfl⟩
    rw [← hD_t] at F_t HS1 hcm
    rw [← hD_a] at HS1
    rw [← hD_b] at hcm hz
    rw [vx] at HA
    rw [vy] at HB
    have PF_t := Lib.hid (posQ_fit F_t.out)
    have PF_b := Lib.hid (posQ_fit F_b.out)
    have HCM : Hid (∀ v1 v2 w', Tab w' → RD w' v1 0 (posQ D_t) → RD w' v2 0 (posQ D_b) → Calls Tryd.prog 38 #[v1, v2] w' fun r w'' => r = .returned (.tuple #[.int .i64 (cmp (posQ D_t) (posQ D_b)), .int .i64 0]) ∧ Below w'.heap.size w' w'') := Lib.hid (fun v1 v2 w' h0 h1 h2 => by
      have := cmp_any v1 v2 0 0 (posQ D_t) (posQ D_b) w' h0 h1 h2
      have e1 : cmE 0 0 (posQ D_t) (posQ D_b) = cmp (posQ D_t) (posQ D_b) := by unfold cmE; rw [if_pos (by rfl)]
      have e2 : ck2 0 0 = 0 := rfl
      rw [e1, e2] at this; exact this)
    clear vx vy hD_a hD_b hD_t hym hyf hrf rl1 rl2 had
    generalize cmp (posQ D_t) (posQ D_b) = cn at *
    generalize remV (muV y 4613937818241073152 0) y = no at *
    generalize muV y 4613937818241073152 0 = pv at *
    generalize muC y 4613937818241073152 0 = pc at *
    generalize fcls pv = cp at *
    generalize fcls no = cno at *
    generalize remV x y = rv at *
    have hway : pc = true ∨ (pc = false ∧ (4 ≤ cp ∨ (cp < 4 ∧ cno = 1))) := by
      cases pc
      · right; refine ⟨rfl, ?_⟩
        by_cases h : 4 ≤ cp
        · exact Or.inl h
        · exact Or.inr ⟨by omega, h3m rfl (by omega)⟩
      · exact Or.inl rfl
    clear h3m
    go_enter Tryd.func8, Tryd.ntmps8
    go_wp2_with fail
    refine (HM.out _ HT.out).mono ?_
    rintro r w1 ⟨rfl, hb⟩
    have S : Below w.heap.size w w1 := hb
    have B := Lib.hid S
    clear hb S
    go_wp2_with fail
    refine (HA.out _ (HT.out.below B.out)).mono ?_
    rintro r w2 ⟨a_a, n_a, k_a, rfl, hv, hb⟩
    have S : Below w1.heap.size w1 w2 := hb
    replace B := Lib.hid (bl_thru B.out (Nat.le_refl _) S)
    have R_a := Lib.hid (rd_of (d := D_a) hv F_a.out)
    clear hb S hv
    go_wp2_with fail
    refine (HB.out _ (HT.out.below (by have := B.out; have := B.out.size; go_grown))).mono ?_
    rintro r w3 ⟨a_b, n_b, k_b, rfl, hv, hb⟩
    have S : Below w2.heap.size w2 w3 := bl_thru (by go_grown) (Nat.le_refl _) hb
    replace B := Lib.hid (bl_thru B.out (Nat.le_refl _) S)
    have X_a := Lib.hid ((Box.new w2 _ _ _ _).below hb)
    replace R_a := Lib.hid (R_a.out.below S)
    have R_b := Lib.hid (rd_of (d := D_b) hv F_b.out)
    clear hb S hv
    have zb := B.out.size
    go_wp2_with fail
    refine (quotLives_any _ (HT.out.below (by have := B.out; have := B.out.size; go_grown))).mono ?_
    rintro r w4 ⟨rfl, hb⟩
    have S : Below w3.heap.size w3 w4 := bl_thru (by go_grown) (Nat.le_refl _) hb
    replace B := Lib.hid (bl_thru B.out (Nat.le_refl _) S)
    replace X_a := Lib.hid (X_a.out.below S)
    have X_b := Lib.hid ((Box.new w3 _ _ _ _).below hb)
    replace R_a := Lib.hid (R_a.out.below S)
    replace R_b := Lib.hid (R_b.out.below S)
    clear hb S
    have hlen := len_ofr (nv_of_rd R_b.out)
    have hnb : 1 ≤ n_b := by omega
    clear hlen hz
    obtain ⟨c0_b, c1_b, c2_b, d0_b, d1_b, d2_b⟩ := X_b.out.cells
    have l_b := X_b.out.lt
    obtain ⟨c0_a, c1_a, c2_a, d0_a, d1_a, d2_a⟩ := X_a.out.cells
    have l_a := X_a.out.lt
    go_wp2_with fail
    refine (HS1.out _ _ (HT.out.below B.out) R_a.out).mono ?_
    rintro r w5 ⟨a_t, n_t, k_t, rfl, hv, hb⟩
    have S : Below w4.heap.size w4 w5 := hb
    replace B := Lib.hid (bl_thru B.out (Nat.le_refl _) S)
    clear X_a
    replace X_b := Lib.hid (X_b.out.below S)
    clear R_a
    replace R_b := Lib.hid (R_b.out.below S)
    have R_t := Lib.hid (rd_of (d := D_t) hv F_t.out)
    clear hb S hv c0_b c1_b c2_b d0_b d1_b d2_b l_b c0_a c1_a c2_a d0_a d1_a d2_a l_a
    obtain ⟨c0_b, c1_b, c2_b, d0_b, d1_b, d2_b⟩ := X_b.out.cells
    have l_b := X_b.out.lt
    have lt_b := X_b.out.lt
    have WAY := Lib.hid hway
    clear hway
    go_wp2_with fail
    have N_t := nv_of_rd R_t.out
    have N_b := nv_of_rd R_b.out
    have BW : Hid (Below w.heap.size w _) := Lib.hid ((B.out.setCell (p := ⟨w3.heap.size, 0, none⟩) zb (.bool false)).alloc (by simp [World.setCell]; exact B.out.size) (.cells #[.bool false, .slice a_t n_t k_t, .int .i64 D_t.e] 52))
    refine (HCM.out _ _ _ (HT.out.below BW.out) (rd_of (d := posQ D_t) ((N_t.setBox X_b.out (noLimb_bool _) (noLimb_slice _ _ _) (noLimb_i64 _) 0 (.bool false)).alloc _) PF_t.out) (rd_of (d := posQ D_b) ((N_b.setBox X_b.out (noLimb_bool _) (noLimb_slice _ _ _) (noLimb_i64 _) 0 (.bool false)).alloc _) PF_b.out)).mono ?_
    rintro q w6 ⟨rfl, hb⟩
    have B6 : Hid (Below w.heap.size w w6) := Lib.hid (bl_thru BW.out (Nat.le_refl _) hb)
    clear hb N_t N_b BW R_t R_b X_b c0_b c1_b c2_b d0_b d1_b d2_b l_b lt_b
    go_wp2_with fail
    refine (HRR.out _ (HT.out.below B6.out)).mono ?_
    rintro q w7 ⟨rfl, hb⟩
    have B7 : Hid (Below w.heap.size w w7) := Lib.hid (bl_thru B6.out (Nat.le_refl _) hb)
    clear hb
    go_wp2_with fail
    refine (HMU.out _ (HT.out.below B7.out)).mono ?_
    rintro q w8 ⟨rfl, hb⟩
    have B8 : Hid (Below w.heap.size w w8) := Lib.hid (bl_thru B7.out (Nat.le_refl _) hb)
    clear hb
    go_wp2_with fail
    refine (HNO.out _ (HT.out.below B8.out)).mono ?_
    rintro q w9 ⟨rfl, hb⟩
    have B9 : Hid (Below w.heap.size w w9) := Lib.hid (bl_thru B8.out (Nat.le_refl _) hb)
    clear hb HCM HRR HMU HNO HS1 HA HB HM B
    have ok3m : ok3 0 0 0 = true := by decide
    rcases WAY.out with rfl | ⟨rfl, h | ⟨h, rfl⟩⟩
    all_goals
      go_wp2_with (first
        | (go_at_call 18; refine (ok_new3 _ _ _ _ _ rfl).mono ?_; rintro e w' ⟨rfl, rfl⟩)
        | (go_at_call 19; first | ((with_reducible refine (CP.out _).mono ?_); rintro e w' ⟨rfl, rfl⟩) | ((with_reducible refine (CN.out _).mono ?_); rintro e w' ⟨rfl, rfl⟩)))
      all_goals (go_ret; exact ⟨rfl, B9.out.alloc B9.out.size _⟩)
end Go.Proofs.YthoejmhpgabgdaaDoor
