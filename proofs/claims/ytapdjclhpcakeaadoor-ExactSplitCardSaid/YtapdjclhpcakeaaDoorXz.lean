/-
  PLAIN: sums that are exact; with 0 added, or times 1. exactLives walked.
-/
import Derived.Test.YtapdjclhpcakeaaDoorXp
import Derived.Test.YtapdjclhpcakeaaDoorXs
set_option linter.unusedVariables false
set_option linter.unusedSimpArgs false
namespace Go.Proofs.YtapdjclhpcakeaaDoor
open Go.RowKit Nt Fm Fl

/-- a sum that is a number -/
theorem sum_exactv {x y z : Int} (x0 : 0 ≤ x) (x1 : x ≤ 18446744073709551615) (y0 : 0 ≤ y) (y1 : y ≤ 18446744073709551615) (hx : fabs x < 9218868437227405312) (hy : fabs y < 9218868437227405312) (hz : fabs z < 9218868437227405312) (h : smag x + smag y = smag z) :
    fabs (plV x y) < 9218868437227405312 ∧ smag (plV x y) = smag z := by
  obtain ⟨-, -, -, a, b⟩ := allV_fin [x, y] (by simp [hx, hy]) 0
  obtain ⟨v1, v2⟩ := sumD_two_vl x0 x1 y0 y1 hx hy
  have hf : fabs (plV x y) < 9218868437227405312 := by
    unfold plV
    by_cases hm : (sumD [x, y]).m = 0
    · rw [b hm]; decide
    · rw [a hm]
      have hb := fabs_bd z
      have hMR : MR = 9218868437227405312 := rfl
      have ht : tt 0 (sumD [x, y]).m (sumD [x, y]).e = mag (fabs z).toNat * 2 ^ 0 := by
        rw [tt_vl, show 1074 + 0 = 1074 from rfl, v1, h, smag_abs]; simp
      have := numk_exact (t := 0) (by omega) (kd (sumD [x, y]).neg 0) _ (by omega) ht
      have h1 := (fng_numR (sumD [x, y]) 0).1
      have h2 := fabs_bd (numR (sumD [x, y]) 0)
      omega
  have hn := sum_nr x0 x1 y0 y1 hx hy hf
  exact ⟨hf, (hn.exact (by rw [h]; exact rep_smag z)).trans h⟩
theorem smag_0 {v : Int} (h : smag v = 0) : fabs v = 0 := by
  have h1 := smag_abs v
  have h2 := fabs_bd v
  rw [h] at h1
  have : mag (fabs v).toNat = mag 0 := by rw [mag_zero]; omega
  have := mag_inj this
  omega
theorem diff_exactv {x y z : Int} (x0 : 0 ≤ x) (x1 : x ≤ 18446744073709551615) (y0 : 0 ≤ y) (y1 : y ≤ 18446744073709551615) (hx : fabs x < 9218868437227405312) (hy : fabs y < 9218868437227405312) (hz : fabs z < 9218868437227405312) (h : smag x - smag y = smag z) :
    fabs (miV x y) < 9218868437227405312 ∧ smag (miV x y) = smag z := by
  obtain ⟨n0, n1⟩ := fneg_bd y0 y1
  exact sum_exactv x0 x1 n0 n1 hx (by rw [fabs_fneg]; exact hy) hz (by rw [smag_fneg y0 y1]; omega)
theorem pl_zero {x : Int} (x0 : 0 ≤ x) (x1 : x ≤ 18446744073709551615) (hx : fabs x < 9218868437227405312) : plV x 0 = x ∨ x = 9223372036854775808 := by
  by_cases h : x = 9223372036854775808
  · exact Or.inr h
  · left
    obtain ⟨-, -, -, a, b⟩ := allV_fin [x, 0] (by simp [hx]; decide) 0
    have e : sumD [x, 0] = valD x := by rw [sumD_two, valD_z (x := 0) (by rfl), plus_nz_right (valD_nf x)]
    rw [e] at a b
    unfold plV
    by_cases hm : (valD x).m = 0
    · have hz := valD_m0 x0 x1 hx hm
      have : x = 0 := by unfold fabs at hz; omega
      subst this; exact (by kernel_rfl : allV [0, 0] 0 = 0)
    · rw [a hm]
      rcases (valD_num x x0 x1 hx 0).2 with h1 | h1
      · exact h1
      · exact absurd h1.1 h
theorem zero_law {x : Int} (x0 : 0 ≤ x) (x1 : x ≤ 18446744073709551615) (hv : hasV x = true) :
    tsE x 0 = 0 ∧ (tsS x 0 = x ∨ x = 9223372036854775808) ∧ fcls (tsR x 0) = 1 ∧ tpE x 4607182418800017408 = 0 ∧ tpP x 4607182418800017408 = x ∧ fcls (tpR x 4607182418800017408) = 1 := by
  have hx : fabs x < 9218868437227405312 := by unfold hasV at hv; simpa using hv
  have z0 : (0 : Int) ≤ 0 := by decide
  have z1 : (0 : Int) ≤ 18446744073709551615 := by decide
  have hz : fabs 0 < 9218868437227405312 := by decide
  have sz : smag 0 = 0 := smag_z (by decide)
  obtain ⟨s1, s2⟩ := sum_exactv (z := x) x0 x1 z0 z1 hx hz hx (by omega)
  obtain ⟨sb0, sb1⟩ := plV_bd x0 x1 z0 z1
  obtain ⟨a1, a2⟩ := diff_exactv (z := x) sb0 sb1 z0 z1 s1 hz hx (by omega)
  obtain ⟨ab0, ab1⟩ := miV_bd sb0 sb1 z0 z1
  obtain ⟨b1, b2⟩ := diff_exactv (z := 0) sb0 sb1 ab0 ab1 s1 a1 hz (by omega)
  obtain ⟨bb0, bb1⟩ := miV_bd sb0 sb1 ab0 ab1
  obtain ⟨p1, p2⟩ := diff_exactv (z := 0) x0 x1 ab0 ab1 hx a1 hz (by omega)
  obtain ⟨pb0, pb1⟩ := miV_bd x0 x1 ab0 ab1
  obtain ⟨q1, q2⟩ := diff_exactv (z := 0) z0 z1 bb0 bb1 hz b1 hz (by omega)
  obtain ⟨qb0, qb1⟩ := miV_bd z0 z1 bb0 bb1
  obtain ⟨r1, r2⟩ := sum_exactv (z := 0) pb0 pb1 qb0 qb1 p1 q1 hz (by omega)
  have e0 : tsE x 0 = 0 := by
    have h1 : xcE x 0 = 0 := by unfold xcE; rw [if_pos ⟨hv, by decide⟩]
    have h2 : hasV (plV x 0) = true := by unfold hasV; simpa using s1
    unfold tsE; rw [if_pos h1, if_pos h2]
  have m1 : muV0 x 4607182418800017408 0 = x := by
    rcases (mu_one 0 x0 x1).2 with h | h
    · exact absurd h (fcls_fin hx).1
    · exact h
  have e1 : tpE x 4607182418800017408 = 0 := by
    have h1 : xcE x 4607182418800017408 = 0 := by unfold xcE; rw [if_pos ⟨hv, by decide⟩]
    unfold tpE; rw [if_pos h1, m1, if_pos hv]
  obtain ⟨n0, n1⟩ := fneg_bd x0 x1
  refine ⟨e0, ?_, ?_, e1, ?_, ?_⟩
  · unfold tsS; rw [if_pos e0]; exact pl_zero x0 x1 hx
  · unfold tsR; rw [if_pos e0]
    exact fcls_1 (smag_0 (by rw [sz] at r2; exact r2))
  · unfold tpP; rw [if_pos e1, m1]
  · unfold tpR; rw [if_pos e1, m1, (fm_one 0 x0 x1 n0 n1).1]
    have := (diff_exactv (z := 0) x0 x1 x0 x1 hx hx hz (by omega)).2
    exact fcls_1 (smag_0 (by rw [sz] at this; exact this))
theorem zero_none {x : Int} (hv : hasV x = false) : tsE x 0 = 4 ∧ tpE x 4607182418800017408 = 4 := by
  have h1 : ∀ y, xcE x y = 4 := fun y => by unfold xcE; rw [if_neg]; rintro ⟨h, -⟩; rw [hv] at h; cases h
  unfold tsE tpE; rw [h1, h1, if_neg (by decide), if_neg (by decide)]; exact ⟨rfl, rfl⟩

theorem xlives_facts : (tsS 4607182418800017408 4363988038922010624 = 4607182418800017408 ∧ tsR 4607182418800017408 4363988038922010624 = 4363988038922010624 ∧ tsE 4607182418800017408 4363988038922010624 = 0) ∧
    (tpP 4607182418800017409 4607182418800017409 = 4607182418800017410 ∧ tpR 4607182418800017409 4607182418800017409 = 4138808057553485824 ∧ tpE 4607182418800017409 4607182418800017409 = 0) ∧
    (spH 4607182418800017409 26 = 4607182418800017408 ∧ spL 4607182418800017409 26 = 4372995238176751616 ∧ spE 4607182418800017409 26 = 0) :=
  ⟨⟨by kernel_rfl, by kernel_rfl, by kernel_rfl⟩, ⟨by kernel_rfl, by kernel_rfl, by kernel_rfl⟩, ⟨by kernel_rfl, by kernel_rfl, by kernel_rfl⟩⟩
set_option maxRecDepth 100000 in
set_option maxHeartbeats 4000000 in
theorem exactLives_any (w : World) (hT : Tab w) :
    Calls Tryd.prog 32 #[] w fun e w' => e = .returned (.bool true) ∧ Below w.heap.size w w' := by
  obtain ⟨⟨e1, e2, e3⟩, ⟨e4, e5, e6⟩, ⟨e7, e8, e9⟩⟩ := xlives_facts
  have h1 := fun w' h => twoSum_any 4607182418800017408 4363988038922010624 (by decide) (by decide) (by decide) (by decide) w' h
  have h2 := fun w' h => twoProd_any 4607182418800017409 4607182418800017409 (by decide) (by decide) (by decide) (by decide) w' h
  have h3 := fun w' h => split_any 4607182418800017409 26 (by decide) (by decide) (by decide) (by decide) w' h
  rw [e1, e2, e3] at h1
  rw [e4, e5, e6] at h2
  rw [e7, e8, e9] at h3
  have H1 := Lib.hid h1
  have H2 := Lib.hid h2
  have H3 := Lib.hid h3
  have HT := Lib.hid hT
  have k3 := ok3_mk
  clear h1 h2 h3 hT e1 e2 e3 e4 e5 e6 e7 e8 e9
  go_enter Tryd.func32, Tryd.ntmps32
  go_wp2_with fail
  refine (H1.out _ HT.out).mono ?_
  rintro r w1 ⟨rfl, hb⟩
  have B1 := Lib.hid hb
  clear hb
  go_wp2_with fail
  refine (H2.out _ (HT.out.below B1.out)).mono ?_
  rintro r w2 ⟨rfl, hb⟩
  have B2 := Lib.hid (bl_thru B1.out (Nat.le_refl _) hb)
  clear hb
  go_wp2_with fail
  refine (H3.out _ (HT.out.below B2.out)).mono ?_
  rintro r w3 ⟨rfl, hb⟩
  have B3 := Lib.hid (bl_thru B2.out (Nat.le_refl _) hb)
  clear hb
  go_wp2_with (go_at_call 28; refine (ok_new3 _ _ _ _ _ rfl).mono ?_; rintro e w' ⟨rfl, rfl⟩)
  go_ret
  exact ⟨rfl, B3.out.alloc B3.out.size _⟩
end Go.Proofs.YtapdjclhpcakeaaDoor
