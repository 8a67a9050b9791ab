/-
  THE WALK of the law SumSmall.
-/
import Derived.Test.YtdknfdncgmeimaaDoorSa
import Derived.Test.YtdknfdncgmeimaaDoorNear
set_option linter.unusedVariables false
set_option linter.unusedSimpArgs false
namespace Go.Proofs.YtdknfdncgmeimaaDoor
open Go.RowKit Nt Fm Fl

theorem numk_kind (k m : Nat) (e : Int) : numk 0 m e ≤ numk k m e ∧ numk k m e ≤ numk 0 m e + 1 := by
  obtain ⟨h1, h2⟩ := @numk_sides m e k
  cases hc : chg m e
  · have ht : (0 : Int) ≤ e + 1074 + ((-(e + 1074)).toNat : Nat) := by omega
    obtain ⟨a1, a2⟩ := chg_exact ht 0 hc
    have := numk_exact ht k _ a1 a2
    omega
  · have := h1 hc; omega
theorem small_exact {k m : Nat} {e : Int} (he : -1074 ≤ e) (h : numk k m e < 4503599627370496) : chg m e = false := by
  have hMR : MR = 9218868437227405312 := rfl
  by_cases hm : m = 0
  · unfold chg; simp [hm]
  · have h0 := (numk_kind k m e).1
    by_cases hk : kk m e = -1074
    · have hs : ss m e ≤ 0 := by unfold ss; omega
      have hr : rr m e = 0 := by unfold rr; rw [if_pos hs]
      have hq := qq_lt m e
      have hj : jj m e = 0 := by unfold jj; rw [hk]; rfl
      have h1 : r0 m e < MR := by unfold r0; rw [hj]; omega
      unfold chg
      simp [hr]; omega
    · exfalso
      have hj : 1 ≤ jj m e := by have := jj_eq m e; have := kk_ge m e; omega
      have hq : 4503599627370496 ≤ qq m e := by
        rcases qq_ge hm e with h1 | h1
        · exact h1
        · omega
      have hr : 9007199254740992 ≤ r0 m e := by
        unfold r0
        have : 1 * 4503599627370496 ≤ jj m e * 4503599627370496 := Nat.mul_le_mul_right _ hj
        omega
      have h2 : 4503599627370496 ≤ numk 0 m e := by
        unfold numk
        rw [if_neg hm]
        have e1 : r1 0 m e = r0 m e := by unfold r1 upk; simp
        rw [e1]
        split
        · rw [if_pos rfl]; omega
        · omega
      omega
theorem allV_in (l : List Int) (mode : Int) (h : ∀ x ∈ l, 0 ≤ x ∧ x ≤ 18446744073709551615) : 0 ≤ allV l mode ∧ allV l mode ≤ 18446744073709551615 := by
  have hi := stL_inf l h l.length (Nat.le_refl _)
  rw [List.take_length] at hi
  have hk := numk_le_MR (kd (stL l).s.neg mode) (stL l).s.m (stL l).s.e
  have hMR : MR = 9218868437227405312 := rfl
  unfold allV
  split
  · omega
  · split
    · exact ⟨hi.1, hi.2.1⟩
    · split
      · unfold numR; split <;> omega
      · split
        · omega
        · split
          · omega
          · split <;> omega
theorem sum_small (l : List Int) (mode : Int) (h : ∀ x ∈ l, 0 ≤ x ∧ x ≤ 18446744073709551615) (hc : fcls (allV l mode) ≤ 2) : allC l = false := by
  have hs := stL_sml l h l.length (Nat.le_refl _)
  rw [List.take_length] at hs
  unfold allV at hc
  unfold allC
  split
  · rfl
  · rename_i h1
    rw [if_neg h1] at hc
    split
    · rfl
    · rename_i h2
      rw [if_neg h2] at hc
      split
      · rename_i h3
        rw [if_pos h3] at hc
        have hk := (fng_numR (stL l).s mode).1
        have hlt : fabs (numR (stL l).s mode) < 4503599627370496 := by
          have hb := fabs_bd (numR (stL l).s mode)
          unfold fcls at hc
          split at hc
          · omega
          · split at hc
            · assumption
            · split at hc
              · omega
              · split at hc <;> omega
        have hb := fabs_bd (numR (stL l).s mode)
        exact small_exact (k := kd (stL l).s.neg mode) hs.2.1 (by omega)
      · rfl

set_option maxHeartbeats 4000000 in
theorem walkSumSmall (x : Int) (x0 : 0 ≤ x) (x1 : x ≤ 18446744073709551615) (y : Int) (y0 : 0 ≤ y) (y1 : y ≤ 18446744073709551615) (mode : Int) (m0 : -9223372036854775808 ≤ mode) (m1 : mode ≤ 9223372036854775807) (w : World) (hT : Tab w) :
    Calls Tryd.prog 9 #[.int .u64 x, .int .u64 y, .int .i64 mode] w fun e w' => e = .returned (.bool true) ∧ Below w.heap.size w w' := by
  have hl : ∀ z ∈ [x, y], 0 ≤ z ∧ z ≤ 18446744073709551615 := fun z hz => by
    simp at hz
    rcases hz with rfl | rfl
    · exact ⟨x0, x1⟩
    · exact ⟨y0, y1⟩
  have hadd := fun w' h => sadd_any x y mode x0 x1 y0 y1 w' h
  have hcase : ((adE mode != 0) = true ∧ adV x y mode = 0) ∨ (adE mode = 0 ∧ 0 ≤ adV x y mode ∧ adV x y mode ≤ 18446744073709551615 ∧ (2 < fcls (adV x y mode) ∨ (fcls (adV x y mode) ≤ 2 ∧ adC x y mode = false))) := by
    cases hk : knownB mode
    · left; unfold adE adV; rw [hk]; exact ⟨rfl, rfl⟩
    · right
      have hb := allV_in [x, y] mode hl
      have e1 : adV x y mode = allV [x, y] mode := by unfold adV; rw [hk]; rfl
      have e2 : adC x y mode = allC [x, y] := by unfold adC; rw [hk]; rfl
      have e3 : adE mode = 0 := by unfold adE; rw [hk]; rfl
      rw [e1, e2, e3]
      refine ⟨rfl, hb.1, hb.2, ?_⟩
      by_cases hc : fcls (allV [x, y] mode) ≤ 2
      · right; exact ⟨hc, sum_small _ _ hl hc⟩
      · left; omega
  generalize adV x y mode = V at *
  generalize adC x y mode = C at *
  generalize adE mode = E at *
  have HADD := Lib.hid hadd
  have HT := Lib.hid hT
  have HCL := Lib.hid (fun (h0 : 0 ≤ V) (h1 : V ≤ 18446744073709551615) w' => class_any V h0 h1 w')
  clear hadd hT hl
  generalize fcls V = K at *
  rcases hcase with ⟨hE, rfl⟩ | ⟨rfl, v0, v1, hK | ⟨hK, rfl⟩⟩
  · go_enter Tryd.func9, Tryd.ntmps9
    go_wp2_with fail
    refine (HADD.out _ HT.out).mono ?_
    rintro r w1 ⟨rfl, hb⟩
    have B1 := Lib.hid hb
    clear hb
    go_wp2_with fail
    refine (sumLives_any _ (HT.out.below B1.out)).mono ?_
    rintro r w2 ⟨rfl, hb⟩
    have B2 := Lib.hid (bl_thru B1.out (Nat.le_refl _) hb)
    clear hb
    go_wp2_with fail
    refine (sumLives_any _ (HT.out.below B2.out)).mono ?_
    rintro r w3 ⟨rfl, hb⟩
    have B3 := Lib.hid (bl_thru B2.out (Nat.le_refl _) hb)
    clear hb
    go_wp2
    go_ret
    exact ⟨rfl, B3.out⟩
  all_goals
    go_enter Tryd.func9, Tryd.ntmps9
    go_wp2_with fail
    refine (HADD.out _ HT.out).mono ?_
    rintro r w1 ⟨rfl, hb⟩
    have B1 := Lib.hid hb
    clear hb
    go_wp2_with fail
    refine (sumLives_any _ (HT.out.below B1.out)).mono ?_
    rintro r w2 ⟨rfl, hb⟩
    have B2 := Lib.hid (bl_thru B1.out (Nat.le_refl _) hb)
    clear hb
    go_wp2_with (go_at_call 44; refine (HCL.out v0 v1 _).mono ?_; rintro e w' ⟨rfl, rfl⟩)
    go_ret
    exact ⟨rfl, B2.out⟩
end Go.Proofs.YtdknfdncgmeimaaDoor
