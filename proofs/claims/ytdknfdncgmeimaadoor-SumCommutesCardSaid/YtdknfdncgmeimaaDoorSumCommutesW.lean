/-
  THE WALK of the law SumCommutes.
-/
import Derived.Test.YtdknfdncgmeimaaDoorCm
import Derived.Test.YtdknfdncgmeimaaDoorFloatB
set_option linter.unusedVariables false
set_option linter.unusedSimpArgs false
namespace Go.Proofs.YtdknfdncgmeimaaDoor
open Go.RowKit Nt Fm Fl

theorem known_modes {mode : Int} (h : knownB mode = true) : (mode = 0 ∧ swapM mode = 0) ∨ (mode = 1 ∧ swapM mode = 2) ∨ (mode = 2 ∧ swapM mode = 1) ∨ (mode = 3 ∧ swapM mode = 3) ∨ (mode = 4 ∧ swapM mode = 4) := by
  unfold knownB at h
  simp only [decide_eq_true_eq] at h
  have : mode = 0 ∨ mode = 1 ∨ mode = 2 ∨ mode = 3 ∨ mode = 4 := by omega
  rcases this with rfl | rfl | rfl | rfl | rfl <;> decide
theorem adV_swap (x y mode : Int) : adV x y mode = adV y x mode ∧ adC x y mode = adC y x mode := by
  unfold adV adC; rw [(two_swap x y mode).1, (two_swap x y mode).2]; exact ⟨rfl, rfl⟩
theorem diff_ways (x y mode : Int) (x0 : 0 ≤ x) (x1 : x ≤ 18446744073709551615) (y0 : 0 ≤ y) (y1 : y ≤ 18446744073709551615) (h : knownB mode = true) (other : Int) (ho : swapM mode = other) :
    (0 ≤ adV x (fneg y) mode ∧ adV x (fneg y) mode ≤ 18446744073709551615) ∧ (0 ≤ adV y (fneg x) other ∧ adV y (fneg x) other ≤ 18446744073709551615) ∧ adE mode = 0 ∧ adE other = 0 ∧
    ((fcls (adV x (fneg y) mode) = 5 ∧ fcls (adV y (fneg x) other) = 5) ∨ (fcls (adV x (fneg y) mode) = 1 ∧ fcls (adV y (fneg x) other) = 1) ∨
     (fcls (adV x (fneg y) mode) ≠ 5 ∧ fcls (adV x (fneg y) mode) ≠ 1 ∧ (adV y (fneg x) other == fneg (adV x (fneg y) mode)) = true)) := by
  have h2 : knownB other = true := by
    rcases known_modes h with ⟨a, b⟩ | ⟨a, b⟩ | ⟨a, b⟩ | ⟨a, b⟩ | ⟨a, b⟩ <;> rw [← ho, b] <;> decide
  have hd := diff_turned x y mode x0 x1 y0 y1
  rw [ho] at hd
  have e1 : adV x (fneg y) mode = allV [x, fneg y] mode := by unfold adV; rw [h]; rfl
  have e2 : adV y (fneg x) other = allV [y, fneg x] other := by unfold adV; rw [h2]; rfl
  have hx := fneg_bd x0 x1
  have hy := fneg_bd y0 y1
  have b1 := allV_bd [x, fneg y] (fun z hz => by simp at hz; rcases hz with rfl | rfl; · exact ⟨x0, x1⟩
                                                 exact hy) mode
  have b2 := allV_bd [y, fneg x] (fun z hz => by simp at hz; rcases hz with rfl | rfl; · exact ⟨y0, y1⟩
                                                 exact hx) other
  have a1 : adE mode = 0 := by unfold adE; rw [h]; rfl
  have a2 : adE other = 0 := by unfold adE; rw [h2]; rfl
  rw [e1, e2]
  refine ⟨b1, b2, a1, a2, ?_⟩
  generalize allV [x, fneg y] mode = G at *
  generalize allV [y, fneg x] other = I at *
  by_cases k5 : fcls G = 5
  · left
    rcases hd with hd | hd | hd
    · exact hd
    · omega
    · rw [hd, fcls_fneg]; exact ⟨k5, k5⟩
  · by_cases k1 : fcls G = 1
    · right; left
      rcases hd with hd | hd | hd
      · omega
      · exact hd
      · rw [hd, fcls_fneg]; exact ⟨k1, k1⟩
    · right; right
      rcases hd with hd | hd | hd
      · omega
      · omega
      · exact ⟨k5, k1, by rw [hd]; simp⟩

set_option maxRecDepth 100000 in
set_option maxHeartbeats 4000000 in
theorem walkSumCommutes (x : Int) (x0 : 0 ≤ x) (x1 : x ≤ 18446744073709551615) (y : Int) (y0 : 0 ≤ y) (y1 : y ≤ 18446744073709551615) (mode : Int) (m0 : -9223372036854775808 ≤ mode) (m1 : mode ≤ 9223372036854775807) (w : World) (hT : Tab w) :
    Calls Tryd.prog 10 #[.int .u64 x, .int .u64 y, .int .i64 mode] w fun e w' => e = .returned (.bool true) ∧ Below w.heap.size w w' := by
  have h1 := fun w' h => sadd_any x y mode x0 x1 y0 y1 w' h
  have h2 := fun w' h => sadd_any y x mode y0 y1 x0 x1 w' h
  rw [← (adV_swap x y mode).1, ← (adV_swap x y mode).2] at h2
  have h3 := fun w' h => ssub_any x y mode x0 x1 y0 y1 w' h
  have h4 := fun w' h => ssub_any y x (swapM mode) y0 y1 x0 x1 w' h
  have hcase : ((adE mode != 0) = true ∧ adE mode = 1 ∧ adV x y mode = 0 ∧ adC x y mode = false) ∨ (knownB mode = true) := by
    cases hk : knownB mode
    · left; unfold adE adV adC; rw [hk]; exact ⟨rfl, rfl, rfl, rfl⟩
    · right; rfl
  have HT := Lib.hid hT
  have k2 := ok2_mk
  rcases hcase with ⟨hE, hE2, hV, hC⟩ | hk
  · rw [hE2, hV, hC] at h1 h2
    have H1 := Lib.hid h1
    have H2 := Lib.hid h2
    clear hT h1 h2 h3 h4 hE hE2 hV hC
    go_enter Tryd.func10, Tryd.ntmps10
    go_wp2_with fail
    refine (H1.out _ HT.out).mono ?_
    rintro r w1 ⟨rfl, hb⟩
    have B1 := Lib.hid hb
    clear hb
    go_wp2_with fail
    refine (H2.out _ (HT.out.below B1.out)).mono ?_
    rintro r w2 ⟨rfl, hb⟩
    have B2 := Lib.hid (bl_thru B1.out (Nat.le_refl _) hb)
    clear hb
    go_wp2_with fail
    refine (sumLives_any _ (HT.out.below B2.out)).mono ?_
    rintro r w3 ⟨rfl, hb⟩
    have B3 := Lib.hid (bl_thru B2.out (Nat.le_refl _) hb)
    clear hb
    go_wp2
    go_ret
    exact ⟨rfl, B3.out⟩
  · obtain ⟨⟨g0, g1⟩, ⟨i0, i1⟩, eE, eO, hw⟩ := diff_ways x y mode x0 x1 y0 y1 hk (swapM mode) rfl
    rw [eE] at h1 h2 h3
    rw [eO] at h4
    have hV : (adV x y mode != adV x y mode) = false := by simp
    generalize adV x y mode = V at *
    have hm := known_modes hk
    generalize swapM mode = other at *
    generalize adC x y mode = C at *
    generalize adV x (fneg y) mode = G at *
    generalize adV y (fneg x) other = I at *
    generalize adC x (fneg y) mode = D1 at *
    generalize adC y (fneg x) other = D2 at *
    have H1 := Lib.hid h1
    have H2 := Lib.hid h2
    have H3 := Lib.hid h3
    have H4 := Lib.hid h4
    have HCG := Lib.hid (fun w' => class_any G g0 g1 w')
    have HCI := Lib.hid (fun w' => class_any I i0 i1 w')
    have HNG := Lib.hid (fun w' => neg_any G g0 g1 w')
    generalize fcls G = K at *
    generalize fcls I = J at *
    generalize fneg G = NG at *
    have HC : Hid (C = false ∨ C = true) := Lib.hid (Bool.eq_false_or_eq_true C).symm
    clear hT h1 h2 h3 h4 hk eE eO g0 g1 i0 i1 m0 m1
    rcases hm with ⟨rfl, rfl⟩ | ⟨rfl, rfl⟩ | ⟨rfl, rfl⟩ | ⟨rfl, rfl⟩ | ⟨rfl, rfl⟩ <;> rcases HC.out with rfl | rfl <;> rcases hw with ⟨rfl, rfl⟩ | ⟨rfl, rfl⟩ | ⟨n5, n1, hI⟩
    all_goals
      go_enter Tryd.func10, Tryd.ntmps10
      go_wp2_with fail
      refine (H1.out _ HT.out).mono ?_
      rintro r w1 ⟨rfl, hb⟩
      have B1 := Lib.hid hb
      clear hb
      go_wp2_with fail
      refine (H2.out _ (HT.out.below B1.out)).mono ?_
      rintro r w2 ⟨rfl, hb⟩
      have B2 := Lib.hid (bl_thru B1.out (Nat.le_refl _) hb)
      clear hb
      go_wp2_with fail
      refine (sumLives_any _ (HT.out.below B2.out)).mono ?_
      rintro r w3 ⟨rfl, hb⟩
      have B3 := Lib.hid (bl_thru B2.out (Nat.le_refl _) hb)
      clear hb
      go_wp2_with fail
      refine (H3.out _ (HT.out.below B3.out)).mono ?_
      rintro r w4 ⟨rfl, hb⟩
      have B4 := Lib.hid (bl_thru B3.out (Nat.le_refl _) hb)
      clear hb
      go_wp2_with fail
      refine (H4.out _ (HT.out.below B4.out)).mono ?_
      rintro r w5 ⟨rfl, hb⟩
      have B5 := Lib.hid (bl_thru B4.out (Nat.le_refl _) hb)
      clear hb
      go_wp2_with (first | (go_at_call 31; refine (ok_new2 _ _ _ _ rfl).mono ?_; rintro e w' ⟨rfl, rfl⟩) | (go_at_call 46; refine (HNG.out _).mono ?_; rintro e w' ⟨rfl, rfl⟩) | (go_at_call 44; first | (with_reducible refine (HCG.out _).mono ?_; rintro e w' ⟨rfl, rfl⟩) | (with_reducible refine (HCI.out _).mono ?_; rintro e w' ⟨rfl, rfl⟩)))
      go_ret
      exact ⟨rfl, B5.out.alloc B5.out.size _⟩
end Go.Proofs.YtdknfdncgmeimaaDoor
