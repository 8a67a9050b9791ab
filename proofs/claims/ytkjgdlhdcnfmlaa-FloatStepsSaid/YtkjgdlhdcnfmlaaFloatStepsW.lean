/-
  THE WALK of the law FloatSteps.
-/
import Derived.Test.YtkjgdlhdcnfmlaaFloatLives
namespace Go.Proofs.Ytkjgdlhdcnfmlaa
open Go.RowKit Fl

theorem step_facts {x : Int} (h0 : 0 ≤ x) (h1 : x ≤ 18446744073709551615) (h : fabs x ≤ 9218868437227405312) (hx : x ≠ 9218868437227405312) :
    frank (fnext x) = frank x + 1 ∧ frerr (fnext x) = 0 ∧ frank (fprev (fnext x)) = frank x ∧ frerr (fprev (fnext x)) = 0 := by
  have e3 : ∀ n, -9218868437227405312 ≤ n → n ≤ 9218868437227405312 → frank (fof n) = n ∧ frerr (fof n) = 0 ∧ fabs (fof n) ≤ 9218868437227405312 := by
    intro n _ _; unfold frank frerr fof fabs; omega
  have e2 := frank_bd x
  have e4 : frank 9223372036854775808 = 0 ∧ frerr 9223372036854775808 = 0 ∧ fabs 9223372036854775808 ≤ 9218868437227405312 := by decide
  have e5 : frank x ≠ 9218868437227405312 := by unfold frank; unfold fabs at *; omega
  have f1 : fnext x = if frank x = -1 then 9223372036854775808 else fof (frank x + 1) := by
    unfold fnext; rw [if_neg (by omega), if_neg e5]
  have e1 : frank (fnext x) = frank x + 1 ∧ frerr (fnext x) = 0 ∧ fabs (fnext x) ≤ 9218868437227405312 := by
    rw [f1]; split
    · rename_i h; rw [e4.1, h]; exact ⟨rfl, e4.2⟩
    · exact e3 _ (by omega) (by omega)
  obtain ⟨g1, g2, g3⟩ := e1
  have f2 : fprev (fnext x) = fof (frank x) := by
    unfold fprev; rw [if_neg (by omega), g1, if_neg (by omega)]; congr 1; omega
  rw [f2]
  have g4 := e3 (frank x) (by omega) (by omega)
  exact ⟨g1, g2, g4.1, g4.2.1⟩
theorem inf_facts : fnext 9218868437227405312 = 9218868437227405312 ∧ frank 9218868437227405312 = 9218868437227405312 ∧ frerr 9218868437227405312 = 0 ∧ frerr (fprev 9218868437227405312) = 0 := by decide

set_option maxHeartbeats 2000000 in
theorem walkFloatSteps (x : Int) (h0 : 0 ≤ x) (h1 : x ≤ 18446744073709551615) (y : Int) (y0 : 0 ≤ y) (y1 : y ≤ 18446744073709551615) (w : World) :
    Calls Try.prog 5 #[.int .u64 x, .int .u64 y] w fun e w' => e = .returned (.bool true) ∧ Below w.heap.size w w' := by
  have b1 := fnext_bd h0 h1
  have b2 := fprev_bd b1.1 b1.2
  have c1 := frank_bd x
  have c2 := frank_bd y
  by_cases hx : 9218868437227405312 < fabs x
  · have q3 : frerr x = 4 := by unfold frerr; omega
    have q5 : fnext x = 9221120237041090560 := by unfold fnext; rw [if_pos hx]
    have q6 : ok2 4 (frerr y) = false := by simp [ok2]
    rw [q5] at b1
    go_enter Try.func5, Try.ntmps5
    go_wp2_with (first
      | (go_at_call 12; refine (rank_any _ (by omega) (by omega) _).mono ?_; rintro e w' ⟨rfl, rfl⟩)
      | (go_at_call 20; refine (next_any _ (by omega) (by omega) _).mono ?_; rintro e w' ⟨rfl, rfl⟩)
      | (go_at_call 21; refine (prev_any _ (by omega) (by omega) _).mono ?_; rintro e w' ⟨rfl, rfl⟩)
      | (go_at_call 13; refine (floatLives_any _).mono ?_; rintro e w' ⟨rfl, rfl⟩)
      | (go_at_call 19; refine (ok_new2 _ _ _ _ (by simp)).mono ?_; rintro e w' ⟨rfl, rfl⟩))
    go_ret
    exact ⟨rfl, by go_grown⟩
  · have q3 : frerr x = 0 := by unfold frerr; omega
    by_cases hy : 9218868437227405312 < fabs y
    · have q4 : frerr y = 4 := by unfold frerr; omega
      have q6 : ok2 0 4 = false := by decide
      go_enter Try.func5, Try.ntmps5
      go_wp2_with (first
        | (go_at_call 12; refine (rank_any _ (by omega) (by omega) _).mono ?_; rintro e w' ⟨rfl, rfl⟩)
        | (go_at_call 20; refine (next_any _ (by omega) (by omega) _).mono ?_; rintro e w' ⟨rfl, rfl⟩)
        | (go_at_call 21; refine (prev_any _ (by omega) (by omega) _).mono ?_; rintro e w' ⟨rfl, rfl⟩)
        | (go_at_call 13; refine (floatLives_any _).mono ?_; rintro e w' ⟨rfl, rfl⟩)
        | (go_at_call 19; refine (ok_new2 _ _ _ _ (by simp)).mono ?_; rintro e w' ⟨rfl, rfl⟩))
      go_ret
      exact ⟨rfl, by go_grown⟩
    · have q4 : frerr y = 0 := by unfold frerr; omega
      have q6 : ok2 0 0 = true := by decide
      by_cases hi : x = 9218868437227405312
      · subst hi
        obtain ⟨r1, r2, r3, r4⟩ := inf_facts
        have r5 : frank y ≤ 9218868437227405312 := c2.2
        rw [r1] at b1 b2
        go_enter Try.func5, Try.ntmps5
        go_wp2_with (first
          | (go_at_call 12; refine (rank_any _ (by omega) (by omega) _).mono ?_; rintro e w' ⟨rfl, rfl⟩)
          | (go_at_call 20; refine (next_any _ (by omega) (by omega) _).mono ?_; rintro e w' ⟨rfl, rfl⟩)
          | (go_at_call 21; refine (prev_any _ (by omega) (by omega) _).mono ?_; rintro e w' ⟨rfl, rfl⟩)
          | (go_at_call 13; refine (floatLives_any _).mono ?_; rintro e w' ⟨rfl, rfl⟩)
          | (go_at_call 19; refine (ok_new2 _ _ _ _ (by simp)).mono ?_; rintro e w' ⟨rfl, rfl⟩))
        go_ret
        exact ⟨rfl, by go_grown⟩
      · obtain ⟨r1, r2, r3, r4⟩ := step_facts h0 h1 (by omega) hi
        have hi' : (x != 9218868437227405312) = true := by simp [hi]
        by_cases hle : frank y ≤ frank x
        · go_enter Try.func5, Try.ntmps5
          go_wp2_with (first
            | (go_at_call 12; refine (rank_any _ (by omega) (by omega) _).mono ?_; rintro e w' ⟨rfl, rfl⟩)
            | (go_at_call 20; refine (next_any _ (by omega) (by omega) _).mono ?_; rintro e w' ⟨rfl, rfl⟩)
            | (go_at_call 21; refine (prev_any _ (by omega) (by omega) _).mono ?_; rintro e w' ⟨rfl, rfl⟩)
            | (go_at_call 13; refine (floatLives_any _).mono ?_; rintro e w' ⟨rfl, rfl⟩)
            | (go_at_call 19; refine (ok_new2 _ _ _ _ (by simp)).mono ?_; rintro e w' ⟨rfl, rfl⟩))
          go_ret
          exact ⟨rfl, by go_grown⟩
        · have hge : frank x + 1 ≤ frank y := by omega
          go_enter Try.func5, Try.ntmps5
          go_wp2_with (first
            | (go_at_call 12; refine (rank_any _ (by omega) (by omega) _).mono ?_; rintro e w' ⟨rfl, rfl⟩)
            | (go_at_call 20; refine (next_any _ (by omega) (by omega) _).mono ?_; rintro e w' ⟨rfl, rfl⟩)
            | (go_at_call 21; refine (prev_any _ (by omega) (by omega) _).mono ?_; rintro e w' ⟨rfl, rfl⟩)
            | (go_at_call 13; refine (floatLives_any _).mono ?_; rintro e w' ⟨rfl, rfl⟩)
            | (go_at_call 19; refine (ok_new2 _ _ _ _ (by simp)).mono ?_; rintro e w' ⟨rfl, rfl⟩))
          go_ret
          exact ⟨rfl, by go_grown⟩
end Go.Proofs.Ytkjgdlhdcnfmlaa
