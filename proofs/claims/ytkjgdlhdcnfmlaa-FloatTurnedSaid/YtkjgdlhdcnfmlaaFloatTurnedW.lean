/-
  THE WALK of the law FloatTurned.
-/
import Derived.Test.YtkjgdlhdcnfmlaaFloatLives
namespace Go.Proofs.Ytkjgdlhdcnfmlaa
open Go.RowKit Fl

theorem fnext_form {x : Int} (h : fabs x ≤ 9218868437227405312) : fnext x = if frank x = 9218868437227405312 then x else if frank x = -1 then 9223372036854775808 else fof (frank x + 1) := by
  unfold fnext; rw [if_neg (by omega)]
theorem fprev_form {x : Int} (h : fabs x ≤ 9218868437227405312) : fprev x = if frank x = -9218868437227405312 then x else fof (frank x - 1) := by
  unfold fprev; rw [if_neg (by omega)]
theorem turned_facts {x : Int} (h0 : 0 ≤ x) (h1 : x ≤ 18446744073709551615) :
    frerr (fneg x) = frerr x ∧ (fabs x ≤ 9218868437227405312 → frank (fneg x) = -frank x ∧ frerr (fnext (fneg x)) = 0 ∧ frerr (fprev x) = 0 ∧ frank (fnext (fneg x)) = -frank (fprev x)) := by
  have e0 : fabs (fneg x) = fabs x := by unfold fabs fneg; omega
  refine ⟨by unfold frerr; rw [e0], fun h => ?_⟩
  have hb := fabs_bd x
  have e1 : frank (fneg x) = -frank x := by unfold frank; rw [e0]; unfold fabs at *; unfold fneg; omega
  have e2 := frank_bd x
  have e3 : ∀ n, -9218868437227405312 ≤ n → n ≤ 9218868437227405312 → frank (fof n) = n ∧ frerr (fof n) = 0 := by
    intro n _ _; unfold frank frerr fof fabs; omega
  have e4 : frank 9223372036854775808 = 0 ∧ frerr 9223372036854775808 = 0 := by decide
  have e5 : frerr x = 0 ∧ frerr (fneg x) = 0 := by unfold frerr; omega
  have f1 := fnext_form (x := fneg x) (by omega)
  have f2 := fprev_form h
  rw [e1] at f1
  rw [f1, f2]
  by_cases ha : frank x = -9218868437227405312
  · rw [if_pos (by omega), if_pos ha]
    exact ⟨e1, e5.2, e5.1, e1⟩
  · rw [if_neg (show ¬ -frank x = 9218868437227405312 by omega), if_neg ha]
    by_cases hc : frank x = 1
    · have g := e3 (frank x - 1) (by omega) (by omega)
      rw [if_pos (show -frank x = -1 by omega), g.1, g.2, e4.1, e4.2]
      exact ⟨e1, rfl, rfl, by omega⟩
    · have g := e3 (frank x - 1) (by omega) (by omega)
      have g2 := e3 (-frank x + 1) (by omega) (by omega)
      rw [if_neg (show ¬ -frank x = -1 by omega), g.1, g.2, g2.1, g2.2]
      exact ⟨e1, rfl, rfl, by omega⟩

set_option maxHeartbeats 2000000 in
theorem walkFloatTurned (x : Int) (h0 : 0 ≤ x) (h1 : x ≤ 18446744073709551615) (w : World) :
    Calls Try.prog 6 #[.int .u64 x] w fun e w' => e = .returned (.bool true) ∧ Below w.heap.size w w' := by
  obtain ⟨t1, t2⟩ := turned_facts h0 h1
  have b0 := fneg_bd h0 h1
  have b1 := fnext_bd b0.1 b0.2
  have b2 := fprev_bd h0 h1
  have c1 := frank_bd x
  have c2 := frank_bd (fprev x)
  by_cases hx : 9218868437227405312 < fabs x
  · have q3 : frerr x = 4 := by unfold frerr; omega
    rw [q3] at t1
    clear t2
    go_enter Try.func6, Try.ntmps6
    go_wp2_with (first
      | (go_at_call 12; refine (rank_any _ (by omega) (by omega) _).mono ?_; rintro e w' ⟨rfl, rfl⟩)
      | (go_at_call 20; refine (next_any _ (by omega) (by omega) _).mono ?_; rintro e w' ⟨rfl, rfl⟩)
      | (go_at_call 21; refine (prev_any _ (by omega) (by omega) _).mono ?_; rintro e w' ⟨rfl, rfl⟩)
      | (go_at_call 16; refine (neg_any _ (by omega) (by omega) _).mono ?_; rintro e w' ⟨rfl, rfl⟩)
      | (go_at_call 13; refine (floatLives_any _).mono ?_; rintro e w' ⟨rfl, rfl⟩)
      | (go_at_call 19; refine (ok_new3 _ _ _ _ _ (by simp)).mono ?_; rintro e w' ⟨rfl, rfl⟩))
    go_ret
    exact ⟨rfl, by go_grown⟩
  · have q3 : frerr x = 0 := by unfold frerr; omega
    obtain ⟨r1, r2, r3, r4⟩ := t2 (by omega)
    have q6 : ok3 0 0 0 = true := by decide
    rw [q3] at t1
    clear t2
    go_enter Try.func6, Try.ntmps6
    go_wp2_with (first
      | (go_at_call 12; refine (rank_any _ (by omega) (by omega) _).mono ?_; rintro e w' ⟨rfl, rfl⟩)
      | (go_at_call 20; refine (next_any _ (by omega) (by omega) _).mono ?_; rintro e w' ⟨rfl, rfl⟩)
      | (go_at_call 21; refine (prev_any _ (by omega) (by omega) _).mono ?_; rintro e w' ⟨rfl, rfl⟩)
      | (go_at_call 16; refine (neg_any _ (by omega) (by omega) _).mono ?_; rintro e w' ⟨rfl, rfl⟩)
      | (go_at_call 13; refine (floatLives_any _).mono ?_; rintro e w' ⟨rfl, rfl⟩)
      | (go_at_call 19; refine (ok_new3 _ _ _ _ _ (by simp)).mono ?_; rintro e w' ⟨rfl, rfl⟩))
    go_ret
    exact ⟨rfl, by go_grown⟩
end Go.Proofs.Ytkjgdlhdcnfmlaa
