/-
  THE WALK of the law FloatBack.
-/
import Derived.Test.YtkjgdlhdcnfmlaaFloatLives
namespace Go.Proofs.Ytkjgdlhdcnfmlaa
open Go.RowKit Fl

theorem fof_rank {n : Int} (h0 : -9218868437227405312 ≤ n) (h1 : n ≤ 9218868437227405312) : frank (fof n) = n ∧ frerr (fof n) = 0 := by
  unfold frank frerr fof fabs; omega
theorem rank_fof {x : Int} (h0 : 0 ≤ x) (h1 : x ≤ 18446744073709551615) (h : fabs x ≤ 9218868437227405312) : fof (frank x) = x ∨ (x = 9223372036854775808 ∧ fof (frank x) = 0) := by
  unfold fabs at h; unfold fof frank fabs; omega
theorem fofv_bd (n : Int) : 0 ≤ fofv n ∧ fofv n ≤ 18446744073709551615 := by
  unfold fofv fof; omega

set_option maxHeartbeats 2000000 in
theorem walkFloatBack (x : Int) (h0 : 0 ≤ x) (h1 : x ≤ 18446744073709551615) (n : Int) (n0 : -9223372036854775808 ≤ n) (n1 : n ≤ 9223372036854775807) (w : World) :
    Calls Try.prog 3 #[.int .u64 x, .int .i64 n] w fun e w' => e = .returned (.bool true) ∧ Below w.heap.size w w' := by
  have hb := frank_bd x
  have hv := fofv_bd n
  have hn : (fofe n = 1) ∨ (fofe n = 0 ∧ frank (fofv n) = n ∧ frerr (fofv n) = 0) := by
    by_cases h : -9218868437227405312 ≤ n ∧ n ≤ 9218868437227405312
    · obtain ⟨e1, e2⟩ := fofv_in h.1 h.2
      right; rw [e1, e2]; exact ⟨rfl, fof_rank h.1 h.2⟩
    · left; exact (fofv_out (by omega)).2
  have hx : (frerr x = 4) ∨ (frerr x = 0 ∧ fofe (frank x) = 0 ∧ fofv (frank x) = x) ∨ (x = 9223372036854775808) := by
    by_cases h : 9218868437227405312 < fabs x
    · left; unfold frerr; omega
    · obtain ⟨e1, e2⟩ := fofv_in hb.1 hb.2
      rcases rank_fof h0 h1 (by omega) with q4 | ⟨q5, q4⟩
      · right; left; rw [e1, e2]; refine ⟨by unfold frerr; omega, rfl, q4⟩
      · right; right; exact q5
  rcases hn with n1' | ⟨n1', n2', n3'⟩ <;> rcases hx with x1 | ⟨x1, x2, x3⟩ | x1
  all_goals
    have y1 : frank 9223372036854775808 = 0 := by decide
    have y2 : frerr 9223372036854775808 = 0 := by decide
    have y3 : fofv 0 = 0 := by decide
    have y4 : fofe 0 = 0 := by decide
    try (have x2 := x1; subst x2)
    go_enter Try.func3, Try.ntmps3
    go_wp2_with (first
      | (go_at_call 11; refine (of_any _ (by omega) (by omega) _).mono ?_; rintro e w' ⟨rfl, rfl⟩)
      | (go_at_call 12; refine (rank_any _ (by omega) (by omega) _).mono ?_; rintro e w' ⟨rfl, rfl⟩)
      | (go_at_call 13; refine (floatLives_any _).mono ?_; rintro e w' ⟨rfl, rfl⟩))
    go_ret
    exact ⟨rfl, Below.refl _ _⟩
end Go.Proofs.Ytkjgdlhdcnfmlaa
