/-
  THE WALKS of package float: Of, Next, Prev, and the law's own 'ok'.
-/
import Derived.Test.YtkjgdlhdcnfmlaaFloat
namespace Go.Proofs.Ytkjgdlhdcnfmlaa
open Go.RowKit Fl

theorem of_in (n : Int) (h0 : -9218868437227405312 ≤ n) (h1 : n ≤ 9218868437227405312) (w : World) :
    Calls Try.prog 11 #[.int .i64 n] w fun e w' => e = .returned (.tuple #[.int .u64 (fof n), .int .i64 0]) ∧ w = w' := by
  by_cases hc : n < 0
  · have e1 := or_sign (-n) (by omega) (by omega)
    have e2 : fof n = -n + 9223372036854775808 := by unfold fof; omega
    rw [e2]; clear e2
    go_enter Try.func11, Try.ntmps11
    go_wp2
    go_ret2
    exact ⟨rfl, rfl⟩
  · have e2 : fof n = n := by unfold fof; omega
    rw [e2]; clear e2
    go_enter Try.func11, Try.ntmps11
    go_wp2
    go_ret2
    exact ⟨rfl, rfl⟩
theorem of_out (n : Int) (h0 : -9223372036854775808 ≤ n) (h1 : n ≤ 9223372036854775807) (h : n < -9218868437227405312 ∨ 9218868437227405312 < n) (w : World) :
    Calls Try.prog 11 #[.int .i64 n] w fun e w' => e = .returned (.tuple #[.int .u64 0, .int .i64 1]) ∧ w = w' := by
  rcases h with h | h
  · go_enter Try.func11, Try.ntmps11
    go_wp2
    go_ret2
    exact ⟨rfl, rfl⟩
  · have h' : ¬ n < -9218868437227405312 := by omega
    go_enter Try.func11, Try.ntmps11
    go_wp2
    go_ret2
    exact ⟨rfl, rfl⟩

theorem of_any (n : Int) (h0 : -9223372036854775808 ≤ n) (h1 : n ≤ 9223372036854775807) (w : World) :
    Calls Try.prog 11 #[.int .i64 n] w fun e w' => e = .returned (.tuple #[.int .u64 (fofv n), .int .i64 (fofe n)]) ∧ w = w' := by
  by_cases h : -9218868437227405312 ≤ n ∧ n ≤ 9218868437227405312
  · obtain ⟨e1, e2⟩ := fofv_in h.1 h.2
    rw [e1, e2]; exact of_in n h.1 h.2 w
  · have h' : n < -9218868437227405312 ∨ 9218868437227405312 < n := by omega
    obtain ⟨e1, e2⟩ := fofv_out h'
    rw [e1, e2]; exact of_out n h0 h1 h' w

theorem next_any (x : Int) (h0 : 0 ≤ x) (h1 : x ≤ 18446744073709551615) (w : World) :
    Calls Try.prog 20 #[.int .u64 x] w fun e w' => e = .returned (.int .u64 (fnext x)) ∧ w = w' := by
  have hb := frank_bd x
  by_cases hn : 9218868437227405312 < fabs x
  · have h3 : frerr x = 4 := by unfold frerr; omega
    have h4 : fnext x = 9221120237041090560 := by unfold fnext; rw [if_pos hn]
    rw [h4]; clear h4
    go_enter Try.func20, Try.ntmps20
    go_wp2_with (go_at_call 12; refine (rank_any x h0 h1 _).mono ?_; rintro e w' ⟨rfl, rfl⟩)
    go_ret
    exact ⟨rfl, rfl⟩
  · have h3 : frerr x = 0 := by unfold frerr; omega
    have h4 : fnext x = if frank x = 9218868437227405312 then x else if frank x = -1 then 9223372036854775808 else fof (frank x + 1) := by unfold fnext; rw [if_neg hn]
    by_cases ha : frank x = 9218868437227405312
    · rw [if_pos ha] at h4
      rw [h4]; clear h4
      go_enter Try.func20, Try.ntmps20
      go_wp2_with (go_at_call 12; refine (rank_any x h0 h1 _).mono ?_; rintro e w' ⟨rfl, rfl⟩)
      go_ret
      exact ⟨rfl, rfl⟩
    · rw [if_neg ha] at h4
      by_cases hc : frank x = -1
      · rw [if_pos hc] at h4
        rw [h4]; clear h4
        go_enter Try.func20, Try.ntmps20
        go_wp2_with (go_at_call 12; refine (rank_any x h0 h1 _).mono ?_; rintro e w' ⟨rfl, rfl⟩)
        go_ret
        exact ⟨rfl, rfl⟩
      · rw [if_neg hc] at h4
        rw [h4]; clear h4
        have k1 : frank x ≤ 9218868437227405311 := by omega
        have ha' : (frank x == 9218868437227405312) = false := by rw [beq_eq_false_iff_ne]; exact ha
        have hc' : (frank x == -1) = false := by rw [beq_eq_false_iff_ne]; exact hc
        clear ha hc
        go_enter Try.func20, Try.ntmps20
        go_wp2_with (first | (go_at_call 12; refine (rank_any x h0 h1 _).mono ?_; rintro e w' ⟨rfl, rfl⟩) | (go_at_call 11; refine (of_in _ (by omega) (by omega) _).mono ?_; rintro e w' ⟨rfl, rfl⟩))
        go_ret
        exact ⟨rfl, rfl⟩

theorem prev_any (x : Int) (h0 : 0 ≤ x) (h1 : x ≤ 18446744073709551615) (w : World) :
    Calls Try.prog 21 #[.int .u64 x] w fun e w' => e = .returned (.int .u64 (fprev x)) ∧ w = w' := by
  have hb := frank_bd x
  by_cases hn : 9218868437227405312 < fabs x
  · have h3 : frerr x = 4 := by unfold frerr; omega
    have h4 : fprev x = 9221120237041090560 := by unfold fprev; rw [if_pos hn]
    rw [h4]; clear h4
    go_enter Try.func21, Try.ntmps21
    go_wp2_with (go_at_call 12; refine (rank_any x h0 h1 _).mono ?_; rintro e w' ⟨rfl, rfl⟩)
    go_ret
    exact ⟨rfl, rfl⟩
  · have h3 : frerr x = 0 := by unfold frerr; omega
    have h4 : fprev x = if frank x = -9218868437227405312 then x else fof (frank x - 1) := by unfold fprev; rw [if_neg hn]
    by_cases ha : frank x = -9218868437227405312
    · rw [if_pos ha] at h4
      rw [h4]; clear h4
      go_enter Try.func21, Try.ntmps21
      go_wp2_with (go_at_call 12; refine (rank_any x h0 h1 _).mono ?_; rintro e w' ⟨rfl, rfl⟩)
      go_ret
      exact ⟨rfl, rfl⟩
    · rw [if_neg ha] at h4
      rw [h4]; clear h4
      have k1 : -9218868437227405311 ≤ frank x := by omega
      have ha' : (frank x == -9218868437227405312) = false := by rw [beq_eq_false_iff_ne]; exact ha
      clear ha
      go_enter Try.func21, Try.ntmps21
      go_wp2_with (first | (go_at_call 12; refine (rank_any x h0 h1 _).mono ?_; rintro e w' ⟨rfl, rfl⟩) | (go_at_call 11; refine (of_in _ (by omega) (by omega) _).mono ?_; rintro e w' ⟨rfl, rfl⟩))
      go_ret
      exact ⟨rfl, rfl⟩
end Go.Proofs.Ytkjgdlhdcnfmlaa
