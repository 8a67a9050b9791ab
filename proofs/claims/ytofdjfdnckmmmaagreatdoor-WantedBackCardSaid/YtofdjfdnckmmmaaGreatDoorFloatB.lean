/-
  THE WALKS of package float: each function's contract.
-/
import Derived.Test.YtofdjfdnckmmmaaGreatDoorChecked
import Derived.WalkKit
import Derived.WalkLawsBesides
import Derived.WalkSpells
import Derived.Handy
import Derived.Lib.Hide
import Derived.Test.YtofdjfdnckmmmaaGreatDoorBa
set_option linter.unusedVariables false
set_option linter.unusedSimpArgs false
namespace Go.Proofs.YtofdjfdnckmmmaaGreatDoor
open Go.RowKit Fl

theorem parts_any (x : Int) (h0 : 0 ≤ x) (h1 : x ≤ 18446744073709551615) (w : World) :
    Calls Tryz.prog 22 #[.int .u64 x] w fun e w' => e = .returned (.tuple #[.bool (fng x), .int .i64 (fexp x), .int .u64 (ffr x)]) ∧ w = w' := by
  have e1 := and_2047 (x / 4503599627370496) (by omega) (by omega)
  have e2 := and_frac x h0 h1
  have e3 : wrap64 (x / 4503599627370496 % 2048) = x / 4503599627370496 % 2048 := IntWalk.wrap64_in _ (by omega)
  have e4 : (x / 9223372036854775808 == 1) = decide (9223372036854775808 ≤ x) := by
    rw [Bool.eq_iff_iff, beq_iff_eq, decide_eq_true_eq]; omega
  go_enter Tryz.func22, Tryz.ntmps22
  go_wp2
  go_ret3
  refine ⟨?_, rfl⟩
  unfold fng fexp ffr
  first | rfl | simp only [e1, e2, e3, e4]

theorem class_any (x : Int) (h0 : 0 ≤ x) (h1 : x ≤ 18446744073709551615) (w : World) :
    Calls Tryz.prog 8 #[.int .u64 x] w fun e w' => e = .returned (.int .i64 (fcls x)) ∧ w = w' := by
  rcases cls_ways h0 h1 with ⟨a, b, c⟩ | ⟨a, b, c⟩ | ⟨a, b, c⟩ | ⟨a, b, c⟩ | ⟨a, b, c⟩
  all_goals
    rw [c]
    clear c
    go_enter Tryz.func8, Tryz.ntmps8
    go_wp2_with (go_at_call 22; refine (parts_any x h0 h1 _).mono ?_; rintro e w' ⟨rfl, rfl⟩)
    go_ret
    exact ⟨rfl, rfl⟩

theorem neg_any (x : Int) (h0 : 0 ≤ x) (h1 : x ≤ 18446744073709551615) (w : World) :
    Calls Tryz.prog 160 #[.int .u64 x] w fun e w' => e = .returned (.int .u64 (fneg x)) ∧ w = w' := by
  have e1 := xor_sign x h0 h1
  go_enter Tryz.func160, Tryz.ntmps160
  go_wp2
  go_ret
  exact ⟨rfl, rfl⟩

theorem abs_any (x : Int) (h0 : 0 ≤ x) (h1 : x ≤ 18446744073709551615) (w : World) :
    Calls Tryz.prog 25 #[.int .u64 x] w fun e w' => e = .returned (.int .u64 (fabs x)) ∧ w = w' := by
  have e1 := andNot_sign x h0 h1
  go_enter Tryz.func25, Tryz.ntmps25
  go_wp2
  go_ret
  exact ⟨rfl, rfl⟩

theorem rank_any (x : Int) (h0 : 0 ≤ x) (h1 : x ≤ 18446744073709551615) (w : World) :
    Calls Tryz.prog 211 #[.int .u64 x] w fun e w' => e = .returned (.tuple #[.int .i64 (frank x), .int .i64 (frerr x)]) ∧ w = w' := by
  have hb := fabs_bd x
  by_cases hn : 9218868437227405312 < fabs x
  · have hc : fcls x = 5 := by unfold fcls; omega
    have h2 : frank x = 0 := by unfold frank; omega
    have h3 : frerr x = 4 := by unfold frerr; omega
    rw [h2, h3]; clear h2 h3
    go_enter Tryz.func211, Tryz.ntmps211
    go_wp2_with (go_at_call 8; refine (class_any x h0 h1 _).mono ?_; rintro e w' ⟨rfl, rfl⟩)
    go_ret2
    exact ⟨rfl, rfl⟩
  · have hc : fcls x ≤ 4 := by unfold fcls; omega
    have h3 : frerr x = 0 := by unfold frerr; omega
    rw [h3]; clear h3
    by_cases hs : 9223372036854775808 ≤ x
    · have e4 : (x / 9223372036854775808 == 1) = true := by rw [beq_iff_eq]; omega
      have h2 : frank x = -fabs x := by unfold frank; omega
      rw [h2]; clear h2
      go_enter Tryz.func211, Tryz.ntmps211
      go_wp2_with (first | (go_at_call 8; refine (class_any x h0 h1 _).mono ?_; rintro e w' ⟨rfl, rfl⟩) | (go_at_call 25; refine (abs_any x h0 h1 _).mono ?_; rintro e w' ⟨rfl, rfl⟩))
      go_ret2
      exact ⟨rfl, rfl⟩
    · have e4 : (x / 9223372036854775808 == 1) = false := by rw [beq_eq_false_iff_ne]; omega
      have h2 : frank x = fabs x := by unfold frank; omega
      rw [h2]; clear h2
      go_enter Tryz.func211, Tryz.ntmps211
      go_wp2_with (first | (go_at_call 8; refine (class_any x h0 h1 _).mono ?_; rintro e w' ⟨rfl, rfl⟩) | (go_at_call 25; refine (abs_any x h0 h1 _).mono ?_; rintro e w' ⟨rfl, rfl⟩))
      go_ret2
      exact ⟨rfl, rfl⟩
end Go.Proofs.YtofdjfdnckmmmaaGreatDoor
