/-
  THE WALKS of package float: each function's contract.
-/
import Derived.Test.YthlocmhfjandlaaDoorChecked
import Derived.WalkKit
import Derived.WalkLawsBesides
import Derived.WalkSpells
import Derived.Handy
import Derived.Lib.Hide
import Derived.Test.YthlocmhfjandlaaDoorBa
set_option linter.unusedVariables false
set_option linter.unusedSimpArgs false
namespace Go.Proofs.YthlocmhfjandlaaDoor
open Go.RowKit Fl

theorem parts_any (x : Int) (h0 : 0 ≤ x) (h1 : x ≤ 18446744073709551615) (w : World) :
    Calls Tryd.prog 83 #[.int .u64 x] w fun e w' => e = .returned (.tuple #[.bool (fng x), .int .i64 (fexp x), .int .u64 (ffr x)]) ∧ w = w' := by
  have e1 := and_2047 (x / 4503599627370496) (by omega) (by omega)
  have e2 := and_frac x h0 h1
  have e3 : wrap64 (x / 4503599627370496 % 2048) = x / 4503599627370496 % 2048 := IntWalk.wrap64_in _ (by omega)
  have e4 : (x / 9223372036854775808 == 1) = decide (9223372036854775808 ≤ x) := by
    rw [Bool.eq_iff_iff, beq_iff_eq, decide_eq_true_eq]; omega
  go_enter Tryd.func83, Tryd.ntmps83
  go_wp2
  go_ret3
  refine ⟨?_, rfl⟩
  unfold fng fexp ffr
  first | rfl | simp only [e1, e2, e3, e4]

theorem class_any (x : Int) (h0 : 0 ≤ x) (h1 : x ≤ 18446744073709551615) (w : World) :
    Calls Tryd.prog 37 #[.int .u64 x] w fun e w' => e = .returned (.int .i64 (fcls x)) ∧ w = w' := by
  rcases cls_ways h0 h1 with ⟨a, b, c⟩ | ⟨a, b, c⟩ | ⟨a, b, c⟩ | ⟨a, b, c⟩ | ⟨a, b, c⟩
  all_goals
    rw [c]
    clear c
    go_enter Tryd.func37, Tryd.ntmps37
    go_wp2_with (go_at_call 83; refine (parts_any x h0 h1 _).mono ?_; rintro e w' ⟨rfl, rfl⟩)
    go_ret
    exact ⟨rfl, rfl⟩

theorem neg_any (x : Int) (h0 : 0 ≤ x) (h1 : x ≤ 18446744073709551615) (w : World) :
    Calls Tryd.prog 27 #[.int .u64 x] w fun e w' => e = .returned (.int .u64 (fneg x)) ∧ w = w' := by
  have e1 := xor_sign x h0 h1
  go_enter Tryd.func27, Tryd.ntmps27
  go_wp2
  go_ret
  exact ⟨rfl, rfl⟩

theorem abs_any (x : Int) (h0 : 0 ≤ x) (h1 : x ≤ 18446744073709551615) (w : World) :
    Calls Tryd.prog 96 #[.int .u64 x] w fun e w' => e = .returned (.int .u64 (fabs x)) ∧ w = w' := by
  have e1 := andNot_sign x h0 h1
  go_enter Tryd.func96, Tryd.ntmps96
  go_wp2
  go_ret
  exact ⟨rfl, rfl⟩

end Go.Proofs.YthlocmhfjandlaaDoor
