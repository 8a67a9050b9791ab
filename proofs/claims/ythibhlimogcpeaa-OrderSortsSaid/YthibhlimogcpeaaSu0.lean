/-
  THE WALK of slices.Sort's parts at []uint64: the kit's worked walk Walk0, turned by name (turnsort.py).
-/
import Derived.Sort.Walk0
import Derived.Test.YthibhlimogcpeaaChecked
import Derived.WalkKit
import Derived.RowKit
set_option linter.unusedVariables false
set_option linter.unusedSimpArgs false
namespace Go.Proofs.Ythibhlimogcpeaa
open Go.Sort Go.RowKit Go.Proofs

abbrev encU : Int → Value := fun x => Value.int .u64 x
set_option maxHeartbeats 1000000 in
theorem SoU.cmp_isNaN_int (x : Int) (w : World) : Calls Try.prog 31 #[.int .u64 x] w fun e w' => e = .returned (.bool false) ∧ w' = w := by
  go_enter Try.func31, Try.ntmps31
  go_wp2
  go_ret
  exact ⟨by simp, rfl⟩
set_option maxHeartbeats 1000000 in
theorem SoU.cmp_Less_int (x y : Int) (w : World) : Calls Try.prog 26 #[.int .u64 x, .int .u64 y] w fun e w' => e = .returned (.bool (Sort.ltInt x y)) ∧ w' = w := by
  go_enter Try.func26, Try.ntmps26
  go_wp2_with (go_at_call 31; refine (SoU.cmp_isNaN_int _ _).mono ?_; rintro e w' ⟨rfl, rfl⟩)
  go_ret
  exact ⟨rfl, rfl⟩
end Go.Proofs.Ythibhlimogcpeaa
