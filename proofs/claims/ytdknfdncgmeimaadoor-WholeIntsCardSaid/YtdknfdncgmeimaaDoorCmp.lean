/-
  THE WALKS of cmp.Compare.
-/
import Derived.Test.YtdknfdncgmeimaaDoorChecked
import Derived.WalkKit
import Derived.WalkLawsBesides
import Derived.WalkSpells
import Derived.Handy
set_option linter.unusedVariables false
set_option linter.unusedSimpArgs false
namespace Go.Proofs.YtdknfdncgmeimaaDoor
open Go.RowKit

/-- less: -1, more: 1 -/
def sgn2 (a b : Int) : Int := if a < b then -1 else if b < a then 1 else 0
theorem cmp_int (a b : Int) (w : World) :
    Calls Tryd.prog 102 #[.int .i64 a, .int .i64 b] w fun e w' => e = .returned (.int .i64 (sgn2 a b)) ∧ w' = w := by
  by_cases h1 : a < b
  · have e : sgn2 a b = -1 := by unfold sgn2; omega
    rw [e]; clear e
    go_enter Tryd.func102, Tryd.ntmps102
    go_wp2
    go_ret
    exact ⟨rfl, rfl⟩
  · by_cases h2 : b < a
    · have e : sgn2 a b = 1 := by unfold sgn2; omega
      rw [e]; clear e
      go_enter Tryd.func102, Tryd.ntmps102
      go_wp2
      go_ret
      exact ⟨rfl, rfl⟩
    · have e : sgn2 a b = 0 := by unfold sgn2; omega
      rw [e]; clear e
      go_enter Tryd.func102, Tryd.ntmps102
      go_wp2
      go_ret
      exact ⟨rfl, rfl⟩
theorem cmp_uint32 (a b : Int) (w : World) :
    Calls Tryd.prog 103 #[.int .u32 a, .int .u32 b] w fun e w' => e = .returned (.int .i64 (sgn2 a b)) ∧ w' = w := by
  by_cases h1 : a < b
  · have e : sgn2 a b = -1 := by unfold sgn2; omega
    rw [e]; clear e
    go_enter Tryd.func103, Tryd.ntmps103
    go_wp2
    go_ret
    exact ⟨rfl, rfl⟩
  · by_cases h2 : b < a
    · have e : sgn2 a b = 1 := by unfold sgn2; omega
      rw [e]; clear e
      go_enter Tryd.func103, Tryd.ntmps103
      go_wp2
      go_ret
      exact ⟨rfl, rfl⟩
    · have e : sgn2 a b = 0 := by unfold sgn2; omega
      rw [e]; clear e
      go_enter Tryd.func103, Tryd.ntmps103
      go_wp2
      go_ret
      exact ⟨rfl, rfl⟩
end Go.Proofs.YtdknfdncgmeimaaDoor
