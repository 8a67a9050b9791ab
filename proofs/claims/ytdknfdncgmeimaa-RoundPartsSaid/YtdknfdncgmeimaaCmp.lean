/-
  THE WALKS of cmp.Compare.
-/
import Derived.Test.YtdknfdncgmeimaaChecked
import Derived.WalkKit
import Derived.WalkLawsBesides
import Derived.WalkSpells
import Derived.Handy
set_option linter.unusedVariables false
set_option linter.unusedSimpArgs false
namespace Go.Proofs.Ytdknfdncgmeimaa
open Go.RowKit

/-- less: -1, more: 1 -/
def sgn2 (a b : Int) : Int := if a < b then -1 else if b < a then 1 else 0
theorem cmp_int (a b : Int) (w : World) :
    Calls Try.prog 33 #[.int .i64 a, .int .i64 b] w fun e w' => e = .returned (.int .i64 (sgn2 a b)) ∧ w' = w := by
  by_cases h1 : a < b
  · have e : sgn2 a b = -1 := by unfold sgn2; omega
    rw [e]; clear e
    go_enter Try.func33, Try.ntmps33
    go_wp2
    go_ret
    exact ⟨rfl, rfl⟩
  · by_cases h2 : b < a
    · have e : sgn2 a b = 1 := by unfold sgn2; omega
      rw [e]; clear e
      go_enter Try.func33, Try.ntmps33
      go_wp2
      go_ret
      exact ⟨rfl, rfl⟩
    · have e : sgn2 a b = 0 := by unfold sgn2; omega
      rw [e]; clear e
      go_enter Try.func33, Try.ntmps33
      go_wp2
      go_ret
      exact ⟨rfl, rfl⟩
theorem cmp_uint32 (a b : Int) (w : World) :
    Calls Try.prog 34 #[.int .u32 a, .int .u32 b] w fun e w' => e = .returned (.int .i64 (sgn2 a b)) ∧ w' = w := by
  by_cases h1 : a < b
  · have e : sgn2 a b = -1 := by unfold sgn2; omega
    rw [e]; clear e
    go_enter Try.func34, Try.ntmps34
    go_wp2
    go_ret
    exact ⟨rfl, rfl⟩
  · by_cases h2 : b < a
    · have e : sgn2 a b = 1 := by unfold sgn2; omega
      rw [e]; clear e
      go_enter Try.func34, Try.ntmps34
      go_wp2
      go_ret
      exact ⟨rfl, rfl⟩
    · have e : sgn2 a b = 0 := by unfold sgn2; omega
      rw [e]; clear e
      go_enter Try.func34, Try.ntmps34
      go_wp2
      go_ret
      exact ⟨rfl, rfl⟩
end Go.Proofs.Ytdknfdncgmeimaa
