/-
  THE WALK of slices.Sort's parts at []uint64: the kit's worked walk ../Ground/So_math_bits_Len, turned by name (turnsort.py).
-/
import Derived.Ground.So_math_bits_Len
import Derived.Test.YthibhlimogcpeaaChecked
import Derived.Test.YthibhlimogcpeaaSuB
set_option linter.unusedVariables false
set_option linter.unusedSimpArgs false
namespace Go.Proofs.Ythibhlimogcpeaa
open Go.Proofs

theorem SoU.bits_Len (x : Int) (w : World) (h0 : 0 ≤ x) (h1 : x ≤ 18446744073709551615) :
    Calls Try.prog 13 #[.int .u64 x] w fun e w' => e = .returned (.int .i64 (Lib.bitLen x.toNat)) ∧ w' = w := by
  go_enter Try.func13, Try.ntmps13
  go_wp2_with (go_at_call 30; refine (SoU.bits_Len64 x _ h0 h1).mono ?_; rintro e w' ⟨rfl, rfl⟩)
  go_ret
  exact ⟨rfl, rfl⟩
end Go.Proofs.Ythibhlimogcpeaa
