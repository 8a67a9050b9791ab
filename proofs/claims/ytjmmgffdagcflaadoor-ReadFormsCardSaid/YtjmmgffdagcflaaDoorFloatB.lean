/-
  THE WALKS of package float: each function's contract.
-/
import Derived.Test.YtjmmgffdagcflaaDoorChecked
import Derived.WalkKit
import Derived.WalkLawsBesides
import Derived.WalkSpells
import Derived.Handy
import Derived.Lib.Hide
import Derived.Test.YtjmmgffdagcflaaDoorBa
set_option linter.unusedVariables false
set_option linter.unusedSimpArgs false
namespace Go.Proofs.YtjmmgffdagcflaaDoor
open Go.RowKit Fl



theorem neg_any (x : Int) (h0 : 0 ≤ x) (h1 : x ≤ 18446744073709551615) (w : World) :
    Calls Tryd.prog 18 #[.int .u64 x] w fun e w' => e = .returned (.int .u64 (fneg x)) ∧ w = w' := by
  have e1 := xor_sign x h0 h1
  go_enter Tryd.func18, Tryd.ntmps18
  go_wp2
  go_ret
  exact ⟨rfl, rfl⟩


end Go.Proofs.YtjmmgffdagcflaaDoor
