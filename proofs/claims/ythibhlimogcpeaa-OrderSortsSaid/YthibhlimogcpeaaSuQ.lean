/-
  THE WALK of slices.Sort's parts at []uint64: the kit's worked walk Walk13a, turned by name (turnsort.py).
-/
import Derived.Sort.Walk13a
import Derived.Test.YthibhlimogcpeaaChecked
import Derived.WalkKit
import Derived.RowKit
import Derived.Test.YthibhlimogcpeaaSu0
set_option linter.unusedVariables false
set_option linter.unusedSimpArgs false
namespace Go.Proofs.Ythibhlimogcpeaa
open Go.Sort Go.RowKit Go.Proofs

end Go.Proofs.Ythibhlimogcpeaa
