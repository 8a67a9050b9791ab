/-
  THE WALK of dyad.Sub.
-/
import Derived.Test.YtmpdbmaokbhcjaaDoorBw
import Derived.Deep.RegionWith
set_option linter.unusedVariables false
set_option linter.unusedSimpArgs false
namespace Go.Proofs.YtmpdbmaokbhcjaaDoor
open Go.RowKit Nt Fm


end Go.Proofs.YtmpdbmaokbhcjaaDoor
