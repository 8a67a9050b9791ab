/-
  THE WALKS of strings.Cut at a text of one byte; strings.Contains at one byte.
-/
import Derived.Test.YtmpdbmaokbhcjaaDoorDo
import Derived.Shelf.Strings.Search3
import Derived.Shelf.Lay
import Derived.BigQuiet
import Derived.Deep.QuietTactic
set_option linter.unusedVariables false
set_option linter.unusedSimpArgs false
namespace Go.Proofs.YtmpdbmaokbhcjaaDoor
open Go.Shelf Go.RowKit Go.Lib

theorem ba_left (a b : List UInt8) (k : Nat) (hk : k = a.length) : (⟨(a ++ b).toArray⟩ : ByteArray).extract 0 k = ⟨a.toArray⟩ := by
  subst hk
  apply ByteArray.ext
  simp [ByteArray.data_extract]
theorem ba_right (a b : List UInt8) (k n : Nat) (hk : k = a.length) (hn : n = (a ++ b).length) : (⟨(a ++ b).toArray⟩ : ByteArray).extract k n = ⟨b.toArray⟩ := by
  subst hk hn
  apply ByteArray.ext
  simp [ByteArray.data_extract]
end Go.Proofs.YtmpdbmaokbhcjaaDoor
