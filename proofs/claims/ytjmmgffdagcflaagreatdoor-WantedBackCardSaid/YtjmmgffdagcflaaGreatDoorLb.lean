/-
  THE WALKS of strings.Cut at a text of one byte; strings.Contains at one byte.
-/
import Derived.Test.YtjmmgffdagcflaaGreatDoorDo
import Derived.Shelf.Strings.Search3
import Derived.Shelf.Lay
import Derived.BigQuiet
import Derived.Deep.QuietTactic
set_option linter.unusedVariables false
set_option linter.unusedSimpArgs false
namespace Go.Proofs.YtjmmgffdagcflaaGreatDoor
open Go.Shelf Go.RowKit Go.Lib

shelf_lay Lays.n219 Nm 219 at Tryz as Tryz.laysIndexL
theorem fIndexL : Tryz.laysIndexL_ren.f 219 = 159 := by kernel_rfl
theorem indexL_any (s : ByteArray) (c : UInt8) (w : World) :
    Calls Tryz.prog 159 #[.string s, .string ⟨#[c]⟩] w fun e w' => e = .returned (.int .i64 (Lib.indexByte s.data.toList c)) ∧ w' = w := by
  have h := Any.stringslite_Index_one Tryz.laysIndexL s c w
  rw [fIndexL] at h
  exact h
theorem ba_left (a b : List UInt8) (k : Nat) (hk : k = a.length) : (⟨(a ++ b).toArray⟩ : ByteArray).extract 0 k = ⟨a.toArray⟩ := by
  subst hk
  apply ByteArray.ext
  simp [ByteArray.data_extract]
theorem ba_right (a b : List UInt8) (k n : Nat) (hk : k = a.length) (hn : n = (a ++ b).length) : (⟨(a ++ b).toArray⟩ : ByteArray).extract k n = ⟨b.toArray⟩ := by
  subst hk hn
  apply ByteArray.ext
  simp [ByteArray.data_extract]
shelf_lay Lays.n144 Nm 144 at Tryz as Tryz.laysContains
theorem fContains : Tryz.laysContains_ren.f 144 = 105 := by kernel_rfl
theorem contains_any (s : ByteArray) (c : UInt8) (w : World) :
    Calls Tryz.prog 105 #[.string s, .string ⟨#[c]⟩] w fun e w' => e = .returned (.bool (decide (0 ≤ Lib.indexByte s.data.toList c))) ∧ w' = w := by
  have h := Any.strings_Contains_one Tryz.laysContains s c w
  rw [fContains] at h
  exact h
end Go.Proofs.YtjmmgffdagcflaaGreatDoor
