/-
  THE WALKS of strings.IndexByte, TrimSuffix, TrimRight, as package wanted calls them.
-/
import Derived.Test.YtjmmgffdagcflaaGreatDoorLb
import Derived.Shelf.Strings.Trim
import Derived.Shelf.Small.Strs
import Derived.Shelf.Strings.Prefix
import Derived.Shelf.Lay
set_option linter.unusedVariables false
set_option linter.unusedSimpArgs false
namespace Go.Proofs.YtjmmgffdagcflaaGreatDoor
open Go.Shelf Go.RowKit Go.Lib

shelf_lay Lays.n137 Nm 137 at Tryz as Tryz.laysIndexByteS
theorem fIndexByteS : Tryz.laysIndexByteS_ren.f 137 = 25 := by kernel_rfl
theorem indexByteS_any (s : ByteArray) (c : Int) (w : World) :
    Calls Tryz.prog 25 #[.string s, .int .u8 c] w fun e w' => e = .returned (.int .i64 (Lib.indexByte s.data.toList c.toNat.toUInt8)) ∧ w' = w := by
  have h := Any.strings_IndexByte Tryz.laysIndexByteS s c w
  rw [fIndexByteS] at h
  exact h
shelf_lay Lays.n102 Nm 102 at Tryz as Tryz.laysTrimSuffix
theorem fTrimSuffix : Tryz.laysTrimSuffix_ren.f 102 = 158 := by kernel_rfl
theorem trimSuffix_any (s p : ByteArray) (w : World) (hs : s.size ≤ 1000000) :
    Calls Tryz.prog 158 #[.string s, .string p] w fun e w' => e = .returned (.string ⟨(Lib.trimSuffix s.data.toList p.data.toList).toArray⟩) ∧ w' = w := by
  have h := Any.strings_TrimSuffix Tryz.laysTrimSuffix s p w (by omega)
  rw [fTrimSuffix] at h
  exact h
shelf_lay Lays.n162 Nm 162 at Tryz as Tryz.laysTrimRightW
theorem fTrimRightW : Tryz.laysTrimRightW_ren.f 162 = 136 := by kernel_rfl
theorem trimRightW_any (S : ByteArray) (hl : S.size ≤ 1000000) (w : World) :
    Calls Tryz.prog 136 #[.string S, .string ⟨#[48]⟩] w fun e w' => e = .returned (.string ⟨(Lib.trimRightB S.data.toList 48).toArray⟩) ∧ w' = w := by
  have h := Any.strings_TrimRight_one Tryz.laysTrimRightW S 48 (by decide) w (by omega)
  rw [fTrimRightW] at h
  exact h
end Go.Proofs.YtjmmgffdagcflaaGreatDoor
