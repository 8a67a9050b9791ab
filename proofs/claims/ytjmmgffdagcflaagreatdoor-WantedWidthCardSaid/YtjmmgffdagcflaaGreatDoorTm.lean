/-
  THE WALK of strings.Trim at ASCII signs: the shelf's, at this program (where strings.Index is not in it: Lz has the same beside it).
-/
import Derived.Test.YtjmmgffdagcflaaGreatDoorLb
import Derived.Test.YtjmmgffdagcflaaGreatDoorDa
import Derived.Shelf.Strings.SlTrimAscii
set_option linter.unusedVariables false
set_option linter.unusedSimpArgs false
namespace Go.Proofs.YtjmmgffdagcflaaGreatDoor
open Go.Shelf Go.RowKit Go.Lib

shelf_lay Lays.n160 Nm 160 at Tryz as Tryz.laysTrim
theorem fTrim : Tryz.laysTrim_ren.f 160 = 29 := by kernel_rfl
theorem trim_any (s : ByteArray) (cs : List UInt8) (hcs : cs.all (fun b => decide (b.toNat < 128)) = true) (hl : cs.length ≤ 1000) (w : World) (hs : s.size ≤ 1000000000) :
    Calls Tryz.prog 29 #[.string s, .string ⟨cs.toArray⟩] w fun e w' => e = .returned (.string ⟨(Lib.trimS s.data.toList cs).toArray⟩) ∧ Below w.heap.size w w' := by
  have h := Any.strings_Trim_laid Tryz.laysTrim (by kernel_rfl) s ⟨cs.toArray⟩ w (by omega) (by show cs.toArray.size < _; simp; omega) (by
    intro j b hj
    exact of_decide_eq_true (List.all_eq_true.1 hcs b (List.mem_of_getElem? hj)))
  rw [fTrim] at h
  exact h
end Go.Proofs.YtjmmgffdagcflaaGreatDoor
