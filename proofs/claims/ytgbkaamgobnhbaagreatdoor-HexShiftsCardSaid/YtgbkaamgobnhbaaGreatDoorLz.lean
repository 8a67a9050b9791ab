/-
  THE WALKS of strings.TrimPrefix, Replace (a point by nothing), Trim (at ASCII signs): the shelf's, at this program.
-/
import Derived.Test.YtgbkaamgobnhbaaGreatDoorLb
import Derived.Test.YtgbkaamgobnhbaaGreatDoorDa
import Derived.Shelf.Strings.Prefix
import Derived.Shelf.Strings.Replace
import Derived.Shelf.Strings.SlTrimAscii
import Derived.Shelf.LaysM
set_option linter.unusedVariables false
set_option linter.unusedSimpArgs false
namespace Go.Proofs.YtgbkaamgobnhbaaGreatDoor
open Go.Shelf Go.RowKit Go.Lib

shelf_lay LaysM.n143 Nm 143 at Tryz as Tryz.laysIndexM
/-- the variable that bytealg keeps holds some int -/
def MaxI (w : World) : Prop := ∃ m : Int, w.cell? ⟨0, 0, none⟩ = some (.int .i64 m)
theorem gIndexM : Tryz.laysIndexM_ren.g 1 = 0 := by kernel_rfl
theorem maxI_of {w : World} (h : w.ShapedOpen Tryz.prog) : MaxI w := by
  have := Tryz.laysIndexM.s1_3 w h
  rw [gIndexM] at this
  exact this
theorem MaxI.below {w w' : World} (h : MaxI w) (hb : Below w.heap.size w w') : MaxI w' := by
  obtain ⟨m, hm⟩ := h
  exact ⟨m, (hb.cell (p := ⟨0, 0, none⟩) (World.block_lt_of_cell? w ⟨0, 0, none⟩ hm)).trans hm⟩
shelf_lay Lays.n101 Nm 101 at Tryz as Tryz.laysTrimPrefix
theorem fTrimPrefix : Tryz.laysTrimPrefix_ren.f 101 = 17 := by kernel_rfl
theorem trimPrefix_any (s p : ByteArray) (w : World) :
    Calls Tryz.prog 17 #[.string s, .string p] w fun e w' => e = .returned (.string ⟨(Lib.trimPrefix s.data.toList p.data.toList).toArray⟩) ∧ w' = w := by
  have h := Any.strings_TrimPrefix Tryz.laysTrimPrefix s p w
  rw [fTrimPrefix] at h
  exact h
shelf_lay Lays.n154 Nm 154 at Tryz as Tryz.laysReplace
theorem extraReplace : Builder.Extra Tryz.prog Tryz.laysReplace_ren where
  sizeBuilder := by kernel_rfl
  liesBuilder := by kernel_rfl
  t5 := Tryz.underlying5
  a5 := Tryz.isAgg5
  z5 := Tryz.sizeOf5
  v5 := Tryz.zeroValue5
  infoByte := by kernel_rfl
  cellsByte := by kernel_rfl
  sizeByte := by kernel_rfl
  neB5 := by decide
theorem fReplace : Tryz.laysReplace_ren.f 154 = 19 := by kernel_rfl
theorem gReplace : Tryz.laysReplace_ren.g 1 = 0 := by kernel_rfl
theorem replace_any (s : ByteArray) (w : World) (hs : s.size ≤ 100000) (hm : MaxI w) :
    Calls Tryz.prog 19 #[.string s, .string ⟨#[46]⟩, .string ⟨#[]⟩, .int .i64 1] w fun e w' => e = .returned (.string ⟨(Lib.replace s.data.toList [46] [] 1).toArray⟩) ∧ Below w.heap.size w w' := by
  obtain ⟨m, hm⟩ := hm
  have h := Any.strings_Replace Tryz.laysReplace extraReplace s ⟨#[46]⟩ ⟨#[]⟩ 1 m w (by omega) (by rw [gReplace]; exact hm) (by decide) (by
    show s.size + Lib.countB s ⟨#[46]⟩ * 0 ≤ _; omega)
  rw [fReplace] at h
  exact h
shelf_lay Lays.n160 Nm 160 at Tryz as Tryz.laysTrim
theorem fTrim : Tryz.laysTrim_ren.f 160 = 21 := by kernel_rfl
theorem trim_any (s : ByteArray) (cs : List UInt8) (hcs : cs.all (fun b => decide (b.toNat < 128)) = true) (hl : cs.length ≤ 1000) (w : World) (hs : s.size ≤ 1000000000) :
    Calls Tryz.prog 21 #[.string s, .string ⟨cs.toArray⟩] w fun e w' => e = .returned (.string ⟨(Lib.trimS s.data.toList cs).toArray⟩) ∧ Below w.heap.size w w' := by
  have h := Any.strings_Trim_laid Tryz.laysTrim (by kernel_rfl) s ⟨cs.toArray⟩ w (by omega) (by show cs.toArray.size < _; simp; omega) (by
    intro j b hj
    exact of_decide_eq_true (List.all_eq_true.1 hcs b (List.mem_of_getElem? hj)))
  rw [fTrim] at h
  exact h
end Go.Proofs.YtgbkaamgobnhbaaGreatDoor
