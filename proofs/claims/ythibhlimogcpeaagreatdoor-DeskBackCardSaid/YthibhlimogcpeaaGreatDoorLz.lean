/-
  THE WALKS of strings.TrimPrefix, Replace (a point by nothing), Trim (at ASCII signs): the shelf's, at this program.
-/
import Derived.Test.YthibhlimogcpeaaGreatDoorLb
import Derived.Test.YthibhlimogcpeaaGreatDoorDa
import Derived.Shelf.Strings.Prefix
import Derived.Shelf.Strings.Replace
import Derived.Shelf.Strings.SlTrimAscii
import Derived.Shelf.LaysM
set_option linter.unusedVariables false
set_option linter.unusedSimpArgs false
namespace Go.Proofs.YthibhlimogcpeaaGreatDoor
open Go.Shelf Go.RowKit Go.Lib

def Tryz.laysIndexM_ren : Go.Shelf.Ren := ⟨fun | 143 => 29 | 219 => 40 | 217 => 58 | 225 => 59 | 224 => 60 | 267 => 61 | 266 => 108 | 314 => 109 | n => n, fun | 9 => 9 | 3 => 3 | 4 => 4 | 5 => 5 | 46 => 96 | 146 => 135 | 51 => 69 | n => n, fun | 1 => 1 | n => n⟩
theorem Tryz.laysIndexM : Go.Proofs.LaysM.n143 Tryz.prog Tryz.laysIndexM_ren := {
  mixed := by kernel_rfl
  f143 := Tryz.func29.trans (congrArg some (by kernel_rfl))
  f217 := Tryz.func58.trans (congrArg some (by kernel_rfl))
  f219 := Tryz.func40.trans (congrArg some (by kernel_rfl))
  f224 := Tryz.func60.trans (congrArg some (by kernel_rfl))
  f225 := Tryz.func59.trans (congrArg some (by kernel_rfl))
  f266 := Tryz.func108.trans (congrArg some (by kernel_rfl))
  f267 := Tryz.func61.trans (congrArg some (by kernel_rfl))
  f314 := Tryz.func109.trans (congrArg some (by kernel_rfl))
  t3 := Tryz.underlying3
  a3 := Tryz.isAgg3
  z3 := Tryz.sizeOf3
  v3 := Tryz.zeroValue3
  t4 := Tryz.underlying4
  a4 := Tryz.isAgg4
  z4 := Tryz.sizeOf4
  v4 := Tryz.zeroValue4
  t5 := Tryz.underlying5
  a5 := Tryz.isAgg5
  z5 := Tryz.sizeOf5
  v5 := Tryz.zeroValue5
  t9 := Tryz.underlying9
  a9 := Tryz.isAgg9
  z9 := Tryz.sizeOf9
  v9 := Tryz.zeroValue9
  t46 := Tryz.underlying96
  a46 := Tryz.isAgg96
  z46 := Tryz.sizeOf96
  v46 := Tryz.zeroValue96
  t51 := Tryz.underlying69
  a51 := Tryz.isAgg69
  z51 := Tryz.sizeOf69
  v51 := Tryz.zeroValue69
  t146 := Tryz.underlying135
  a146 := Tryz.isAgg135
  z146 := Tryz.sizeOf135
  v146 := Tryz.zeroValue135
  g1 := by kernel_rfl
  i3 := by kernel_rfl
  i4 := by kernel_rfl
  i5 := by kernel_rfl
  i9 := by kernel_rfl
  i46 := by kernel_rfl
  i51 := by kernel_rfl
  i146 := by kernel_rfl
  m1 := by kernel_rfl
  s1_3 := fun w h => Go.Proofs.cell_of_shapedOpen_int (zero := #[.int .i64 0]) (t := 3) h (of_decide_eq_true (by kernel_rfl)) (by kernel_rfl) rfl (by kernel_rfl) (by kernel_rfl) Tryz.underlying3 }
/-- the variable that bytealg keeps holds some int -/
def MaxI (w : World) : Prop := ∃ m : Int, w.cell? ⟨1, 0, none⟩ = some (.int .i64 m)
theorem gIndexM : Tryz.laysIndexM_ren.g 1 = 1 := by kernel_rfl
theorem maxI_of {w : World} (h : w.ShapedOpen Tryz.prog) : MaxI w := by
  have := Tryz.laysIndexM.s1_3 w h
  rw [gIndexM] at this
  exact this
theorem MaxI.below {w w' : World} (h : MaxI w) (hb : Below w.heap.size w w') : MaxI w' := by
  obtain ⟨m, hm⟩ := h
  exact ⟨m, (hb.cell (p := ⟨1, 0, none⟩) (World.block_lt_of_cell? w ⟨1, 0, none⟩ hm)).trans hm⟩
def Tryz.laysReplace_ren : Go.Shelf.Ren := ⟨fun | 154 => 33 | 138 => 14 | 165 => 22 | 143 => 29 | 166 => 9 | 197 => 43 | 169 => 13 | 195 => 27 | 218 => 28 | 240 => 21 | 241 => 35 | 219 => 40 | 260 => 64 | 276 => 34 | 277 => 44 | 217 => 58 | 225 => 59 | 224 => 60 | 267 => 61 | 266 => 108 | 314 => 109 | n => n, fun | 9 => 9 | 3 => 3 | 4 => 4 | 72 => 29 | 0 => 0 | 76 => 33 | 105 => 73 | 21 => 21 | 5 => 5 | 70 => 26 | 20 => 20 | 37 => 27 | 75 => 32 | 127 => 55 | 164 => 61 | 46 => 96 | 119 => 58 | 139 => 141 | 138 => 140 | 146 => 135 | 51 => 69 | 80 => 38 | n => n, fun | 1 => 1 | 3 => 3 | 4 => 4 | n => n⟩
theorem Tryz.laysReplace : Go.Proofs.Lays.n154 Tryz.prog Tryz.laysReplace_ren := {
  mixed := by kernel_rfl
  f138 := Tryz.func14.trans (congrArg some (by kernel_rfl))
  f143 := Tryz.func29.trans (congrArg some (by kernel_rfl))
  f154 := Tryz.func33.trans (congrArg some (by kernel_rfl))
  f165 := Tryz.func22.trans (congrArg some (by kernel_rfl))
  f166 := Tryz.func9.trans (congrArg some (by kernel_rfl))
  f169 := Tryz.func13.trans (congrArg some (by kernel_rfl))
  f195 := Tryz.func27.trans (congrArg some (by kernel_rfl))
  f197 := Tryz.func43.trans (congrArg some (by kernel_rfl))
  f217 := Tryz.func58.trans (congrArg some (by kernel_rfl))
  f218 := Tryz.func28.trans (congrArg some (by kernel_rfl))
  f219 := Tryz.func40.trans (congrArg some (by kernel_rfl))
  f224 := Tryz.func60.trans (congrArg some (by kernel_rfl))
  f225 := Tryz.func59.trans (congrArg some (by kernel_rfl))
  f240 := Tryz.func21.trans (congrArg some (by kernel_rfl))
  f241 := Tryz.func35.trans (congrArg some (by kernel_rfl))
  f260 := Tryz.func64.trans (congrArg some (by kernel_rfl))
  f266 := Tryz.func108.trans (congrArg some (by kernel_rfl))
  f267 := Tryz.func61.trans (congrArg some (by kernel_rfl))
  f276 := Tryz.func34.trans (congrArg some (by kernel_rfl))
  f277 := Tryz.func44.trans (congrArg some (by kernel_rfl))
  f314 := Tryz.func109.trans (congrArg some (by kernel_rfl))
  t0 := Tryz.underlying0
  a0 := Tryz.isAgg0
  z0 := Tryz.sizeOf0
  v0 := Tryz.zeroValue0
  t3 := Tryz.underlying3
  a3 := Tryz.isAgg3
  z3 := Tryz.sizeOf3
  v3 := Tryz.zeroValue3
  t4 := Tryz.underlying4
  a4 := Tryz.isAgg4
  z4 := Tryz.sizeOf4
  v4 := Tryz.zeroValue4
  t5 := Tryz.underlying5
  a5 := Tryz.isAgg5
  z5 := Tryz.sizeOf5
  v5 := Tryz.zeroValue5
  t9 := Tryz.underlying9
  a9 := Tryz.isAgg9
  z9 := Tryz.sizeOf9
  v9 := Tryz.zeroValue9
  t20 := Tryz.underlying20
  a20 := Tryz.isAgg20
  z20 := Tryz.sizeOf20
  v20 := Tryz.zeroValue20
  t21 := Tryz.underlying21
  a21 := Tryz.isAgg21
  z21 := Tryz.sizeOf21
  v21 := Tryz.zeroValue21
  t37 := Tryz.underlying27
  a37 := Tryz.isAgg27
  z37 := Tryz.sizeOf27
  v37 := Tryz.zeroValue27
  t46 := Tryz.underlying96
  a46 := Tryz.isAgg96
  z46 := Tryz.sizeOf96
  v46 := Tryz.zeroValue96
  t51 := Tryz.underlying69
  a51 := Tryz.isAgg69
  z51 := Tryz.sizeOf69
  v51 := Tryz.zeroValue69
  t70 := Tryz.underlying26
  a70 := Tryz.isAgg26
  z70 := Tryz.sizeOf26
  v70 := Tryz.zeroValue26
  t72 := Tryz.underlying29
  a72 := Tryz.isAgg29
  z72 := Tryz.sizeOf29
  v72 := Tryz.zeroValue29
  t75 := Tryz.underlying32
  a75 := Tryz.isAgg32
  z75 := Tryz.sizeOf32
  v75 := Tryz.zeroValue32
  t76 := Tryz.underlying33
  a76 := Tryz.isAgg33
  z76 := Tryz.sizeOf33
  v76 := Tryz.zeroValue33
  t105 := Tryz.underlying73
  a105 := Tryz.isAgg73
  z105 := Tryz.sizeOf73
  v105 := Tryz.zeroValue73
  t119 := Tryz.underlying58
  a119 := Tryz.isAgg58
  z119 := Tryz.sizeOf58
  t127 := Tryz.underlying55
  a127 := Tryz.isAgg55
  z127 := Tryz.sizeOf55
  v127 := Tryz.zeroValue55
  t138 := Tryz.underlying140
  a138 := Tryz.isAgg140
  z138 := Tryz.sizeOf140
  v138 := Tryz.zeroValue140
  t139 := Tryz.underlying141
  a139 := Tryz.isAgg141
  z139 := Tryz.sizeOf141
  v139 := Tryz.zeroValue141
  t146 := Tryz.underlying135
  a146 := Tryz.isAgg135
  z146 := Tryz.sizeOf135
  v146 := Tryz.zeroValue135
  t164 := Tryz.underlying61
  a164 := Tryz.isAgg61
  z164 := Tryz.sizeOf61
  v164 := Tryz.zeroValue61
  g1 := by kernel_rfl
  g3 := by kernel_rfl
  g4 := by kernel_rfl }
theorem extraReplace : Builder.Extra Tryz.prog Tryz.laysReplace_ren := {
  sizeBuilder := by kernel_rfl
  liesBuilder := by kernel_rfl
  t5 := Tryz.underlying5
  a5 := Tryz.isAgg5
  z5 := Tryz.sizeOf5
  v5 := Tryz.zeroValue5
  infoByte := by kernel_rfl
  cellsByte := by kernel_rfl
  sizeByte := by kernel_rfl
  neB5 := by decide }
theorem fReplace : Tryz.laysReplace_ren.f 154 = 33 := by kernel_rfl
theorem gReplace : Tryz.laysReplace_ren.g 1 = 1 := by kernel_rfl
theorem replace_any (s : ByteArray) (w : World) (hs : s.size ≤ 100000) (hm : MaxI w) :
    Calls Tryz.prog 33 #[.string s, .string ⟨#[46]⟩, .string ⟨#[]⟩, .int .i64 1] w fun e w' => e = .returned (.string ⟨(Lib.replace s.data.toList [46] [] 1).toArray⟩) ∧ Below w.heap.size w w' := by
  obtain ⟨m, hm⟩ := hm
  have h := Any.strings_Replace Tryz.laysReplace extraReplace s ⟨#[46]⟩ ⟨#[]⟩ 1 m w (by omega) (by rw [gReplace]; exact hm) (by decide) (by
    show s.size + Lib.countB s ⟨#[46]⟩ * 0 ≤ _; omega)
  rw [fReplace] at h
  exact h
def Tryz.laysTrim_ren : Go.Shelf.Ren := ⟨fun | 160 => 96 | 232 => 163 | 231 => 162 | 227 => 164 | 234 => 166 | 233 => 165 | 236 => 168 | 235 => 167 | 228 => 222 | 271 => 224 | 151 => 223 | 197 => 43 | 120 => 249 | 152 => 248 | 260 => 64 | 137 => 101 | 119 => 253 | 224 => 60 | 225 => 59 | 217 => 58 | 266 => 108 | n => n, fun | 9 => 9 | 4 => 4 | 3 => 3 | 5 => 5 | 117 => 197 | 116 => 196 | 0 => 0 | 124 => 200 | 21 => 21 | 105 => 73 | 46 => 96 | 119 => 58 | 139 => 141 | 138 => 140 | n => n, fun | 3 => 3 | 4 => 4 | n => n⟩
theorem Tryz.laysTrim : Go.Proofs.Lays.n160 Tryz.prog Tryz.laysTrim_ren := {
  mixed := by kernel_rfl
  f119 := Tryz.func253.trans (congrArg some (by kernel_rfl))
  f120 := Tryz.func249.trans (congrArg some (by kernel_rfl))
  f137 := Tryz.func101.trans (congrArg some (by kernel_rfl))
  f151 := Tryz.func223.trans (congrArg some (by kernel_rfl))
  f152 := Tryz.func248.trans (congrArg some (by kernel_rfl))
  f160 := Tryz.func96.trans (congrArg some (by kernel_rfl))
  f197 := Tryz.func43.trans (congrArg some (by kernel_rfl))
  f217 := Tryz.func58.trans (congrArg some (by kernel_rfl))
  f224 := Tryz.func60.trans (congrArg some (by kernel_rfl))
  f225 := Tryz.func59.trans (congrArg some (by kernel_rfl))
  f227 := Tryz.func164.trans (congrArg some (by kernel_rfl))
  f228 := Tryz.func222.trans (congrArg some (by kernel_rfl))
  f231 := Tryz.func162.trans (congrArg some (by kernel_rfl))
  f232 := Tryz.func163.trans (congrArg some (by kernel_rfl))
  f233 := Tryz.func165.trans (congrArg some (by kernel_rfl))
  f234 := Tryz.func166.trans (congrArg some (by kernel_rfl))
  f235 := Tryz.func167.trans (congrArg some (by kernel_rfl))
  f236 := Tryz.func168.trans (congrArg some (by kernel_rfl))
  f260 := Tryz.func64.trans (congrArg some (by kernel_rfl))
  f266 := Tryz.func108.trans (congrArg some (by kernel_rfl))
  f271 := Tryz.func224.trans (congrArg some (by kernel_rfl))
  t0 := Tryz.underlying0
  a0 := Tryz.isAgg0
  z0 := Tryz.sizeOf0
  v0 := Tryz.zeroValue0
  t3 := Tryz.underlying3
  a3 := Tryz.isAgg3
  z3 := Tryz.sizeOf3
  v3 := Tryz.zeroValue3
  t4 := Tryz.underlying4
  a4 := Tryz.isAgg4
  z4 := Tryz.sizeOf4
  v4 := Tryz.zeroValue4
  t5 := Tryz.underlying5
  a5 := Tryz.isAgg5
  z5 := Tryz.sizeOf5
  v5 := Tryz.zeroValue5
  t9 := Tryz.underlying9
  a9 := Tryz.isAgg9
  z9 := Tryz.sizeOf9
  v9 := Tryz.zeroValue9
  t21 := Tryz.underlying21
  a21 := Tryz.isAgg21
  z21 := Tryz.sizeOf21
  v21 := Tryz.zeroValue21
  t46 := Tryz.underlying96
  a46 := Tryz.isAgg96
  z46 := Tryz.sizeOf96
  v46 := Tryz.zeroValue96
  t105 := Tryz.underlying73
  a105 := Tryz.isAgg73
  z105 := Tryz.sizeOf73
  v105 := Tryz.zeroValue73
  t116 := Tryz.underlying196
  a116 := Tryz.isAgg196
  z116 := Tryz.sizeOf196
  t117 := Tryz.underlying197
  a117 := Tryz.isAgg197
  z117 := Tryz.sizeOf197
  v117 := Tryz.zeroValue197
  t119 := Tryz.underlying58
  a119 := Tryz.isAgg58
  z119 := Tryz.sizeOf58
  t124 := Tryz.underlying200
  a124 := Tryz.isAgg200
  z124 := Tryz.sizeOf200
  v124 := Tryz.zeroValue200
  t138 := Tryz.underlying140
  a138 := Tryz.isAgg140
  z138 := Tryz.sizeOf140
  v138 := Tryz.zeroValue140
  t139 := Tryz.underlying141
  a139 := Tryz.isAgg141
  z139 := Tryz.sizeOf141
  v139 := Tryz.zeroValue141
  g3 := by kernel_rfl
  g4 := by kernel_rfl }
theorem fTrim : Tryz.laysTrim_ren.f 160 = 96 := by kernel_rfl
theorem trim_any (s : ByteArray) (cs : List UInt8) (hcs : cs.all (fun b => decide (b.toNat < 128)) = true) (hl : cs.length ≤ 1000) (w : World) (hs : s.size ≤ 1000000000) :
    Calls Tryz.prog 96 #[.string s, .string ⟨cs.toArray⟩] w fun e w' => e = .returned (.string ⟨(Lib.trimS s.data.toList cs).toArray⟩) ∧ Below w.heap.size w w' := by
  have h := Any.strings_Trim_laid Tryz.laysTrim (by kernel_rfl) s ⟨cs.toArray⟩ w (by omega) (by show cs.toArray.size < _; simp; omega) (by
    intro j b hj
    exact of_decide_eq_true (List.all_eq_true.1 hcs b (List.mem_of_getElem? hj)))
  rw [fTrim] at h
  exact h
end Go.Proofs.YthibhlimogcpeaaGreatDoor
