/-
  THE WALKS of strings.IndexByte, TrimSuffix, TrimRight, as package wanted calls them.
-/
import Derived.Test.YthlocmhfjandlaaGreatDoorLb
import Derived.Shelf.Strings.Trim
import Derived.Shelf.Small.Strs
import Derived.Shelf.Strings.Prefix
import Derived.Shelf.Lay
set_option linter.unusedVariables false
set_option linter.unusedSimpArgs false
namespace Go.Proofs.YthlocmhfjandlaaGreatDoor
open Go.Shelf Go.RowKit Go.Lib

def Tryz.laysIndexByteS_ren : Go.Shelf.Ren := ⟨fun | 137 => 46 | 217 => 117 | 266 => 163 | n => n, fun | 9 => 9 | 5 => 5 | 3 => 3 | n => n, fun | n => n⟩
theorem Tryz.laysIndexByteS : Go.Proofs.Lays.n137 Tryz.prog Tryz.laysIndexByteS_ren := {
  mixed := by kernel_rfl
  f137 := Tryz.func46.trans (congrArg some (by kernel_rfl))
  f217 := Tryz.func117.trans (congrArg some (by kernel_rfl))
  f266 := Tryz.func163.trans (congrArg some (by kernel_rfl))
  t3 := Tryz.underlying3
  a3 := Tryz.isAgg3
  z3 := Tryz.sizeOf3
  v3 := Tryz.zeroValue3
  t5 := Tryz.underlying5
  a5 := Tryz.isAgg5
  z5 := Tryz.sizeOf5
  v5 := Tryz.zeroValue5
  t9 := Tryz.underlying9
  a9 := Tryz.isAgg9
  z9 := Tryz.sizeOf9
  v9 := Tryz.zeroValue9 }
theorem fIndexByteS : Tryz.laysIndexByteS_ren.f 137 = 46 := by kernel_rfl
theorem indexByteS_any (s : ByteArray) (c : Int) (w : World) :
    Calls Tryz.prog 46 #[.string s, .int .u8 c] w fun e w' => e = .returned (.int .i64 (Lib.indexByte s.data.toList c.toNat.toUInt8)) ∧ w' = w := by
  have h := Any.strings_IndexByte Tryz.laysIndexByteS s c w
  rw [fIndexByteS] at h
  exact h
def Tryz.laysTrimSuffix_ren : Go.Shelf.Ren := ⟨fun | 102 => 201 | 209 => 208 | 207 => 214 | n => n, fun | 9 => 9 | 4 => 4 | 3 => 3 | n => n, fun | n => n⟩
theorem Tryz.laysTrimSuffix : Go.Proofs.Lays.n102 Tryz.prog Tryz.laysTrimSuffix_ren := {
  mixed := by kernel_rfl
  f102 := Tryz.func201.trans (congrArg some (by kernel_rfl))
  f207 := Tryz.func214.trans (congrArg some (by kernel_rfl))
  f209 := Tryz.func208.trans (congrArg some (by kernel_rfl))
  t3 := Tryz.underlying3
  a3 := Tryz.isAgg3
  z3 := Tryz.sizeOf3
  v3 := Tryz.zeroValue3
  t4 := Tryz.underlying4
  a4 := Tryz.isAgg4
  z4 := Tryz.sizeOf4
  v4 := Tryz.zeroValue4
  t9 := Tryz.underlying9
  a9 := Tryz.isAgg9
  z9 := Tryz.sizeOf9
  v9 := Tryz.zeroValue9 }
theorem fTrimSuffix : Tryz.laysTrimSuffix_ren.f 102 = 201 := by kernel_rfl
theorem trimSuffix_any (s p : ByteArray) (w : World) (hs : s.size ≤ 1000000) :
    Calls Tryz.prog 201 #[.string s, .string p] w fun e w' => e = .returned (.string ⟨(Lib.trimSuffix s.data.toList p.data.toList).toArray⟩) ∧ w' = w := by
  have h := Any.strings_TrimSuffix Tryz.laysTrimSuffix s p w (by omega)
  rw [fTrimSuffix] at h
  exact h
def Tryz.laysTrimRightW_ren : Go.Shelf.Ren := ⟨fun | 162 => 109 | 232 => 94 | 227 => 95 | 234 => 97 | 236 => 99 | 228 => 146 | 271 => 148 | 151 => 147 | 120 => 181 | 197 => 91 | 152 => 180 | 260 => 145 | 137 => 46 | 119 => 193 | 224 => 176 | 225 => 175 | 217 => 117 | 266 => 163 | n => n, fun | 9 => 9 | 4 => 4 | 3 => 3 | 5 => 5 | 117 => 122 | 116 => 121 | 0 => 0 | 124 => 125 | 21 => 21 | 105 => 116 | 46 => 138 | 119 => 201 | 139 => 204 | 138 => 203 | n => n, fun | 3 => 1 | 4 => 2 | n => n⟩
theorem Tryz.laysTrimRightW : Go.Proofs.Lays.n162 Tryz.prog Tryz.laysTrimRightW_ren := {
  mixed := by kernel_rfl
  f119 := Tryz.func193.trans (congrArg some (by kernel_rfl))
  f120 := Tryz.func181.trans (congrArg some (by kernel_rfl))
  f137 := Tryz.func46.trans (congrArg some (by kernel_rfl))
  f151 := Tryz.func147.trans (congrArg some (by kernel_rfl))
  f152 := Tryz.func180.trans (congrArg some (by kernel_rfl))
  f162 := Tryz.func109.trans (congrArg some (by kernel_rfl))
  f197 := Tryz.func91.trans (congrArg some (by kernel_rfl))
  f217 := Tryz.func117.trans (congrArg some (by kernel_rfl))
  f224 := Tryz.func176.trans (congrArg some (by kernel_rfl))
  f225 := Tryz.func175.trans (congrArg some (by kernel_rfl))
  f227 := Tryz.func95.trans (congrArg some (by kernel_rfl))
  f228 := Tryz.func146.trans (congrArg some (by kernel_rfl))
  f232 := Tryz.func94.trans (congrArg some (by kernel_rfl))
  f234 := Tryz.func97.trans (congrArg some (by kernel_rfl))
  f236 := Tryz.func99.trans (congrArg some (by kernel_rfl))
  f260 := Tryz.func145.trans (congrArg some (by kernel_rfl))
  f266 := Tryz.func163.trans (congrArg some (by kernel_rfl))
  f271 := Tryz.func148.trans (congrArg some (by kernel_rfl))
  t0 := Tryz.underlying0
  a0 := Tryz.isAgg0
  z0 := Tryz.sizeOf0
  v0 := Tryz.zeroValue0
  t3 := Tryz.underlying3
  a3 := Tryz.isAgg3
  z3 := Tryz.sizeOf3
  v3 := Tryz.zeroValue3
  t4 := Tryz.underlying4
  a4 := Tryz.isAgg4
  z4 := Tryz.sizeOf4
  v4 := Tryz.zeroValue4
  t5 := Tryz.underlying5
  a5 := Tryz.isAgg5
  z5 := Tryz.sizeOf5
  v5 := Tryz.zeroValue5
  t9 := Tryz.underlying9
  a9 := Tryz.isAgg9
  z9 := Tryz.sizeOf9
  v9 := Tryz.zeroValue9
  t21 := Tryz.underlying21
  a21 := Tryz.isAgg21
  z21 := Tryz.sizeOf21
  v21 := Tryz.zeroValue21
  t46 := Tryz.underlying138
  a46 := Tryz.isAgg138
  z46 := Tryz.sizeOf138
  v46 := Tryz.zeroValue138
  t105 := Tryz.underlying116
  a105 := Tryz.isAgg116
  z105 := Tryz.sizeOf116
  v105 := Tryz.zeroValue116
  t116 := Tryz.underlying121
  a116 := Tryz.isAgg121
  z116 := Tryz.sizeOf121
  t117 := Tryz.underlying122
  a117 := Tryz.isAgg122
  z117 := Tryz.sizeOf122
  v117 := Tryz.zeroValue122
  t119 := Tryz.underlying201
  a119 := Tryz.isAgg201
  z119 := Tryz.sizeOf201
  t124 := Tryz.underlying125
  a124 := Tryz.isAgg125
  z124 := Tryz.sizeOf125
  v124 := Tryz.zeroValue125
  t138 := Tryz.underlying203
  a138 := Tryz.isAgg203
  z138 := Tryz.sizeOf203
  v138 := Tryz.zeroValue203
  t139 := Tryz.underlying204
  a139 := Tryz.isAgg204
  z139 := Tryz.sizeOf204
  v139 := Tryz.zeroValue204
  g3 := by kernel_rfl
  g4 := by kernel_rfl }
theorem fTrimRightW : Tryz.laysTrimRightW_ren.f 162 = 109 := by kernel_rfl
theorem trimRightW_any (S : ByteArray) (hl : S.size ≤ 1000000) (w : World) :
    Calls Tryz.prog 109 #[.string S, .string ⟨#[48]⟩] w fun e w' => e = .returned (.string ⟨(Lib.trimRightB S.data.toList 48).toArray⟩) ∧ w' = w := by
  have h := Any.strings_TrimRight_one Tryz.laysTrimRightW S 48 (by decide) w (by omega)
  rw [fTrimRightW] at h
  exact h
end Go.Proofs.YthlocmhfjandlaaGreatDoor
