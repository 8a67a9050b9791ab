/-
  SOME OF MY TEXTS in one: Jc Jd Jr Jl. Each says what it proves.
-/
import Derived.Test.YthibhlimogcpeaaGreatDoorJab
import Derived.Test.YthibhlimogcpeaaGreatDoorLz
import Derived.Test.YthibhlimogcpeaaGreatDoorHr
import Derived.Test.YthibhlimogcpeaaGreatDoorRs
import Derived.Shelf.Strings.Split
import Derived.Shelf.Strings.Cut
import Derived.Shelf.Strings.FieldsFuncAny
import Derived.Shelf.Strings.Fields
import Derived.Shelf.Strings.Prefix
import Derived.Shelf.Small.Wraps
import Derived.Shelf.Lay
import Derived.Test.YthibhlimogcpeaaGreatDoorTzy
import Derived.Test.YthibhlimogcpeaaGreatDoorDa
import Derived.Test.YthibhlimogcpeaaGreatDoorHg
import Derived.Shelf.Strings.Builder1
import Derived.Deep.LoopGhost
import Derived.Defers
import Derived.Recover
import Derived.WalkLawsBesides
set_option linter.unusedVariables false
set_option linter.unusedSimpArgs false
/-
  THE WALKS of strings.Split, Cut, FieldsFunc, Fields, CutPrefix, HasPrefix, HasSuffix, as package desk and its laws call them: the shelf's, at this program.
-/
namespace Go.Proofs.YthibhlimogcpeaaGreatDoor
open Go.Shelf Go.RowKit Go.Lib

theorem map_encL {l : List ByteArray} {m : List (List UInt8)} (h : l.map (·.data.toList) = m) : l.map Value.string = lst m := by
  subst h
  unfold lst
  rw [List.map_map]
  apply List.map_congr_left
  intro a _
  rfl
def Tryz.laysSplit_ren : Go.Shelf.Ren := ⟨fun | 146 => 18 | 221 => 32 | 268 => 42 | 138 => 14 | 143 => 29 | 195 => 27 | 197 => 43 | 218 => 28 | 219 => 40 | 260 => 64 | 217 => 58 | 225 => 59 | 224 => 60 | 267 => 61 | 266 => 108 | 314 => 109 | n => n, fun | 9 => 9 | 31 => 30 | 3 => 3 | 4 => 4 | 0 => 0 | 105 => 73 | 21 => 21 | 5 => 5 | 46 => 96 | 119 => 58 | 139 => 141 | 138 => 140 | 146 => 135 | 51 => 69 | n => n, fun | 1 => 1 | 3 => 3 | 4 => 4 | n => n⟩
theorem Tryz.laysSplit : Go.Proofs.Lays.n146 Tryz.prog Tryz.laysSplit_ren := {
  mixed := by kernel_rfl
  f138 := Tryz.func14.trans (congrArg some (by kernel_rfl))
  f143 := Tryz.func29.trans (congrArg some (by kernel_rfl))
  f146 := Tryz.func18.trans (congrArg some (by kernel_rfl))
  f195 := Tryz.func27.trans (congrArg some (by kernel_rfl))
  f197 := Tryz.func43.trans (congrArg some (by kernel_rfl))
  f217 := Tryz.func58.trans (congrArg some (by kernel_rfl))
  f218 := Tryz.func28.trans (congrArg some (by kernel_rfl))
  f219 := Tryz.func40.trans (congrArg some (by kernel_rfl))
  f221 := Tryz.func32.trans (congrArg some (by kernel_rfl))
  f224 := Tryz.func60.trans (congrArg some (by kernel_rfl))
  f225 := Tryz.func59.trans (congrArg some (by kernel_rfl))
  f260 := Tryz.func64.trans (congrArg some (by kernel_rfl))
  f266 := Tryz.func108.trans (congrArg some (by kernel_rfl))
  f267 := Tryz.func61.trans (congrArg some (by kernel_rfl))
  f268 := Tryz.func42.trans (congrArg some (by kernel_rfl))
  f314 := Tryz.func109.trans (congrArg some (by kernel_rfl))
  t0 := Tryz.underlying0
  a0 := Tryz.isAgg0
  z0 := Tryz.sizeOf0
  v0 := Tryz.zeroValue0
  t3 := Tryz.underlying3
  a3 := Tryz.isAgg3
  z3 := Tryz.sizeOf3
  v3 := Tryz.zeroValue3
  t4 := Tryz.underlying4
  a4 := Tryz.isAgg4
  z4 := Tryz.sizeOf4
  v4 := Tryz.zeroValue4
  t5 := Tryz.underlying5
  a5 := Tryz.isAgg5
  z5 := Tryz.sizeOf5
  v5 := Tryz.zeroValue5
  t9 := Tryz.underlying9
  a9 := Tryz.isAgg9
  z9 := Tryz.sizeOf9
  v9 := Tryz.zeroValue9
  t21 := Tryz.underlying21
  a21 := Tryz.isAgg21
  z21 := Tryz.sizeOf21
  v21 := Tryz.zeroValue21
  t31 := Tryz.underlying30
  a31 := Tryz.isAgg30
  z31 := Tryz.sizeOf30
  v31 := Tryz.zeroValue30
  t46 := Tryz.underlying96
  a46 := Tryz.isAgg96
  z46 := Tryz.sizeOf96
  v46 := Tryz.zeroValue96
  t51 := Tryz.underlying69
  a51 := Tryz.isAgg69
  z51 := Tryz.sizeOf69
  v51 := Tryz.zeroValue69
  t105 := Tryz.underlying73
  a105 := Tryz.isAgg73
  z105 := Tryz.sizeOf73
  v105 := Tryz.zeroValue73
  t119 := Tryz.underlying58
  a119 := Tryz.isAgg58
  z119 := Tryz.sizeOf58
  t138 := Tryz.underlying140
  a138 := Tryz.isAgg140
  z138 := Tryz.sizeOf140
  v138 := Tryz.zeroValue140
  t139 := Tryz.underlying141
  a139 := Tryz.isAgg141
  z139 := Tryz.sizeOf141
  v139 := Tryz.zeroValue141
  t146 := Tryz.underlying135
  a146 := Tryz.isAgg135
  z146 := Tryz.sizeOf135
  v146 := Tryz.zeroValue135
  g1 := by kernel_rfl
  g3 := by kernel_rfl
  g4 := by kernel_rfl }
theorem fSplit : Tryz.laysSplit_ren.f 146 = 18 := by kernel_rfl
theorem gSplit : Tryz.laysSplit_ren.g 1 = 1 := by kernel_rfl
theorem tSplit : Tryz.laysSplit_ren.t 9 = 9 := by kernel_rfl
theorem split_any (s : ByteArray) (w : World) (hs : s.size ≤ 1000000) (hm : MaxI w) :
    Calls Tryz.prog 18 #[.string s, .string ⟨#[10]⟩] w fun e w' => e = .returned (.slice (some ⟨w.heap.size, 0, none⟩) (lns 10 s.data.toList).length (lns 10 s.data.toList).length) ∧ w' = w.alloc (.cells (lst (lns 10 s.data.toList)).toArray 9) := by
  obtain ⟨m, hm⟩ := hm
  have h := Any.strings_Split Tryz.laysSplit (by kernel_rfl) s ⟨#[10]⟩ m w (by omega) (by rw [gSplit]; exact hm) (by decide)
  rw [fSplit, tSplit] at h
  have e1 := splitB_lns 10 s
  have e2 : countB s ⟨#[10]⟩ + 1 = (lns 10 s.data.toList).length := by
    rw [← splitB_all ⟨#[10]⟩ (by decide) 0 _ s rfl, ← e1, List.length_map]
  rw [map_encL e1] at h
  refine h.mono ?_
  rintro e w' ⟨rfl, rfl⟩
  exact ⟨by rw [← e2], rfl⟩
def Tryz.laysCut_ren : Go.Shelf.Ren := ⟨fun | 145 => 23 | 220 => 36 | 219 => 40 | 217 => 58 | 225 => 59 | 224 => 60 | 267 => 61 | 266 => 108 | 314 => 109 | n => n, fun | 9 => 9 | 4 => 4 | 59 => 50 | 3 => 3 | 5 => 5 | 46 => 96 | 146 => 135 | 51 => 69 | n => n, fun | 1 => 1 | n => n⟩
theorem Tryz.laysCut : Go.Proofs.Lays.n145 Tryz.prog Tryz.laysCut_ren := {
  mixed := by kernel_rfl
  f145 := Tryz.func23.trans (congrArg some (by kernel_rfl))
  f217 := Tryz.func58.trans (congrArg some (by kernel_rfl))
  f219 := Tryz.func40.trans (congrArg some (by kernel_rfl))
  f220 := Tryz.func36.trans (congrArg some (by kernel_rfl))
  f224 := Tryz.func60.trans (congrArg some (by kernel_rfl))
  f225 := Tryz.func59.trans (congrArg some (by kernel_rfl))
  f266 := Tryz.func108.trans (congrArg some (by kernel_rfl))
  f267 := Tryz.func61.trans (congrArg some (by kernel_rfl))
  f314 := Tryz.func109.trans (congrArg some (by kernel_rfl))
  t3 := Tryz.underlying3
  a3 := Tryz.isAgg3
  z3 := Tryz.sizeOf3
  v3 := Tryz.zeroValue3
  t4 := Tryz.underlying4
  a4 := Tryz.isAgg4
  z4 := Tryz.sizeOf4
  v4 := Tryz.zeroValue4
  t5 := Tryz.underlying5
  a5 := Tryz.isAgg5
  z5 := Tryz.sizeOf5
  v5 := Tryz.zeroValue5
  t9 := Tryz.underlying9
  a9 := Tryz.isAgg9
  z9 := Tryz.sizeOf9
  v9 := Tryz.zeroValue9
  t46 := Tryz.underlying96
  a46 := Tryz.isAgg96
  z46 := Tryz.sizeOf96
  v46 := Tryz.zeroValue96
  t51 := Tryz.underlying69
  a51 := Tryz.isAgg69
  z51 := Tryz.sizeOf69
  v51 := Tryz.zeroValue69
  t59 := Tryz.underlying50
  a59 := Tryz.isAgg50
  z59 := Tryz.sizeOf50
  v59 := Tryz.zeroValue50
  t146 := Tryz.underlying135
  a146 := Tryz.isAgg135
  z146 := Tryz.sizeOf135
  v146 := Tryz.zeroValue135
  g1 := by kernel_rfl }
theorem fCut : Tryz.laysCut_ren.f 145 = 23 := by kernel_rfl
theorem gCut : Tryz.laysCut_ren.g 1 = 1 := by kernel_rfl
theorem cut59_any (s : ByteArray) (w : World) (hs : s.size ≤ 1000000) (hm : MaxI w) :
    Calls Tryz.prog 23 #[.string s, .string ⟨#[59]⟩] w fun e w' => (∃ (t : ByteArray) (b : Bool), e = .returned (.tuple #[.string ⟨(s.data.toList.takeWhile (· != 59)).toArray⟩, .string t, .bool b])) ∧ Below w.heap.size w w' := by
  obtain ⟨m, hm⟩ := hm
  have h := Any.strings_Cut Tryz.laysCut s ⟨#[59]⟩ m w (by omega) (by rw [gCut]; exact hm)
  rw [fCut] at h
  refine h.mono ?_
  rintro e w' ⟨rfl, n, rfl⟩
  refine ⟨⟨⟨(Lib.cut s.data.toList [59]).2.1.toArray⟩, (Lib.cut s.data.toList [59]).2.2, ?_⟩, below_to_drewN (Below.refl _ _)⟩
  rw [show (ByteArray.mk #[59]).data.toList = [59] from rfl, cut_one]
def Tryz.laysFieldsF_ren : Go.Shelf.Ren := ⟨fun | 229 => 24 | n => n, fun | 9 => 9 | 40 => 53 | 31 => 30 | 152 => 63 | 3 => 3 | 0 => 0 | 4 => 4 | 21 => 21 | 154 => 65 | n => n, fun | n => n⟩
theorem Tryz.laysFieldsF : Go.Proofs.Lays.n229 Tryz.prog Tryz.laysFieldsF_ren := {
  mixed := by kernel_rfl
  f229 := Tryz.func24.trans (congrArg some (by kernel_rfl))
  t0 := Tryz.underlying0
  a0 := Tryz.isAgg0
  z0 := Tryz.sizeOf0
  v0 := Tryz.zeroValue0
  t3 := Tryz.underlying3
  a3 := Tryz.isAgg3
  z3 := Tryz.sizeOf3
  v3 := Tryz.zeroValue3
  t4 := Tryz.underlying4
  a4 := Tryz.isAgg4
  z4 := Tryz.sizeOf4
  v4 := Tryz.zeroValue4
  t9 := Tryz.underlying9
  a9 := Tryz.isAgg9
  z9 := Tryz.sizeOf9
  v9 := Tryz.zeroValue9
  t21 := Tryz.underlying21
  a21 := Tryz.isAgg21
  z21 := Tryz.sizeOf21
  v21 := Tryz.zeroValue21
  t31 := Tryz.underlying30
  a31 := Tryz.isAgg30
  z31 := Tryz.sizeOf30
  v31 := Tryz.zeroValue30
  t40 := Tryz.underlying53
  a40 := Tryz.isAgg53
  z40 := Tryz.sizeOf53
  v40 := Tryz.zeroValue53
  t152 := Tryz.underlying63
  a152 := Tryz.isAgg63
  z152 := Tryz.sizeOf63
  v152 := Tryz.zeroValue63
  t154 := Tryz.underlying65
  a154 := Tryz.isAgg65
  z154 := Tryz.sizeOf65
  v154 := Tryz.zeroValue65 }
theorem fFieldsF : Tryz.laysFieldsF_ren.f 229 = 24 := by kernel_rfl
theorem tFieldsF : Tryz.laysFieldsF_ren.t 9 = 9 := by kernel_rfl
theorem isBl_any (x : Nat) (w : World) : Calls Tryz.prog 25 #[.int .i32 (x : Int)] w fun e w' => e = .returned (.bool (isBlR x)) ∧ ∃ q, w' = w.drewN q := by
  obtain ⟨a, ha⟩ : ∃ a, a = ((x : Int) == 32) := ⟨_, rfl⟩
  obtain ⟨b, hb⟩ : ∃ b, b = ((x : Int) == 9) := ⟨_, rfl⟩
  have e : isBlR x = (a || b) := by
    unfold isBlR
    rw [ha, hb, Bool.eq_iff_iff]
    simp only [Bool.or_eq_true, beq_iff_eq]
    omega
  rw [e]
  have ha' := ha.symm
  have hb' := hb.symm
  clear e ha hb
  cases a <;> cases b
  all_goals
    go_enter Tryz.func25, Tryz.ntmps25
    go_wp2
    go_ret
    exact ⟨rfl, 0, rfl⟩
theorem fieldsF_any (s : ByteArray) (w : World) (hs : s.size ≤ 1000000) :
    Calls Tryz.prog 24 #[.string s, .func (.func 25) #[] #[]] w fun e w' => ∃ A, e = .returned (.slice (some ⟨A, 0, none⟩) (wds [] s.data.toList).length (wds [] s.data.toList).length) ∧ w.heap.size ≤ A ∧
      w'.ownsRow w.heap.size 9 1 (.slice (some ⟨A, 0, none⟩) (wds [] s.data.toList).length (wds [] s.data.toList).length) (wds [] s.data.toList).length (lst (wds [] s.data.toList)) ∧ Below w.heap.size w w' := by
  have h := Any.strings_FieldsFunc_runes Tryz.laysFieldsF 25 #[] (enters_of Tryz.func25 (by kernel_rfl) rfl) isBlR s w (by omega) (fun W x hx hb => isBl_any x W) (by kernel_rfl) (by kernel_rfl)
  rw [fFieldsF, tFieldsF] at h
  have e := fieldsP_wds s
  have e2 : (goFieldsP isBlR s).length = (wds [] s.data.toList).length := by rw [← e, List.length_map]
  rw [map_encL e, e2] at h
  exact h
def Tryz.laysFields_ren : Go.Shelf.Ren := ⟨fun | 157 => 17 | 229 => 24 | 199 => 31 | 261 => 41 | 311 => 62 | 312 => 63 | n => n, fun | 9 => 9 | 31 => 30 | 3 => 3 | 5 => 5 | 4 => 4 | 119 => 58 | 0 => 0 | 40 => 53 | 152 => 63 | 21 => 21 | 154 => 65 | 51 => 69 | 141 => 71 | 196 => 100 | 193 => 97 | 198 => 103 | 49 => 101 | 194 => 98 | 201 => 106 | 226 => 137 | 46 => 96 | 227 => 138 | n => n, fun | 0 => 0 | 6 => 2 | n => n⟩
theorem Tryz.laysFields : Go.Proofs.Lays.n157 Tryz.prog Tryz.laysFields_ren := {
  mixed := by kernel_rfl
  f157 := Tryz.func17.trans (congrArg some (by kernel_rfl))
  f199 := Tryz.func31.trans (congrArg some (by kernel_rfl))
  f229 := Tryz.func24.trans (congrArg some (by kernel_rfl))
  f261 := Tryz.func41.trans (congrArg some (by kernel_rfl))
  f311 := Tryz.func62.trans (congrArg some (by kernel_rfl))
  f312 := Tryz.func63.trans (congrArg some (by kernel_rfl))
  t0 := Tryz.underlying0
  a0 := Tryz.isAgg0
  z0 := Tryz.sizeOf0
  v0 := Tryz.zeroValue0
  t3 := Tryz.underlying3
  a3 := Tryz.isAgg3
  z3 := Tryz.sizeOf3
  v3 := Tryz.zeroValue3
  t4 := Tryz.underlying4
  a4 := Tryz.isAgg4
  z4 := Tryz.sizeOf4
  v4 := Tryz.zeroValue4
  t5 := Tryz.underlying5
  a5 := Tryz.isAgg5
  z5 := Tryz.sizeOf5
  v5 := Tryz.zeroValue5
  t9 := Tryz.underlying9
  a9 := Tryz.isAgg9
  z9 := Tryz.sizeOf9
  v9 := Tryz.zeroValue9
  t21 := Tryz.underlying21
  a21 := Tryz.isAgg21
  z21 := Tryz.sizeOf21
  v21 := Tryz.zeroValue21
  t31 := Tryz.underlying30
  a31 := Tryz.isAgg30
  z31 := Tryz.sizeOf30
  v31 := Tryz.zeroValue30
  t40 := Tryz.underlying53
  a40 := Tryz.isAgg53
  z40 := Tryz.sizeOf53
  v40 := Tryz.zeroValue53
  t46 := Tryz.underlying96
  a46 := Tryz.isAgg96
  z46 := Tryz.sizeOf96
  v46 := Tryz.zeroValue96
  t49 := Tryz.underlying101
  a49 := Tryz.isAgg101
  z49 := Tryz.sizeOf101
  v49 := Tryz.zeroValue101
  t51 := Tryz.underlying69
  a51 := Tryz.isAgg69
  z51 := Tryz.sizeOf69
  v51 := Tryz.zeroValue69
  t119 := Tryz.underlying58
  a119 := Tryz.isAgg58
  z119 := Tryz.sizeOf58
  t141 := Tryz.underlying71
  a141 := Tryz.isAgg71
  z141 := Tryz.sizeOf71
  v141 := Tryz.zeroValue71
  t152 := Tryz.underlying63
  a152 := Tryz.isAgg63
  z152 := Tryz.sizeOf63
  v152 := Tryz.zeroValue63
  t154 := Tryz.underlying65
  a154 := Tryz.isAgg65
  z154 := Tryz.sizeOf65
  v154 := Tryz.zeroValue65
  t193 := Tryz.underlying97
  a193 := Tryz.isAgg97
  z193 := Tryz.sizeOf97
  v193 := Tryz.zeroValue97
  t194 := Tryz.underlying98
  a194 := Tryz.isAgg98
  z194 := Tryz.sizeOf98
  v194 := Tryz.zeroValue98
  t196 := Tryz.underlying100
  a196 := Tryz.isAgg100
  z196 := Tryz.sizeOf100
  v196 := Tryz.zeroValue100
  t198 := Tryz.underlying103
  a198 := Tryz.isAgg103
  z198 := Tryz.sizeOf103
  v198 := Tryz.zeroValue103
  t201 := Tryz.underlying106
  a201 := Tryz.isAgg106
  z201 := Tryz.sizeOf106
  v201 := Tryz.zeroValue106
  t226 := Tryz.underlying137
  a226 := Tryz.isAgg137
  z226 := Tryz.sizeOf137
  v226 := Tryz.zeroValue137
  t227 := Tryz.underlying138
  a227 := Tryz.isAgg138
  z227 := Tryz.sizeOf138
  v227 := Tryz.zeroValue138
  g0 := by kernel_rfl
  g6 := by kernel_rfl }
theorem cutPrefixD_any (s p : ByteArray) (w : World) :
    Calls Tryz.prog 94 #[.string s, .string p] w fun e w' => e = .returned (.tuple #[.string ⟨(Lib.trimPrefix s.data.toList p.data.toList).toArray⟩, .bool (Lib.hasPrefix s.data.toList p.data.toList)]) ∧ w' = w := by
  have h := Any.strings_CutPrefix Tryz.laysCutPrefix s p w
  rw [fCutPrefix] at h
  exact h
def Tryz.laysHasPrefixD_ren : Go.Shelf.Ren := ⟨fun | 99 => 98 | 206 => 171 | n => n, fun | 9 => 9 | 4 => 4 | 3 => 3 | n => n, fun | n => n⟩
theorem Tryz.laysHasPrefixD : Go.Proofs.Lays.n99 Tryz.prog Tryz.laysHasPrefixD_ren := {
  mixed := by kernel_rfl
  f99 := Tryz.func98.trans (congrArg some (by kernel_rfl))
  f206 := Tryz.func171.trans (congrArg some (by kernel_rfl))
  t3 := Tryz.underlying3
  a3 := Tryz.isAgg3
  z3 := Tryz.sizeOf3
  v3 := Tryz.zeroValue3
  t4 := Tryz.underlying4
  a4 := Tryz.isAgg4
  z4 := Tryz.sizeOf4
  v4 := Tryz.zeroValue4
  t9 := Tryz.underlying9
  a9 := Tryz.isAgg9
  z9 := Tryz.sizeOf9
  v9 := Tryz.zeroValue9 }
theorem fHasPrefixD : Tryz.laysHasPrefixD_ren.f 99 = 98 := by kernel_rfl
theorem hasPrefixD_any (s p : ByteArray) (w : World) :
    Calls Tryz.prog 98 #[.string s, .string p] w fun e w' => e = .returned (.bool (Lib.hasPrefix s.data.toList p.data.toList)) ∧ w' = w := by
  have h := Any.strings_HasPrefix Tryz.laysHasPrefixD s p w
  rw [fHasPrefixD] at h
  exact h
def Tryz.laysHasSuffixD_ren : Go.Shelf.Ren := ⟨fun | 100 => 15 | 207 => 30 | n => n, fun | 9 => 9 | 4 => 4 | 3 => 3 | n => n, fun | n => n⟩
theorem Tryz.laysHasSuffixD : Go.Proofs.Lays.n100 Tryz.prog Tryz.laysHasSuffixD_ren := {
  mixed := by kernel_rfl
  f100 := Tryz.func15.trans (congrArg some (by kernel_rfl))
  f207 := Tryz.func30.trans (congrArg some (by kernel_rfl))
  t3 := Tryz.underlying3
  a3 := Tryz.isAgg3
  z3 := Tryz.sizeOf3
  v3 := Tryz.zeroValue3
  t4 := Tryz.underlying4
  a4 := Tryz.isAgg4
  z4 := Tryz.sizeOf4
  v4 := Tryz.zeroValue4
  t9 := Tryz.underlying9
  a9 := Tryz.isAgg9
  z9 := Tryz.sizeOf9
  v9 := Tryz.zeroValue9 }
theorem fHasSuffixD : Tryz.laysHasSuffixD_ren.f 100 = 15 := by kernel_rfl
theorem hasSuffixD_any (s p : ByteArray) (w : World) (hs : s.size ≤ 1000000) :
    Calls Tryz.prog 15 #[.string s, .string p] w fun e w' => e = .returned (.bool (Lib.hasSuffix s.data.toList p.data.toList)) ∧ w' = w := by
  have h := Any.strings_HasSuffix Tryz.laysHasSuffixD s p w (by omega)
  rw [fHasSuffixD] at h
  exact h
end Go.Proofs.YthibhlimogcpeaaGreatDoor

/-
  THE WALK of strconv.FormatUint at base 16; what package desk finds in memory (Dk).
-/
namespace Go.Proofs.YthibhlimogcpeaaGreatDoor
open Go.Shelf Go.RowKit Go.Lib

/-- the tables and variables that package desk reads -/
structure Dk (w : World) : Prop where
  t32 : Tab w
  t10 : Tab10 w
  mx : MaxI w
  t64 : w.cell? ⟨9, 15, none⟩ = some (.int .u8 4)
theorem Dk.below {w w' : World} (h : Dk w) (hb : Below w.heap.size w w') : Dk w' :=
  ⟨h.t32.below hb, h.t10.below hb, h.mx.below hb, (hb.cell (p := ⟨9, 15, none⟩) (World.block_lt_of_cell? w ⟨9, 15, none⟩ h.t64)).trans h.t64⟩
theorem Dk.alloc {w : World} (h : Dk w) (o : Obj) : Dk (w.alloc o) := h.below ((Below.refl _ _).alloc (Nat.le_refl _) o)
theorem Dk.drew {w : World} (h : Dk w) : Dk w.drew := h.below (Below.refl _ _).drew

theorem pow2_16 (w : World) : Calls Tryz.prog 183 #[.int .i64 16] w fun e w' => e = .returned (.bool true) ∧ w = w' := by
  have h : bits BinOp.and IntKind.i64 16 15 = 0 := by decide
  go_enter Tryz.func183, Tryz.ntmps183
  go_wp2
  go_ret
  exact ⟨rfl, rfl⟩
theorem tz64_16 (w : World) (hc : w.cell? ⟨9, 15, none⟩ = some (.int .u8 4)) : Calls Tryz.prog 232 #[.int .u64 16] w fun e w' => e = .returned (.int .i64 4) ∧ w = w' := by
  have h : IntKind.u64.wrap (bits BinOp.and IntKind.u64 16 (IntKind.u64.wrap (-16)) * 285870213051353865) / 288230376151711744 = 15 := by decide
  go_enter Tryz.func232, Tryz.ntmps232
  go_wp2
  go_ret
  exact ⟨rfl, rfl⟩
theorem tzu_16 (w : World) (hc : w.cell? ⟨9, 15, none⟩ = some (.int .u8 4)) : Calls Tryz.prog 184 #[.int .u64 16] w fun e w' => e = .returned (.int .i64 4) ∧ w = w' := by
  go_enter Tryz.func184, Tryz.ntmps184
  go_wp2_with (go_at_call 232; refine (tz64_16 _ hc).mono ?_; rintro e w1 ⟨rfl, rfl⟩)
  go_ret
  exact ⟨rfl, rfl⟩

/-- the row of digits, as it is filled from behind -/
def rw65 (x m : Nat) : List Value := List.replicate (65 - m) (.int .u8 0) ++ (hdg x m).map fun (b : UInt8) => Value.int .u8 (b.toNat : Int)
theorem rw65_len (x m : Nat) (h : m ≤ 65) : (rw65 x m).length = 65 := by simp [rw65, hdg_len]; omega
theorem rw65_zero (x m j : Nat) (h : j < 65 - m) : (rw65 x m).toArray[j]? = some (.int .u8 0) := by
  simp only [rw65, List.getElem?_toArray]
  rw [List.getElem?_append_left (by simpa using h), List.getElem?_replicate, if_pos h]
theorem hdg_front : ∀ (m x : Nat), hdg x (m + 1) = hxd (x / 16 ^ m % 16) :: hdg x m
  | 0, x => by simp [hdg]
  | m + 1, x => by
    rw [hdg, hdg_front m (x / 16), hdg, List.cons_append]
    congr 2
    rw [Nat.div_div_eq_div_mul, Nat.pow_succ, Nat.mul_comm]
theorem rw65_put (x m : Nat) (h : m < 65) : (rw65 x m).toArray.setIfInBounds (64 - m) (.int .u8 ((hxd (x / 16 ^ m % 16)).toNat : Int)) = (rw65 x (m + 1)).toArray := by
  rw [List.setIfInBounds_toArray]
  congr 1
  unfold rw65
  obtain ⟨k, hk⟩ : ∃ k, 65 - m = k + 1 := ⟨64 - m, by omega⟩
  rw [hk, show 64 - m = k by omega, show 65 - (m + 1) = k by omega, List.replicate_succ', hdg_front, List.map_cons, List.append_assoc, List.set_append_right _ _ (by simp)]
  simp
theorem heap_put {w : World} {b : Nat} {cur : Array Value} {T : TypeId} {f : Nat × Nat} (h : w.heap[b]? = some (.cells cur T f)) (k : Nat) (v : Value) : (w.setCell ⟨b, k, none⟩ v).heap[b]? = some (.cells (cur.setIfInBounds k v) T f) := by
  simp [World.setCell, Array.getElem?_modify, h]
theorem bits_and15 (y : Nat) (h : y < 18446744073709551616) : bits BinOp.and IntKind.u64 (y : Int) 15 = ((y % 16 : Nat) : Int) := by
  rw [show (15 : Int) = ((15 : Nat) : Int) from rfl, bits_and_u64_nat _ _ h (by decide)]
  congr 1
  exact Nat.and_two_pow_sub_one_eq_mod y 4
/-- the signs of the digits -/
def dgsT : ByteArray := ⟨#[48, 49, 50, 51, 52, 53, 54, 55, 56, 57, 97, 98, 99, 100, 101, 102, 103, 104, 105, 106, 107, 108, 109, 110, 111, 112, 113, 114, 115, 116, 117, 118, 119, 120, 121, 122]⟩
theorem dgsT_at (d : Nat) (h : d < 16) (hs : d < dgsT.size) : dgsT[d]'hs = hxd d := by
  have : d = 0 ∨ d = 1 ∨ d = 2 ∨ d = 3 ∨ d = 4 ∨ d = 5 ∨ d = 6 ∨ d = 7 ∨ d = 8 ∨ d = 9 ∨ d = 10 ∨ d = 11 ∨ d = 12 ∨ d = 13 ∨ d = 14 ∨ d = 15 := by omega
  rcases this with h | h | h | h | h | h | h | h | h | h | h | h | h | h | h | h <;> subst h <;> rfl
set_option maxHeartbeats 8000000 in
set_option maxRecDepth 100000 in
theorem fbits_any (x : Nat) (hx : x < 18446744073709551616) (w : World) (h64 : w.cell? ⟨9, 15, none⟩ = some (.int .u8 4)) :
    Calls Tryz.prog 113 #[.slice none 0 0, .int .u64 (x : Int), .int .i64 16, .bool false, .bool false] w fun e w' => (∃ n, 1 ≤ n ∧ n ≤ 16 ∧ x < 16 ^ n ∧ e = .returned (.tuple #[.slice none 0 0, .string ⟨(hdg x n).toArray⟩])) ∧ Below w.heap.size w w' := by
  have P2 := Lib.hid (fun w' => pow2_16 w')
  have TZ := Lib.hid (fun (o : Obj) => tzu_16 (w.alloc o) (((Below.refl w.heap.size w).alloc (Nat.le_refl _) o).cell (p := ⟨9, 15, none⟩) (World.block_lt_of_cell? w ⟨9, 15, none⟩ h64) |>.trans h64))
  clear h64
  go_enter Tryz.func113, Tryz.ntmps113
  go_wp2_with (first
    | (go_at_call 183; refine (P2.out _).mono ?_; rintro e w1 ⟨rfl, rfl⟩)
    | (go_at_call 184; refine (TZ.out _).mono ?_; rintro e w1 ⟨rfl, rfl⟩))
  go_loopw [1, 13] (fun u i wr => ∃ (m y k : Nat), u = .int .u64 (y : Int) ∧ i = .int .i64 (k : Int) ∧ k + m = 65 ∧ m ≤ 15 ∧ Hid (y = x / 16 ^ m ∧ True) ∧ y < 18446744073709551616 ∧ Hid (wr.heap[w.heap.size]? = some (.cells (rw65 x m).toArray 215 (0, 0))) ∧ Hid (Below w.heap.size w wr))
    (fun u _ _ => (RowKit.intOf u).toNat)
  case atStart => exact ⟨0, x, 65, rfl, rfl, by omega, by omega, Lib.hid ⟨by simp, trivial⟩, hx, Lib.hid (by rw [(Go.MapKept.heap_alloc _ _).1]; rfl), Lib.hid ((Below.refl _ _).alloc (Nat.le_refl _) _)⟩
  case round =>
    obtain ⟨m, y, k, rfl, rfl, hkm, hm, hy, hy2, hH, B⟩ := hrel
    obtain ⟨j, rfl⟩ : ∃ j, k = j + 1 := ⟨k - 1, by omega⟩
    have hc : wr.cell? ⟨w.heap.size, j, none⟩ = some (.int .u8 0) := by rw [Lib.cell_of_heap hH.out]; exact rw65_zero x m j (by omega)
    have hz : wr.frozen? ⟨w.heap.size, j, none⟩ = false := Lib.frozen_of_heap hH.out j
    have hput := rw65_put x m (by omega)
    rw [show 64 - m = j by omega] at hput
    have hdv : ((dgsT[y % 16]'(Nat.lt_of_lt_of_le (Nat.mod_lt y (by omega)) (by decide))).toNat : Int) = ((hxd (x / 16 ^ m % 16)).toNat : Int) := by
      rw [dgsT_at _ (Nat.mod_lt _ (by omega)), hy.out.1]
    have hand := bits_and15 y hy2
    by_cases h16 : 16 ≤ y
    · go_wp2
      have hm1 : m + 1 ≤ 15 := by
        have h1 : 16 * 16 ^ m ≤ x := by
          have := (Nat.le_div_iff_mul_le (Nat.pow_pos (n := m) (show 0 < 16 by omega))).1 (hy.out.1 ▸ h16)
          exact this
        refine Nat.not_lt.1 fun h => ?_
        have h2 : (16 : Nat) ^ 15 ≤ 16 ^ m := Nat.pow_le_pow_right (by omega) (by omega)
        have h3 : (16 : Nat) ^ 15 = 1152921504606846976 := by decide
        omega
      have hp := (congrArg (fun z => some (Obj.cells z 215 (0, 0))) (hdv ▸ hput))
      refine ⟨⟨m + 1, y / 16, j, rfl, rfl, by omega, hm1, Lib.hid ⟨?_, trivial⟩, by omega, Lib.hid ((heap_put hH.out j _).trans hp), Lib.hid (B.out.setCell (Nat.le_refl _) _)⟩, by simp only [RowKit.intOf]; omega⟩
      rw [hy.out.1, Nat.div_div_eq_div_mul, Nat.pow_succ]
    · have hy16 : y % 16 = y := Nat.mod_eq_of_lt (by omega)
      have hal : Tryz.prog.arrayLen 215 = 65 := by simp [Program.arrayLen, Tryz.underlying215]
      have hsl : ∀ W, (Instr.sliceAt 215 (.pointer (some ⟨w.heap.size, 0, none⟩)) (some (.int .i64 (j : Int))) none none).run Tryz.prog W = .ok (.slice (some ⟨w.heap.size, j, none⟩) (m + 1) (m + 1)) W := fun W => by
        rw [run_sliceAt_array_l W 215 ⟨w.heap.size, 0, none⟩ (by simp [Program.arrayLen, Program.elem, Tryz.underlying215]) .i64 (j : Int) (by omega) (by rw [hal]; omega)]
        go_simp
        omega
      have hlt : y < dgsT.size := Nat.lt_of_lt_of_le (Nat.not_le.1 h16) (by decide)
      have hdy : (((dgsT[y]'hlt).toNat : Nat) : Int) = ((hxd (x / 16 ^ m % 16)).toNat : Int) := by
        rw [dgsT_at _ (Nat.not_le.1 h16), ← hy.out.1, hy16]
      have hp := (congrArg (fun z => some (Obj.cells z 215 (0, 0))) hput)
      rw [← hdy] at hp
      have hp2 := (heap_put hH.out j _).trans hp
      have hBs := B.out.setCell (p := ⟨w.heap.size, j, none⟩) (Nat.le_refl _) (.int .u8 (((dgsT[y]'hlt).toNat : Nat) : Int))
      have hcv : (convert 27 9 (.slice (some ⟨w.heap.size, j, none⟩) (m + 1) (m + 1))).run Tryz.prog (wr.setCell ⟨w.heap.size, j, none⟩ (.int .u8 (((dgsT[y]'hlt).toNat : Nat) : Int))) = .ok (.string ⟨(hdg x (m + 1)).toArray⟩) (wr.setCell ⟨w.heap.size, j, none⟩ (.int .u8 (((dgsT[y]'hlt).toNat : Nat) : Int))) := by
        have h := run_convert_bytes_back (P := Tryz.prog) (wr.setCell ⟨w.heap.size, j, none⟩ (.int .u8 (((dgsT[y]'hlt).toNat : Nat) : Int))) 27 9 5 ⟨w.heap.size, j, none⟩ (m + 1) (hdg x (m + 1)) Tryz.underlying27 Tryz.underlying5 Tryz.underlying9 (fun i hi => by
          rw [show (⟨w.heap.size, j, none⟩ : Addr).add i = ⟨w.heap.size, j + i, none⟩ from by unfold Addr.add; split <;> simp_all]
          rw [Lib.cell_of_heap hp2]
          rw [hdg_len] at hi
          simp only [rw65, List.getElem?_toArray]
          rw [List.getElem?_append_right (by simp; omega)]
          simp only [List.length_replicate]
          rw [show j + i - (65 - (m + 1)) = i by omega, List.getElem?_map, List.getElem?_eq_getElem (by rw [hdg_len]; exact hi)]
          rfl)
        rw [hdg_len] at h
        exact h
      have h15 : x < 16 ^ (m + 1) := by
        have := (Nat.div_lt_iff_lt_mul (Nat.pow_pos (n := m) (show 0 < 16 by omega))).1 (hy.out.1 ▸ (Nat.not_le.1 h16))
        rw [Nat.pow_succ, Nat.mul_comm]; exact this
      have H15 := Lib.hid h15
      have HB := Lib.hid hBs
      simp only [dgsT] at hcv HB
      clear hdv hput hand hp hp2 hBs hal hdy hy H15 hH B
      go_wp2
      go_ret2
      exact ⟨⟨m + 1, by omega, by omega, h15, rfl⟩, HB.out⟩
end Go.Proofs.YthibhlimogcpeaaGreatDoor

/-
  THE WALK of desk.Run, under what is told of each line.
-/
namespace Go.Proofs.YthibhlimogcpeaaGreatDoor
open Go.Shelf Go.RowKit Go.Lib Go.Sort

def Tryz.laysWriteS_ren : Go.Shelf.Ren := ⟨fun | 166 => 9 | 240 => 21 | 276 => 34 | n => n, fun | 70 => 26 | 9 => 9 | 3 => 3 | 75 => 32 | 0 => 0 | 72 => 29 | 37 => 27 | 4 => 4 | 164 => 61 | 80 => 38 | 5 => 5 | 20 => 20 | n => n, fun | n => n⟩
theorem Tryz.laysWriteS : Go.Proofs.Lays.n166 Tryz.prog Tryz.laysWriteS_ren := {
  mixed := by kernel_rfl
  f166 := Tryz.func9.trans (congrArg some (by kernel_rfl))
  f240 := Tryz.func21.trans (congrArg some (by kernel_rfl))
  f276 := Tryz.func34.trans (congrArg some (by kernel_rfl))
  t0 := Tryz.underlying0
  a0 := Tryz.isAgg0
  z0 := Tryz.sizeOf0
  v0 := Tryz.zeroValue0
  t3 := Tryz.underlying3
  a3 := Tryz.isAgg3
  z3 := Tryz.sizeOf3
  v3 := Tryz.zeroValue3
  t4 := Tryz.underlying4
  a4 := Tryz.isAgg4
  z4 := Tryz.sizeOf4
  v4 := Tryz.zeroValue4
  t9 := Tryz.underlying9
  a9 := Tryz.isAgg9
  z9 := Tryz.sizeOf9
  v9 := Tryz.zeroValue9
  t20 := Tryz.underlying20
  a20 := Tryz.isAgg20
  z20 := Tryz.sizeOf20
  v20 := Tryz.zeroValue20
  t37 := Tryz.underlying27
  a37 := Tryz.isAgg27
  z37 := Tryz.sizeOf27
  v37 := Tryz.zeroValue27
  t70 := Tryz.underlying26
  a70 := Tryz.isAgg26
  z70 := Tryz.sizeOf26
  v70 := Tryz.zeroValue26
  t72 := Tryz.underlying29
  a72 := Tryz.isAgg29
  z72 := Tryz.sizeOf29
  v72 := Tryz.zeroValue29
  t75 := Tryz.underlying32
  a75 := Tryz.isAgg32
  z75 := Tryz.sizeOf32
  v75 := Tryz.zeroValue32
  t164 := Tryz.underlying61
  a164 := Tryz.isAgg61
  z164 := Tryz.sizeOf61
  v164 := Tryz.zeroValue61 }
def Tryz.laysBString_ren : Go.Shelf.Ren := ⟨fun | 169 => 13 | n => n, fun | 70 => 26 | 9 => 9 | 0 => 0 | 72 => 29 | 37 => 27 | 127 => 55 | 3 => 3 | 5 => 5 | n => n, fun | n => n⟩
theorem Tryz.laysBString : Go.Proofs.Lays.n169 Tryz.prog Tryz.laysBString_ren := {
  mixed := by kernel_rfl
  f169 := Tryz.func13.trans (congrArg some (by kernel_rfl))
  t0 := Tryz.underlying0
  a0 := Tryz.isAgg0
  z0 := Tryz.sizeOf0
  v0 := Tryz.zeroValue0
  t3 := Tryz.underlying3
  a3 := Tryz.isAgg3
  z3 := Tryz.sizeOf3
  v3 := Tryz.zeroValue3
  t9 := Tryz.underlying9
  a9 := Tryz.isAgg9
  z9 := Tryz.sizeOf9
  v9 := Tryz.zeroValue9
  t37 := Tryz.underlying27
  a37 := Tryz.isAgg27
  z37 := Tryz.sizeOf27
  v37 := Tryz.zeroValue27
  t70 := Tryz.underlying26
  a70 := Tryz.isAgg26
  z70 := Tryz.sizeOf26
  v70 := Tryz.zeroValue26
  t72 := Tryz.underlying29
  a72 := Tryz.isAgg29
  z72 := Tryz.sizeOf29
  v72 := Tryz.zeroValue29
  t127 := Tryz.underlying55
  a127 := Tryz.isAgg55
  z127 := Tryz.sizeOf55
  v127 := Tryz.zeroValue55 }
theorem fWriteS : Tryz.laysWriteS_ren.f 166 = 9 := by kernel_rfl
theorem fBString : Tryz.laysBString_ren.f 169 = 13 := by kernel_rfl
theorem extraWriteS : Builder.Extra Tryz.prog Tryz.laysWriteS_ren := {
  sizeBuilder := by kernel_rfl
  liesBuilder := by kernel_rfl
  t5 := Tryz.underlying5
  a5 := Tryz.isAgg5
  z5 := Tryz.sizeOf5
  v5 := Tryz.zeroValue5
  infoByte := by kernel_rfl
  cellsByte := by kernel_rfl
  sizeByte := by kernel_rfl
  neB5 := by decide }
theorem extraBString : Builder.Extra Tryz.prog Tryz.laysBString_ren := {
  sizeBuilder := by kernel_rfl
  liesBuilder := by kernel_rfl
  t5 := Tryz.underlying5
  a5 := Tryz.isAgg5
  z5 := Tryz.sizeOf5
  v5 := Tryz.zeroValue5
  infoByte := by kernel_rfl
  cellsByte := by kernel_rfl
  sizeByte := by kernel_rfl
  neB5 := by decide }
/-- a builder that holds bytes -/
def Bld (B b : Nat) (l : List UInt8) (w : World) : Prop := IsBuilder 29 5 B b (byteCells l) w
theorem bldAt_below {T e : TypeId} {B b : Nat} {p : Value} {bs : List Value} {w w' : World} (h : BuilderAt T e B b p bs w) (hb : Below w.heap.size w w') : BuilderAt T e B b p bs w' := by
  obtain ⟨hB, v, hk, hown, hne⟩ := h
  exact ⟨hB, v, by rw [hb.block b (Array.getElem?_eq_some_iff.1 hk).1]; exact hk, ownS_below hown hb, hne⟩
theorem Bld.below {B b : Nat} {l : List UInt8} {w w' : World} (h : Bld B b l w) (hb : Below w.heap.size w w') : Bld B b l w' :=
  h.elim (fun h => .inl (bldAt_below h hb)) (fun h => .inr (bldAt_below h hb))
theorem writeS_any (B b : Nat) (l s : List UInt8) (S : ByteArray) (hS : S = ⟨s.toArray⟩) (w : World) (h : Bld B b l w) (hl : l.length + s.length ≤ 140737488355328) (hB : B ≤ w.heap.size) :
    Calls Tryz.prog 9 #[.pointer (some ⟨b, 0, none⟩), .string S] w fun e w' => (∃ n : Int, e = .returned (.tuple #[.int .i64 n, .nilIface])) ∧ Bld B b (l ++ s) w' ∧ Below B w w' := by
  subst hS
  have hc := Any.Builder_WriteString Tryz.laysWriteS extraWriteS B b (byteCells l) ⟨s.toArray⟩ w h (by rw [byteCells_length]; exact hl) hB
  rw [fWriteS] at hc
  refine hc.mono ?_
  rintro e w' ⟨rfl, h1, h2⟩
  refine ⟨⟨_, rfl⟩, .inr ?_, h2⟩
  have e1 : byteCells l ++ strCells ⟨s.toArray⟩ = byteCells (l ++ s) := by simp [byteCells, strCells]
  rw [e1] at h1
  exact h1
theorem bString_any (B b : Nat) (l : List UInt8) (w : World) (h : Bld B b l w) (hB : B ≤ w.heap.size) :
    Calls Tryz.prog 13 #[.pointer (some ⟨b, 0, none⟩)] w fun e w' => e = .returned (.string ⟨l.toArray⟩) ∧ Below B w w' := by
  have hc := Any.Builder_String_any Tryz.laysBString extraBString B b l w h hB
  rw [fBString] at hc
  exact hc

/-- the cells of a line's words -/
def Wr (w : World) (A : Nat) (l : List (List UInt8)) : Prop := ∀ (j : Nat) x, l[j]? = some x → w.cell? ⟨A, j, none⟩ = some (encL x)
theorem Wr.lt {w : World} {A : Nat} {l : List (List UInt8)} (h : Wr w A l) (h0 : l ≠ []) : A < w.heap.size := by
  cases l with
  | nil => exact absurd rfl h0
  | cons x t => exact World.block_lt_of_cell? w ⟨A, 0, none⟩ (h 0 x rfl)
theorem Wr.below {w w' : World} {A B : Nat} {l : List (List UInt8)} (h : Wr w A l) (hb : Below B w w') (hA : A < B) : Wr w' A l := fun j x hx => (hb.cell (p := ⟨A, j, none⟩) hA).trans (h j x hx)
/-- what a line tells -/
def Tells (l : List (List UInt8)) (o : List UInt8) : Prop := o.length ≤ 1000000 ∧ ∀ (w : World) (A : Nat), Dk w → Wr w A l → A < w.heap.size →
  Calls Tryz.prog 26 #[.slice (some ⟨A, 0, none⟩) l.length l.length] w (RetT w o)
/-- a line's value -/
def slV (A : Nat) (l : List (List UInt8)) : Value := .slice (some ⟨A, 0, none⟩) l.length l.length
/-- the lines laid so far: their blocks, their words -/
structure Lnd (w : World) (v : Value) (bl : List Nat) (L : List (List (List UInt8))) : Prop where
  len : bl.length = L.length
  ne : ∀ l ∈ L, l ≠ []
  cells : ∀ (j : Nat) A l, bl[j]? = some A → L[j]? = some l → v.ownBlock ≠ some A ∧ Wr w A l
def rwL (bl : List Nat) (L : List (List (List UInt8))) : List Value := List.zipWith slV bl L
theorem infoSl : (Tryz.prog.info? 30).map (fun i => (i.zero, i.size, i.bytes)) = some (some (.slice none 0 0), 1, 24) := by kernel_rfl
theorem wpList_pushV {ops : Array Oper} {rest : List Oper} {o : Oper} {a : Act} {Q : Exit → Act → World → Prop} {w0 : World} {Y : Value} (hgd : o.guard = none) (s x : Operand)
    (ho : o.op = .call { callee := .builtin .append, args := #[s, x], argTypes := #[22, 22] })
    (base : Nat) (hbase : base ≤ w0.heap.size) (v : Value) (xs : List Value) (hs : a.eval s = v) (hown : w0.ownsRow base 30 1 v xs.length xs)
    (A : Nat) (l : List (List UInt8)) (hx : a.eval x = .slice (some ⟨w0.heap.size, 0, none⟩) 1 1) (hY : Y = slV A l) (hl : xs.length ≤ 10000000)
    (h : ∀ v' w', w'.ownsRow base 30 1 v' (xs ++ [slV A l]).length (xs ++ [slV A l]) → Below base w0 w' → (w0.alloc (.cells #[slV A l] 30)).grownBy w' v.ownBlock → wpList Tryz.prog ops Q rest (a.put o.dst v') w') :
    wpList Tryz.prog ops Q (o :: rest) a (w0.alloc (.cells #[Y] 30)) := by
  subst hY
  obtain ⟨i0, hi, hz0, hz1, hz2⟩ := info_parts infoSl
  refine wpList_append_own _ hgd s x 22 ho base 30 i0 (.slice none 0 0) 1 24 Tryz.underlying22 hi hz0 hz1 hz2 rfl (by decide) v xs.length xs hs (hown.alloc _) ⟨w0.heap.size, 0, none⟩ 1 1 [slV A l] hx rfl (cell_one_new _ _ _) (by intro u hu; simp at hu; subst hu; rfl) (by unfold maxLen; omega) (by omega) (by simp; omega) ?_
  intro v' w1 hown1 hgrow _
  refine h v' w1 ?_ ?_ hgrow
  · rw [List.length_append]; exact hown1
  · refine ((Below.refl base w0).alloc hbase _).trans (grown_below hgrow (by simp; omega) ?_)
    intro k hk
    exact (hown.lt k hk).1
theorem rwL_push {bl : List Nat} {L : List (List (List UInt8))} (h : bl.length = L.length) (A : Nat) (l : List (List UInt8)) : rwL (bl ++ [A]) (L ++ [l]) = rwL bl L ++ [slV A l] := by
  unfold rwL
  rw [List.zipWith_append h]
  rfl
theorem rwL_len {bl : List Nat} {L : List (List (List UInt8))} (h : bl.length = L.length) : (rwL bl L).length = L.length := by
  unfold rwL
  rw [List.length_zipWith, h, Nat.min_self]
theorem rwL_at {bl : List Nat} {L : List (List (List UInt8))} {j A : Nat} {l : List (List UInt8)} (hA : bl[j]? = some A) (hl : L[j]? = some l) : (rwL bl L)[j]? = some (slV A l) := by
  unfold rwL
  rw [List.getElem?_zipWith, hA, hl]
theorem Lnd.push {w w' : World} {v v' : Value} {base : Nat} {bl : List Nat} {L : List (List (List UInt8))} (h : Lnd w v bl L) (A : Nat) (l : List (List UInt8)) (h0 : l ≠ []) (hA : Wr w A l) (hA2 : v.ownBlock ≠ some A)
    (hg : (w.alloc (.cells #[slV A l] 30)).grownBy w' v.ownBlock) (hv : w'.ownsRow base 30 1 v' (rwL bl L ++ [slV A l]).length (rwL bl L ++ [slV A l])) : Lnd w' v' (bl ++ [A]) (L ++ [l]) := by
  have keep : ∀ A' l', l' ≠ [] → v.ownBlock ≠ some A' → Wr w A' l' → v'.ownBlock ≠ some A' ∧ Wr w' A' l' := by
    intro A' l' h0 hne hw
    have hlt := hw.lt h0
    have hw' : Wr w' A' l' := by
      intro j x hx
      have h1 := hw j x hx
      have h2 : w'.heap[A']? = w.heap[A']? := by
        rw [hg.block A' (by simp; omega) (fun e => hne e.symm)]
        exact Below.heap_alloc _ _ _ hlt
      exact (World.cell?_of_block (w := w) h2).trans h1
    refine ⟨fun e => ?_, hw'⟩
    obtain ⟨m, c, hm⟩ : ∃ m c, (rwL bl L ++ [slV A l])[0]? = some (slV m c) := by
      rw [← rwL_push h.len]
      cases bl with
      | nil =>
        cases L with
        | nil => exact ⟨A, l, rfl⟩
        | cons _ _ => have := h.len; simp at this
      | cons b t =>
        cases L with
        | nil => have := h.len; simp at this
        | cons d r => exact ⟨b, d, rfl⟩
    have h3 := hv.cells e 0 _ hm
    cases l' with
    | nil => exact h0 rfl
    | cons x r =>
      have h4 := hw' 0 x rfl
      have e0 : (⟨A', 0, none⟩ : Addr).add 0 = ⟨A', 0, none⟩ := by unfold Addr.add; rfl
      rw [e0, h4] at h3
      simp [slV, encL] at h3
  refine ⟨by simp [h.len], fun m hm => ?_, fun j B m hB hm => ?_⟩
  · rcases List.mem_append.1 hm with h1 | h1
    · exact h.ne m h1
    · simp at h1; subst h1; exact h0
  · by_cases hj : j < bl.length
    · rw [List.getElem?_append_left hj] at hB
      rw [List.getElem?_append_left (by rw [← h.len]; exact hj)] at hm
      obtain ⟨g1, g2⟩ := h.cells j B m hB hm
      exact keep B m (h.ne m (List.mem_of_getElem? hm)) g1 g2
    · have : j = bl.length := by
        have := (List.getElem?_eq_some_iff.1 hB).1
        simp at this; omega
      subst this
      rw [List.getElem?_append_right (Nat.le_refl _), Nat.sub_self] at hB
      rw [h.len, List.getElem?_append_right (Nat.le_refl _), Nat.sub_self] at hm
      simp at hB hm
      subst hB hm
      exact keep A l h0 hA2 hA
theorem Lnd.below {w w' : World} {v : Value} {bl : List Nat} {L : List (List (List UInt8))} (h : Lnd w v bl L) (hb : Below w.heap.size w w') : Lnd w' v bl L :=
  ⟨h.len, h.ne, fun j A l h1 h2 => by
    obtain ⟨g1, g2⟩ := h.cells j A l h1 h2
    exact ⟨g1, g2.below hb (g2.lt (h.ne l (List.mem_of_getElem? h2)))⟩⟩
/-- the lines that have a word -/
def dkP (ps : List (List UInt8)) : List (List (List UInt8)) := (ps.map fun s => wds [] (s.takeWhile (· != 59))).filter (!·.isEmpty)
theorem dkP_step (ps : List (List UInt8)) (i : Nat) (p : List UInt8) (hp : ps[i]? = some p) : dkP (ps.take (i + 1)) = dkP (ps.take i) ++ (if (wds [] (p.takeWhile (· != 59))).isEmpty = true then [] else [wds [] (p.takeWhile (· != 59))]) := by
  have hi := (List.getElem?_eq_some_iff.1 hp).1
  rw [List.take_succ_eq_append_getElem hi]
  have : ps[i] = p := (List.getElem?_eq_some_iff.1 hp).2
  rw [this]
  unfold dkP
  rw [List.map_append, List.filter_append]
  congr 1
  simp [List.filter_cons]
theorem dkP_len (ps : List (List UInt8)) : (dkP ps).length ≤ ps.length := by
  unfold dkP
  refine Nat.le_trans (List.length_filter_le _ _) ?_
  rw [List.length_map]; exact Nat.le_refl _
theorem lns_sub (c : UInt8) : ∀ (l : List UInt8) (p : List UInt8), p ∈ lns c l → p.length ≤ l.length
  | [], p, h => by simp [lns] at h; subst h; exact Nat.le_refl _
  | b :: t, p, h => by
    have ih := lns_sub c t
    rw [lns] at h
    split at h
    · rcases List.mem_cons.1 h with h | h
      · subst h; simp
      · have := ih p h; simp; omega
    · split at h
      · rename_i x xs e
        rw [e] at ih
        rcases List.mem_cons.1 h with h | h
        · subst h; have := ih x (by simp); simp; omega
        · have := ih p (by simp [h]); simp; omega
      · simp at h; subst h; simp
theorem takeWhile_le {p : UInt8 → Bool} : ∀ l : List UInt8, (l.takeWhile p).length ≤ l.length := fun l => (List.takeWhile_sublist p).length_le
/-- a row of strings of one's own, cell by cell -/
theorem wr_own {w : World} {base A : Nat} {l : List (List UInt8)} (h : w.ownsRow base 9 1 (slV A l) l.length (lst l)) : Wr w A l := by
  intro j x hx
  have := h.cells (g := A) rfl j (encL x) (by simp [lst, hx])
  rw [show (⟨A, 0, none⟩ : Addr).add j = ⟨A, 0 + j, none⟩ from by unfold Addr.add; split <;> simp_all, Nat.zero_add] at this
  exact this
theorem nlEq (o : List UInt8) : (⟨o.toArray⟩ ++ ⟨#[10]⟩ : ByteArray) = ⟨(o ++ [10]).toArray⟩ := by apply ByteArray.ext; simp [ByteArray.data_append]
/-- what Run tells -/
def runT (outs : List (List UInt8)) : List UInt8 := (outs.map (· ++ [10])).flatten
theorem runT_step (outs : List (List UInt8)) (i : Nat) (o : List UInt8) (ho : outs[i]? = some o) : runT (outs.take (i + 1)) = runT (outs.take i) ++ (o ++ [10]) := by
  have hi := (List.getElem?_eq_some_iff.1 ho).1
  rw [List.take_succ_eq_append_getElem hi, (List.getElem?_eq_some_iff.1 ho).2]
  simp [runT]
theorem runT_len (outs : List (List UInt8)) (h : ∀ o ∈ outs, o.length ≤ 1000000) : (runT outs).length ≤ 1000001 * outs.length := by
  induction outs with
  | nil => simp [runT]
  | cons o t ih =>
    have h1 := ih (fun x hx => h x (by simp [hx]))
    have h2 := h o (by simp)
    simp [runT] at *
    omega
set_option maxHeartbeats 8000000 in
set_option maxRecDepth 100000 in
theorem run_any (t : List UInt8) (S : ByteArray) (hS : S = ⟨t.toArray⟩) (hl : t.length ≤ 16384) (outs : List (List UInt8)) (hlen : outs.length = (dkP (lns 10 t)).length) (hn : (dkP (lns 10 t)).length ≤ 100)
    (hT : ∀ (j : Nat) l o, (dkP (lns 10 t))[j]? = some l → outs[j]? = some o → Tells l o) (w : World) (hD : Dk w) :
    Calls Tryz.prog 12 #[.string S] w (RetT w (runT outs)) := by
  have es : S.data.toList = t := by rw [hS]
  have SP := split_any S w (by rw [hS]; show t.toArray.size ≤ _; simp; omega) hD.mx
  rw [es] at SP
  have hzS : S.size = t.length := by rw [hS]; rfl
  have HSub := Lib.hid (lns_sub 10 t)
  have hPl := lns_len 10 t
  generalize lns 10 t = P at *
  obtain ⟨np, hnp⟩ : ∃ np, np = P.length := ⟨_, rfl⟩
  rw [← hnp] at SP hPl
  have SP2 := Lib.hid SP
  have HT := Lib.hid hT
  have HD := Lib.hid hD
  have HP := Lib.hid hnp
  have HLN := Lib.hid hlen
  unfold RetT
  clear SP hT hD hnp hlen es hS
  go_enter Tryz.func12, Tryz.ntmps12
  go_wp2_with (go_at_call 18; refine SP2.out.mono ?_; rintro e w1 ⟨rfl, hw1⟩; have HW1 := Lib.hid hw1; clear hw1)
  have hs1 : w1.heap.size = w.heap.size + 1 := by rw [HW1.out]; simp
  have HB1 : Hid (Below w.heap.size w w1) := Lib.hid (by rw [HW1.out]; exact (Below.refl _ _).alloc (Nat.le_refl _) _)
  have HC : Hid (∀ (j : Nat) x, P[j]? = some x → w1.cell? ⟨w.heap.size, j, none⟩ = some (encL x)) := Lib.hid (by
    intro j x hx
    rw [HW1.out]
    show (World.alloc _ _).cell? _ = _
    simp [lst, hx])
  go_loopw [3, 16] (fun v iv wr => ∃ (i : Nat) (bl : List Nat), iv = .int .i64 (i : Int) ∧ i ≤ np ∧ Hid (wr.ownsRow w1.heap.size 30 1 v (rwL bl (dkP (P.take i))).length (rwL bl (dkP (P.take i))) ∧ Lnd wr v bl (dkP (P.take i))) ∧ Hid (Below w1.heap.size w1 wr))
    (fun _ iv _ => np - (RowKit.intOf iv).toNat)
  case atStart => exact ⟨0, [], rfl, by omega, Lib.hid ⟨World.ownsRow_nil _ _ _ _, ⟨rfl, by simp [dkP], by simp⟩⟩, Lib.hid (Below.refl _ _)⟩
  case round =>
    obtain ⟨i, bl, rfl, hi, hR, B⟩ := hrel
    have hsz := B.out.size
    obtain ⟨L, hL⟩ : ∃ L, L = dkP (P.take i) := ⟨_, rfl⟩
    rw [← hL] at hR
    obtain ⟨ao, ln, cp, rfl⟩ : ∃ ao ln cp, u3 = .slice ao ln cp := by
      rcases hR.out.1.2 with ⟨h, _⟩ | ⟨g, c, cur, h, _⟩
      · exact ⟨_, _, _, h⟩
      · exact ⟨_, _, _, h⟩
    by_cases hin : i < np
    · obtain ⟨p, hp⟩ : ∃ p, P[i]? = some p := ⟨_, List.getElem?_eq_getElem (by rw [← HP.out]; exact hin)⟩
      obtain ⟨T, hTT⟩ : ∃ T : ByteArray, T = ⟨p.toArray⟩ := ⟨_, rfl⟩
      have hc : wr.cell? ⟨w.heap.size, i, none⟩ = some (.string T) := by
        rw [B.out.cell (p := ⟨w.heap.size, i, none⟩) (by show w.heap.size < _; omega), HC.out i p hp, hTT]
      have hpl : p.length ≤ 16384 := Nat.le_trans (HSub.out p (List.mem_of_getElem? hp)) hl
      have D1 := Lib.hid (HD.out.below (bl_thru HB1.out (Nat.le_refl _) B.out))
      have CU := cut59_any T wr (by rw [hTT]; show p.toArray.size ≤ _; simp; omega) D1.out.mx
      rw [show T.data.toList = p by rw [hTT]] at CU
      obtain ⟨q, hq⟩ : ∃ q, q = p.takeWhile (· != 59) := ⟨_, rfl⟩
      rw [← hq] at CU
      have hql : q.length ≤ 16384 := by rw [hq]; exact Nat.le_trans (takeWhile_le _) hpl
      obtain ⟨Q, hQ⟩ : ∃ Q : ByteArray, Q = ⟨q.toArray⟩ := ⟨_, rfl⟩
      rw [← hQ] at CU
      have FF := fun w' => fieldsF_any Q w' (by rw [hQ]; show q.toArray.size ≤ _; simp; omega)
      simp only [show Q.data.toList = q by rw [hQ]] at FF
      obtain ⟨ws, hws⟩ : ∃ ws, ws = wds [] q := ⟨_, rfl⟩
      simp only [← hws] at FF
      have hst := dkP_step P i p hp
      rw [← hq, ← hws, ← hL] at hst
      have HST := Lib.hid hst
      have CUH := Lib.hid CU
      have FFH := Lib.hid FF
      have HLL : Hid (L.length ≤ 100000 ∧ True) := Lib.hid ⟨by
        rw [hL]; refine Nat.le_trans (dkP_len _) ?_
        rw [List.length_take, ← HP.out]; omega, trivial⟩
      clear hst CU FF hws hQ hq hTT hp hL hpl hql
      by_cases h0 : ws = []
      · subst h0
        go_wp2_with (first
          | (go_at_call 23; refine CUH.out.mono ?_; rintro e w2 ⟨⟨tt, bb, rfl⟩, hb⟩; have B2 := Lib.hid (bl_thru B.out (Nat.le_refl _) hb); have b2 := Lib.hid hb; clear hb CUH)
          | (go_at_call 24; refine (FFH.out _).mono ?_; rintro e w3 ⟨A, rfl, hA, hown, hb⟩; have B3 := Lib.hid (bl_thru B2.out (Nat.le_refl _) hb); have b3 := Lib.hid (bl_thru b2.out (Nat.le_refl _) hb); clear hb hown FFH))
        refine ⟨⟨i + 1, bl, rfl, by omega, Lib.hid ?_, B3⟩, by simp only [RowKit.intOf]; omega⟩
        have e := HST.out
        simp only [List.isEmpty_nil, if_true, List.append_nil] at e
        rw [e]
        exact ⟨ownS_below hR.out.1 b3.out, hR.out.2.below b3.out⟩
      · have hpos : 0 < ws.length := List.length_pos_iff.2 h0
        have hposz : (0 : Int) < (ws.length : Int) := by omega
        have H0 := Lib.hid h0
        have hLx : Hid ((rwL bl L).length ≤ 10000000 ∧ True) := Lib.hid ⟨by rw [rwL_len hR.out.2.len]; have := HLL.out.1; omega, trivial⟩
        clear h0
        go_wp2_with (first
          | (go_at_call 23; refine CUH.out.mono ?_; rintro e w2 ⟨⟨tt, bb, rfl⟩, hb⟩; have B2 := Lib.hid (bl_thru B.out (Nat.le_refl _) hb); have b2 := Lib.hid hb; clear hb CUH)
          | (go_at_call 24; refine (FFH.out _).mono ?_; rintro e w3 ⟨A, rfl, hA, hown, hb⟩; have B3 := Lib.hid (bl_thru B2.out (Nat.le_refl _) hb); have b3 := Lib.hid (bl_thru b2.out (Nat.le_refl _) hb); have WR := Lib.hid (wr_own hown); have hz3 := B3.out.size; have O3 := Lib.hid (ownS_below hR.out.1 b3.out); have N3 := Lib.hid (hR.out.2.below b3.out); have hAO : Hid ((Value.slice ao ln cp).ownBlock ≠ some A ∧ True) := Lib.hid ⟨fun ee => (by have h1 := (hR.out.1.lt A ee).2; have h2 := b2.out.size; omega), trivial⟩; clear hb hown FFH)
          | (at_builtin; refine wpList_pushV rfl _ _ rfl w1.heap.size hz3 _ (rwL bl L) rfl O3.out A ws rfl rfl hLx.out.1 ?_; intro v5 w5 ho5 hb5 hg5; have O5 := Lib.hid ho5; have N5 := Lib.hid (N3.out.push A ws H0.out WR.out hAO.out.1 hg5 ho5); have B5 := Lib.hid (B3.out.trans hb5); clear ho5 hb5 hg5))
        refine ⟨⟨i + 1, bl ++ [A], rfl, by omega, Lib.hid ?_, B5⟩, by simp only [RowKit.intOf]; omega⟩
        have e := HST.out
        rw [if_neg (by simpa using H0.out)] at e
        rw [e, rwL_push hR.out.2.len]
        exact ⟨O5.out, N5.out⟩
    · have hLP : L = dkP P := by rw [hL, List.take_of_length_le (by rw [← HP.out]; omega)]
      have hLn : L.length ≤ 100 := by rw [hLP]; exact hn
      have hlo : outs.length = L.length := by rw [hLP]; exact HLN.out
      have HT2 := HT.out
      rw [← hLP] at HT2
      have hln : ln = L.length := by
        have e := rwL_len hR.out.2.len
        rcases hR.out.1.2 with ⟨h, h0⟩ | ⟨g, c, cur, h, _⟩
        · cases h; omega
        · cases h; exact e
      subst hln
      obtain ⟨n, hnn⟩ : ∃ n, n = L.length := ⟨_, rfl⟩
      rw [← hnn] at hLn hlo
      have HTe := Lib.hid HT2
      have Hlo := Lib.hid hlo
      have Hnn := Lib.hid hnn
      have hnz : (n : Int) ≤ 100 := by omega
      have hBx := Lib.hid (bl_thru HB1.out (Nat.le_refl _) B.out)
      have HO : Hid (∀ o ∈ outs, o.length ≤ 1000000) := Lib.hid (by
        intro o ho
        obtain ⟨j, hj⟩ := List.mem_iff_getElem?.1 ho
        have hjl : j < L.length := by rw [← hnn, ← hlo]; exact (List.getElem?_eq_some_iff.1 hj).1
        exact (HT2 j _ o (List.getElem?_eq_getElem hjl) hj).1)
      rw [← hnn] at hR ⊢
      clear hL hLP HT2 hnn hlo HT hPl hn HSub SP2 HC
      have b0 : Hid (Bld wr.heap.size wr.heap.size (runT (outs.take 0)) (wr.alloc (.cells #[.pointer none, .slice none 0 0] 29))) := Lib.hid (.inl ⟨Nat.le_refl _, .slice none 0 0, (Go.MapKept.heap_alloc _ _).1, World.ownsRow_nil _ _ _ _, by simp [Value.ownBlock]⟩)
      go_wp2
      generalize wr = wl at *
      go_loopw [41] (fun iv w2 => ∃ i : Nat, iv = .int .i64 (i : Int) ∧ i ≤ n ∧ Hid (Bld wl.heap.size wl.heap.size (runT (outs.take i)) w2) ∧ Hid (Below wl.heap.size wl w2)) (fun iv _ => n - (RowKit.intOf iv).toNat)
      case atStart => exact ⟨0, rfl, by omega, b0, Lib.hid ((Below.refl _ _).alloc (Nat.le_refl _) _)⟩
      case round =>
        obtain ⟨i, rfl, hi2, hb, B2⟩ := hrel
        by_cases hin2 : i < n
        · have hil : i < L.length := by rw [← Hnn.out]; exact hin2
          obtain ⟨l, hl'⟩ : ∃ l, L[i]? = some l := ⟨_, List.getElem?_eq_getElem hil⟩
          obtain ⟨A, hA⟩ : ∃ A, bl[i]? = some A := ⟨_, List.getElem?_eq_getElem (by rw [hR.out.2.len]; exact hil)⟩
          obtain ⟨o, ho⟩ : ∃ o, outs[i]? = some o := ⟨_, List.getElem?_eq_getElem (by rw [Hlo.out]; exact hin2)⟩
          obtain ⟨g, rfl⟩ : ∃ g, ao = some ⟨g, 0, none⟩ := by
            rcases hR.out.1.2 with ⟨h, h0⟩ | ⟨g, c, cur, h, _⟩
            · rw [rwL_len hR.out.2.len] at h0; omega
            · exact ⟨g, by injection h⟩
          have hgl := (hR.out.1.lt g rfl).2
          have hc : wr.cell? ⟨g, i, none⟩ = some (.slice (some ⟨A, 0, none⟩) l.length l.length) := by
            have c1 := hR.out.1.cells (g := g) rfl i _ (rwL_at hA hl')
            rw [show (⟨g, 0, none⟩ : Addr).add i = ⟨g, 0 + i, none⟩ from by unfold Addr.add; split <;> simp_all, Nat.zero_add] at c1
            exact (B2.out.cell (p := ⟨g, i, none⟩) hgl).trans c1
          obtain ⟨g1, g2⟩ := hR.out.2.cells i A l hA hl'
          have hAlt := g2.lt (hR.out.2.ne l (List.mem_of_getElem? hl'))
          have TL := HTe.out i l o hl' ho
          have LN := TL.2 wr A (HD.out.below (bl_thru hBx.out (Nat.le_refl _) B2.out)) (g2.below B2.out hAlt) (Nat.lt_of_lt_of_le hAlt B2.out.size)
          unfold RetT at LN
          have LNH := Lib.hid LN
          have ho6 := TL.1
          have hrl : (runT (outs.take i)).length ≤ 1000001 * 100 := by
            have h1 := runT_len (outs.take i) (fun x hx => HO.out x (List.mem_of_mem_take hx))
            rw [List.length_take] at h1
            omega
          have WS := Lib.hid (fun S' hS' w' h hB => writeS_any wl.heap.size wl.heap.size (runT (outs.take i)) (o ++ [10]) S' hS' w' h (by rw [List.length_append]; simp; omega) hB)
          have hst := Lib.hid (runT_step outs i o ho)
          clear g1 g2 TL LN hrl hl' hA ho
          go_wp2_with (first
            | (go_at_call 26; refine LNH.out.mono ?_; rintro e w3 ⟨rfl, hb3⟩; have B3 := Lib.hid (bl_thru B2.out (Nat.le_refl _) hb3); have b3 := Lib.hid (hb.out.below hb3); clear hb3 LNH)
            | (go_at_call 9; refine (WS.out _ (nlEq o) _ b3.out B3.out.size).mono ?_; rintro e w4 ⟨⟨nn, rfl⟩, h4, hb4⟩; have H4 := Lib.hid h4; have B4 := Lib.hid (B3.out.trans hb4); clear h4 hb4))
          exact ⟨⟨i + 1, rfl, by omega, Lib.hid (by rw [hst.out]; exact H4.out), B4⟩, by simp only [RowKit.intOf]; omega⟩
        · have hie : outs.take i = outs := List.take_of_length_le (by rw [Hlo.out]; omega)
          rw [hie] at hb
          have BS := Lib.hid (bString_any wl.heap.size wl.heap.size (runT outs) wr hb.out B2.out.size)
          go_wp2_with (go_at_call 13; refine BS.out.mono ?_; rintro e w4 ⟨rfl, hb4⟩; have B4 := Lib.hid (B2.out.trans hb4); clear hb4)
          go_ret
          exact ⟨rfl, bl_thru hBx.out (Nat.le_refl _) B4.out⟩
end Go.Proofs.YthibhlimogcpeaaGreatDoor

/-
  THE WALK of desk.line: the deferred closure, where the frame returns and where it panics with an error; what is told then.
-/
namespace Go.Proofs.YthibhlimogcpeaaGreatDoor
open Go.Shelf Go.RowKit Go.Lib

/-- what an error tells -/
def erT (k : Nat) : List UInt8 := [101, 114, 114, 111, 114, 32] ++ Lib.decDigits k
theorem lcatch_idle (p : Addr) (w : World) :
    CallsD Tryz.prog 37 #[.pointer (some p)] .returning w fun e u' w' => e = .returned (.tuple #[]) ∧ u' = .returning ∧ w' = w := by
  refine callsD_of_wpS Tryz.func37 rfl fun c₀ cs hu => ?_
  apply wpS_seq
  apply wpS_region
  simp [wpOpsS, go_sem, recoverD, hu, Tryz.ntmps37, Exit.thenS]
  simp only [List.replicate_succ, List.replicate_zero, Array.replicate_succ, Array.replicate_zero, List.push_toArray, List.append_toArray, List.nil_append, List.cons_append, Array.setIfInBounds, List.size_toArray]
  refine wpS_of_wp ?_
  go_wp2
  cases c₀
  simp_all [bodyPostS, results, Tryz.results37]
set_option maxRecDepth 100000 in
theorem lcatch_pan (p : Addr) (x : ByteArray) (k : Nat) (hk : k < 1000000000) (older : List PanicEntry) (w : World) (hc : w.cell? p = some (.string x)) (hz : w.frozen? p = false) (hT10 : Tab10 w) :
    CallsD Tryz.prog 37 #[.pointer (some p)] (.panicking ({ v := .iface 66 (.int .i64 (k : Int)), recovered := false } :: older)) w fun e u' w' =>
      e = .returned (.tuple #[]) ∧ u' = .panicking ({ v := .iface 66 (.int .i64 (k : Int)), recovered := true } :: older) ∧ ∃ w1, Below w.heap.size w w1 ∧ w' = w1.setCell p (.string ⟨(erT k).toArray⟩) := by
  have IT := Lib.hid (itoa_any k hk w hT10)
  have hta : ∀ (n : Int) (w : World), (Instr.typeAssert (.iface 66 (.int .i64 n)) 20 66 true).run Tryz.prog w = .ok (.tuple #[.int .i64 n, .bool true]) w := fun _ _ => rfl
  have hlt := World.block_lt_of_cell? w p hc
  have hdl : (Lib.decDigits k).length ≤ 1000 := by
    have h1 := dec_mono (show k ≤ 999999999 by omega)
    have h2 : (Lib.decDigits 999999999).length = 9 := by decide +kernel
    omega
  obtain ⟨D, hDD⟩ : ∃ D : ByteArray, D = ⟨(Lib.decDigits k).toArray⟩ := ⟨_, rfl⟩
  rw [← hDD] at IT
  have hzD : D.size ≤ 1000 := by rw [hDD]; exact hdl
  have HDD := Lib.hid hDD
  clear hT10 hDD hdl
  refine callsD_of_wpS Tryz.func37 rfl fun c₀ cs hu => ?_
  apply wpS_seq
  apply wpS_region
  simp [wpOpsS, go_sem, recoverD, hu, Tryz.ntmps37, Exit.thenS]
  simp only [List.replicate_succ, List.replicate_zero, Array.replicate_succ, Array.replicate_zero, List.push_toArray, List.append_toArray, List.nil_append, List.cons_append, Array.setIfInBounds, List.size_toArray]
  refine wpS_of_wp ?_
  go_wp2_with (go_at_call 38; refine IT.out.mono ?_; rintro e w1 ⟨rfl, hb⟩; have B := Lib.hid hb; have hc1 := (hb.cell (p := p) hlt).trans hc; have hz1 := (hb.frozen (p := p) hlt).trans hz; clear hb)
  have e : (⟨#[101, 114, 114, 111, 114, 32]⟩ ++ D : ByteArray) = ⟨(erT k).toArray⟩ := by
    rw [HDD.out]
    apply ByteArray.ext
    simp [ByteArray.data_append, erT]
  rw [e]
  cases c₀
  simp [bodyPostS, results, Tryz.results37]
  exact ⟨w1, B.out, rfl⟩

theorem line_ret (A : Nat) (l : List (List UInt8)) (o : List UInt8) (w : World) (hc : Calls Tryz.prog 39 #[.slice (some ⟨A, 0, none⟩) l.length l.length] (w.alloc (.cells #[.string ⟨#[]⟩] 9)) (RetT (w.alloc (.cells #[.string ⟨#[]⟩] 9)) o)) :
    Calls Tryz.prog 26 #[.slice (some ⟨A, 0, none⟩) l.length l.length] w (RetT w o) := by
  have hmf : ∀ (fn : Fn) (first cap : Array Value) (w : World), (Instr.makeFunc fn first cap).run Tryz.prog w = .ok (.func fn first cap) w := fun _ _ _ _ => rfl
  have CM := Lib.hid hc
  unfold RetT at CM ⊢
  have h0 : (w.alloc (.cells #[.string ⟨#[]⟩] 9)).cell? ⟨w.heap.size, 0, none⟩ = some (.string ⟨#[]⟩) := by simp
  have f0 : (w.alloc (.cells #[.string ⟨#[]⟩] 9)).frozen? ⟨w.heap.size, 0, none⟩ = false := by simp
  have H0 := Lib.hid (And.intro h0 f0)
  clear hc h0 f0
  go_enter_defers Tryz.func26, Tryz.ntmps26
  go_wp2_with (go_at_call 39; refine CM.out.mono ?_; rintro e w1 ⟨rfl, hb⟩; have B := Lib.hid hb; have hc1 := (hb.cell (p := ⟨w.heap.size, 0, none⟩) (by simp)).trans H0.out.1; have hz1 := (hb.frozen (p := ⟨w.heap.size, 0, none⟩) (by simp)).trans H0.out.2; clear hb)
  refine leaves_cons (f := 37) (args := #[.pointer (some ⟨w.heap.size, 0, none⟩)]) (by simp) (by simp [go_sem]) ?_
  refine (lcatch_idle ⟨w.heap.size, 0, none⟩ _).mono ?_
  rintro e u' w'' ⟨rfl, rfl, rfl⟩
  have hcs : (w1.setCell ⟨w.heap.size, 0, none⟩ (.string ⟨o.toArray⟩)).cell? ⟨w.heap.size, 0, none⟩ = some (.string ⟨o.toArray⟩) := World.cell?_setCell_same _ _ _ hc1
  simp [Leaves, settle, results, Tryz.results26, go_sem, hcs]
  exact (((Below.refl w.heap.size w).alloc (Nat.le_refl _) _).trans (B.out.mono (by simp))).setCell (Nat.le_refl _) _
theorem line_pan (A : Nat) (l : List (List UInt8)) (k : Nat) (hk : k < 1000000000) (w : World) (hT10 : Tab10 w) (hc : Calls Tryz.prog 39 #[.slice (some ⟨A, 0, none⟩) l.length l.length] (w.alloc (.cells #[.string ⟨#[]⟩] 9)) (fun e w' => e = .panicked [{ v := .iface 66 (.int .i64 (k : Int)), recovered := false }] ∧ Below (w.alloc (.cells #[.string ⟨#[]⟩] 9)).heap.size (w.alloc (.cells #[.string ⟨#[]⟩] 9)) w')) :
    Calls Tryz.prog 26 #[.slice (some ⟨A, 0, none⟩) l.length l.length] w (RetT w (erT k)) := by
  have hmf : ∀ (fn : Fn) (first cap : Array Value) (w : World), (Instr.makeFunc fn first cap).run Tryz.prog w = .ok (.func fn first cap) w := fun _ _ _ _ => rfl
  have CM := Lib.hid hc
  unfold RetT
  have h0 : (w.alloc (.cells #[.string ⟨#[]⟩] 9)).cell? ⟨w.heap.size, 0, none⟩ = some (.string ⟨#[]⟩) := by simp
  have f0 : (w.alloc (.cells #[.string ⟨#[]⟩] 9)).frozen? ⟨w.heap.size, 0, none⟩ = false := by simp
  have H0 := Lib.hid (And.intro h0 f0)
  clear hc h0 f0
  go_enter_defers Tryz.func26, Tryz.ntmps26
  go_wp2_with (go_at_call 39; refine CM.out.mono ?_; rintro e w1 ⟨rfl, hb⟩; have B := Lib.hid hb; have hc1 := (hb.cell (p := ⟨w.heap.size, 0, none⟩) (by simp)).trans H0.out.1; have hz1 := (hb.frozen (p := ⟨w.heap.size, 0, none⟩) (by simp)).trans H0.out.2; clear hb)
  refine leaves_cons (f := 37) (args := #[.pointer (some ⟨w.heap.size, 0, none⟩)]) (by simp) (by simp [go_sem]) ?_
  refine (lcatch_pan ⟨w.heap.size, 0, none⟩ ⟨#[]⟩ k hk [] _ hc1 hz1 (hT10.below ((((Below.refl w.heap.size w).alloc (Nat.le_refl _) _)).trans (B.out.mono (by simp))))).mono ?_
  rintro e u' w'' ⟨rfl, rfl, w2, hb2, rfl⟩
  have hcs : (w2.setCell ⟨w.heap.size, 0, none⟩ (.string ⟨(erT k).toArray⟩)).cell? ⟨w.heap.size, 0, none⟩ = some (.string ⟨(erT k).toArray⟩) := World.cell?_setCell_same _ _ _ ((hb2.cell (p := ⟨w.heap.size, 0, none⟩) (World.block_lt_of_cell? _ _ hc1)).trans hc1)
  simp [Leaves, settle, results, Tryz.results26, go_sem, hcs]
  have hb1 := ((Below.refl w.heap.size w).alloc (Nat.le_refl _) (.cells #[.string ⟨#[]⟩] 9)).trans (B.out.mono (by simp))
  exact (hb1.trans (hb2.mono hb1.size)).setCell (Nat.le_refl _) _
end Go.Proofs.YthibhlimogcpeaaGreatDoor
