/-
  THE WALKS of strings.Cut at a text of one byte; strings.Contains at one byte.
-/
import Derived.Test.YthlocmhfjandlaaDoorDo
import Derived.Shelf.Strings.Search3
import Derived.Shelf.Lay
import Derived.BigQuiet
import Derived.Deep.QuietTactic
set_option linter.unusedVariables false
set_option linter.unusedSimpArgs false
namespace Go.Proofs.YthlocmhfjandlaaDoor
open Go.Shelf Go.RowKit Go.Lib

def Tryd.laysIndexL_ren : Go.Shelf.Ren := ⟨fun | 219 => 105 | 217 => 129 | 225 => 130 | 224 => 131 | 267 => 132 | 266 => 144 | 314 => 145 | n => n, fun | 9 => 9 | 3 => 3 | 4 => 4 | 5 => 5 | 46 => 87 | 146 => 142 | 51 => 28 | n => n, fun | 1 => 0 | n => n⟩
theorem Tryd.laysIndexL : Go.Proofs.Lays.n219 Tryd.prog Tryd.laysIndexL_ren := {
  mixed := by kernel_rfl
  f217 := Tryd.func129.trans (congrArg some (by kernel_rfl))
  f219 := Tryd.func105.trans (congrArg some (by kernel_rfl))
  f224 := Tryd.func131.trans (congrArg some (by kernel_rfl))
  f225 := Tryd.func130.trans (congrArg some (by kernel_rfl))
  f266 := Tryd.func144.trans (congrArg some (by kernel_rfl))
  f267 := Tryd.func132.trans (congrArg some (by kernel_rfl))
  f314 := Tryd.func145.trans (congrArg some (by kernel_rfl))
  t3 := Tryd.underlying3
  a3 := Tryd.isAgg3
  z3 := Tryd.sizeOf3
  v3 := Tryd.zeroValue3
  t4 := Tryd.underlying4
  a4 := Tryd.isAgg4
  z4 := Tryd.sizeOf4
  v4 := Tryd.zeroValue4
  t5 := Tryd.underlying5
  a5 := Tryd.isAgg5
  z5 := Tryd.sizeOf5
  v5 := Tryd.zeroValue5
  t9 := Tryd.underlying9
  a9 := Tryd.isAgg9
  z9 := Tryd.sizeOf9
  v9 := Tryd.zeroValue9
  t46 := Tryd.underlying87
  a46 := Tryd.isAgg87
  z46 := Tryd.sizeOf87
  v46 := Tryd.zeroValue87
  t51 := Tryd.underlying28
  a51 := Tryd.isAgg28
  z51 := Tryd.sizeOf28
  v51 := Tryd.zeroValue28
  t146 := Tryd.underlying142
  a146 := Tryd.isAgg142
  z146 := Tryd.sizeOf142
  v146 := Tryd.zeroValue142
  g1 := by kernel_rfl }
theorem fIndexL : Tryd.laysIndexL_ren.f 219 = 105 := by kernel_rfl
theorem indexL_any (s : ByteArray) (c : UInt8) (w : World) :
    Calls Tryd.prog 105 #[.string s, .string ⟨#[c]⟩] w fun e w' => e = .returned (.int .i64 (Lib.indexByte s.data.toList c)) ∧ w' = w := by
  have h := Any.stringslite_Index_one Tryd.laysIndexL s c w
  rw [fIndexL] at h
  exact h
theorem ba_left (a b : List UInt8) (k : Nat) (hk : k = a.length) : (⟨(a ++ b).toArray⟩ : ByteArray).extract 0 k = ⟨a.toArray⟩ := by
  subst hk
  apply ByteArray.ext
  simp [ByteArray.data_extract]
theorem ba_right (a b : List UInt8) (k n : Nat) (hk : k = a.length) (hn : n = (a ++ b).length) : (⟨(a ++ b).toArray⟩ : ByteArray).extract k n = ⟨b.toArray⟩ := by
  subst hk hn
  apply ByteArray.ext
  simp [ByteArray.data_extract]
set_option maxHeartbeats 2000000 in
theorem cutL_hit (a b : List UInt8) (c : UInt8) (hc : c ∉ a) (S : ByteArray) (hS : S = ⟨(a ++ c :: b).toArray⟩) (w : World) (hl : S.size ≤ 1000000000) :
    Calls Tryd.prog 62 #[.string S, .string ⟨#[c]⟩] w fun e w' => e = .returned (.tuple #[.string ⟨a.toArray⟩, .string ⟨b.toArray⟩, .bool true]) ∧ ∃ n, w' = w.drewN n := by
  have IX := Lib.hid (fun w' => indexL_any S c w')
  have e : Lib.indexByte S.data.toList c = (a.length : Int) := by rw [hS]; exact ib_hit a b hc
  rw [e] at IX
  obtain ⟨k, hk⟩ : ∃ k, k = a.length := ⟨_, rfl⟩
  have hz : S.size = (a ++ c :: b).length := by rw [hS]; rfl
  have ea : S.extract 0 k = ⟨a.toArray⟩ := by rw [hS]; exact ba_left a (c :: b) k hk
  have eb : S.extract (k + 1) S.size = ⟨b.toArray⟩ := by
    rw [hz, hS, show a ++ c :: b = (a ++ [c]) ++ b by simp]
    exact ba_right (a ++ [c]) b (k + 1) _ (by simp; omega) rfl
  obtain ⟨n, hn⟩ : ∃ n, n = S.size := ⟨_, rfl⟩
  have hkn : (k : Int) + 1 ≤ (n : Int) := by rw [hn, hz]; simp; omega
  have hns : S.size = n := hn.symm
  rw [← hk] at IX
  rw [hns] at eb hl
  have HA := Lib.hid ea
  have HB := Lib.hid eb
  rw [← HA.out, ← HB.out]
  have hkw : IntKind.i64.wrap ((k : Int) + 1) = (k : Int) + 1 := IntWalk.i64_in _ (by omega)
  clear e hS hz ea eb hk hn
  go_enter Tryd.func62, Tryd.ntmps62
  go_wp2_with (go_at_call 105; refine (IX.out _).mono ?_; rintro e w1 ⟨rfl, rfl⟩)
  go_quiet (fail)
  go_wp2
  go_ret3
  exact ⟨rfl, _, rfl⟩
set_option maxHeartbeats 2000000 in
theorem cutL_miss (a : List UInt8) (c : UInt8) (hc : c ∉ a) (S : ByteArray) (hS : S = ⟨a.toArray⟩) (w : World) :
    Calls Tryd.prog 62 #[.string S, .string ⟨#[c]⟩] w fun e w' => e = .returned (.tuple #[.string S, .string ⟨#[]⟩, .bool false]) ∧ ∃ n, w' = w.drewN n := by
  have IX := Lib.hid (fun w' => indexL_any S c w')
  have e : Lib.indexByte S.data.toList c = -1 := by rw [hS]; exact ib_miss a hc
  rw [e] at IX
  clear e hS
  go_enter Tryd.func62, Tryd.ntmps62
  go_wp2_with (go_at_call 105; refine (IX.out _).mono ?_; rintro e w1 ⟨rfl, rfl⟩)
  go_ret3
  exact ⟨rfl, 0, rfl⟩
theorem cut_hit_any (a b : List UInt8) (c : UInt8) (hc : c ∉ a) (S : ByteArray) (hS : S = ⟨(a ++ c :: b).toArray⟩) (w : World) (hl : S.size ≤ 1000000000) :
    Calls Tryd.prog 29 #[.string S, .string ⟨#[c]⟩] w fun e w' => e = .returned (.tuple #[.string ⟨a.toArray⟩, .string ⟨b.toArray⟩, .bool true]) ∧ ∃ n, w' = w.drewN n := by
  have IX := Lib.hid (fun w' => cutL_hit a b c hc S hS w' hl)
  clear hc hS hl
  go_enter Tryd.func29, Tryd.ntmps29
  go_wp2_with (go_at_call 62; refine (IX.out _).mono ?_; rintro e w1 ⟨rfl, n, rfl⟩)
  go_ret3
  exact ⟨rfl, _, rfl⟩
theorem cut_miss_any (a : List UInt8) (c : UInt8) (hc : c ∉ a) (S : ByteArray) (hS : S = ⟨a.toArray⟩) (w : World) :
    Calls Tryd.prog 29 #[.string S, .string ⟨#[c]⟩] w fun e w' => e = .returned (.tuple #[.string S, .string ⟨#[]⟩, .bool false]) ∧ ∃ n, w' = w.drewN n := by
  have IX := Lib.hid (fun w' => cutL_miss a c hc S hS w')
  clear hc hS
  go_enter Tryd.func29, Tryd.ntmps29
  go_wp2_with (go_at_call 62; refine (IX.out _).mono ?_; rintro e w1 ⟨rfl, n, rfl⟩)
  go_ret3
  exact ⟨rfl, _, rfl⟩
def Tryd.laysContains_ren : Go.Shelf.Ren := ⟨fun | 144 => 30 | 143 => 63 | 219 => 105 | 217 => 129 | 225 => 130 | 224 => 131 | 267 => 132 | 266 => 144 | 314 => 145 | n => n, fun | 9 => 9 | 4 => 4 | 3 => 3 | 5 => 5 | 46 => 87 | 146 => 142 | 51 => 28 | n => n, fun | 1 => 0 | n => n⟩
theorem Tryd.laysContains : Go.Proofs.Lays.n144 Tryd.prog Tryd.laysContains_ren := {
  mixed := by kernel_rfl
  f143 := Tryd.func63.trans (congrArg some (by kernel_rfl))
  f144 := Tryd.func30.trans (congrArg some (by kernel_rfl))
  f217 := Tryd.func129.trans (congrArg some (by kernel_rfl))
  f219 := Tryd.func105.trans (congrArg some (by kernel_rfl))
  f224 := Tryd.func131.trans (congrArg some (by kernel_rfl))
  f225 := Tryd.func130.trans (congrArg some (by kernel_rfl))
  f266 := Tryd.func144.trans (congrArg some (by kernel_rfl))
  f267 := Tryd.func132.trans (congrArg some (by kernel_rfl))
  f314 := Tryd.func145.trans (congrArg some (by kernel_rfl))
  t3 := Tryd.underlying3
  a3 := Tryd.isAgg3
  z3 := Tryd.sizeOf3
  v3 := Tryd.zeroValue3
  t4 := Tryd.underlying4
  a4 := Tryd.isAgg4
  z4 := Tryd.sizeOf4
  v4 := Tryd.zeroValue4
  t5 := Tryd.underlying5
  a5 := Tryd.isAgg5
  z5 := Tryd.sizeOf5
  v5 := Tryd.zeroValue5
  t9 := Tryd.underlying9
  a9 := Tryd.isAgg9
  z9 := Tryd.sizeOf9
  v9 := Tryd.zeroValue9
  t46 := Tryd.underlying87
  a46 := Tryd.isAgg87
  z46 := Tryd.sizeOf87
  v46 := Tryd.zeroValue87
  t51 := Tryd.underlying28
  a51 := Tryd.isAgg28
  z51 := Tryd.sizeOf28
  v51 := Tryd.zeroValue28
  t146 := Tryd.underlying142
  a146 := Tryd.isAgg142
  z146 := Tryd.sizeOf142
  v146 := Tryd.zeroValue142
  g1 := by kernel_rfl }
theorem fContains : Tryd.laysContains_ren.f 144 = 30 := by kernel_rfl
theorem contains_any (s : ByteArray) (c : UInt8) (w : World) :
    Calls Tryd.prog 30 #[.string s, .string ⟨#[c]⟩] w fun e w' => e = .returned (.bool (decide (0 ≤ Lib.indexByte s.data.toList c))) ∧ w' = w := by
  have h := Any.strings_Contains_one Tryd.laysContains s c w
  rw [fContains] at h
  exact h
end Go.Proofs.YthlocmhfjandlaaDoor
