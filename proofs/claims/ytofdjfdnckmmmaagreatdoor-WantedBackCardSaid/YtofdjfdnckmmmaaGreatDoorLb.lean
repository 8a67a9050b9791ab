/-
  THE WALKS of strings.Cut at a text of one byte; strings.Contains at one byte.
-/
import Derived.Test.YtofdjfdnckmmmaaGreatDoorDo
import Derived.Shelf.Strings.Search3
import Derived.Shelf.Lay
import Derived.BigQuiet
import Derived.Deep.QuietTactic
set_option linter.unusedVariables false
set_option linter.unusedSimpArgs false
namespace Go.Proofs.YtofdjfdnckmmmaaGreatDoor
open Go.Shelf Go.RowKit Go.Lib

def Tryz.laysIndexL_ren : Go.Shelf.Ren := ⟨fun | 219 => 75 | 217 => 77 | 225 => 123 | 224 => 124 | 267 => 125 | 266 => 126 | 314 => 171 | n => n, fun | 9 => 9 | 3 => 3 | 4 => 4 | 5 => 5 | 46 => 89 | 146 => 128 | 51 => 102 | n => n, fun | 1 => 0 | n => n⟩
theorem Tryz.laysIndexL : Go.Proofs.Lays.n219 Tryz.prog Tryz.laysIndexL_ren := {
  mixed := by kernel_rfl
  f217 := Tryz.func77.trans (congrArg some (by kernel_rfl))
  f219 := Tryz.func75.trans (congrArg some (by kernel_rfl))
  f224 := Tryz.func124.trans (congrArg some (by kernel_rfl))
  f225 := Tryz.func123.trans (congrArg some (by kernel_rfl))
  f266 := Tryz.func126.trans (congrArg some (by kernel_rfl))
  f267 := Tryz.func125.trans (congrArg some (by kernel_rfl))
  f314 := Tryz.func171.trans (congrArg some (by kernel_rfl))
  t3 := Tryz.underlying3
  a3 := Tryz.isAgg3
  z3 := Tryz.sizeOf3
  v3 := Tryz.zeroValue3
  t4 := Tryz.underlying4
  a4 := Tryz.isAgg4
  z4 := Tryz.sizeOf4
  v4 := Tryz.zeroValue4
  t5 := Tryz.underlying5
  a5 := Tryz.isAgg5
  z5 := Tryz.sizeOf5
  v5 := Tryz.zeroValue5
  t9 := Tryz.underlying9
  a9 := Tryz.isAgg9
  z9 := Tryz.sizeOf9
  v9 := Tryz.zeroValue9
  t46 := Tryz.underlying89
  a46 := Tryz.isAgg89
  z46 := Tryz.sizeOf89
  v46 := Tryz.zeroValue89
  t51 := Tryz.underlying102
  a51 := Tryz.isAgg102
  z51 := Tryz.sizeOf102
  v51 := Tryz.zeroValue102
  t146 := Tryz.underlying128
  a146 := Tryz.isAgg128
  z146 := Tryz.sizeOf128
  v146 := Tryz.zeroValue128
  g1 := by kernel_rfl }
theorem fIndexL : Tryz.laysIndexL_ren.f 219 = 75 := by kernel_rfl
theorem indexL_any (s : ByteArray) (c : UInt8) (w : World) :
    Calls Tryz.prog 75 #[.string s, .string ⟨#[c]⟩] w fun e w' => e = .returned (.int .i64 (Lib.indexByte s.data.toList c)) ∧ w' = w := by
  have h := Any.stringslite_Index_one Tryz.laysIndexL s c w
  rw [fIndexL] at h
  exact h
theorem ba_left (a b : List UInt8) (k : Nat) (hk : k = a.length) : (⟨(a ++ b).toArray⟩ : ByteArray).extract 0 k = ⟨a.toArray⟩ := by
  subst hk
  apply ByteArray.ext
  simp [ByteArray.data_extract]
theorem ba_right (a b : List UInt8) (k n : Nat) (hk : k = a.length) (hn : n = (a ++ b).length) : (⟨(a ++ b).toArray⟩ : ByteArray).extract k n = ⟨b.toArray⟩ := by
  subst hk hn
  apply ByteArray.ext
  simp [ByteArray.data_extract]
set_option maxHeartbeats 2000000 in
theorem cutL_hit (a b : List UInt8) (c : UInt8) (hc : c ∉ a) (S : ByteArray) (hS : S = ⟨(a ++ c :: b).toArray⟩) (w : World) (hl : S.size ≤ 1000000000) :
    Calls Tryz.prog 71 #[.string S, .string ⟨#[c]⟩] w fun e w' => e = .returned (.tuple #[.string ⟨a.toArray⟩, .string ⟨b.toArray⟩, .bool true]) ∧ ∃ n, w' = w.drewN n := by
  have IX := Lib.hid (fun w' => indexL_any S c w')
  have e : Lib.indexByte S.data.toList c = (a.length : Int) := by rw [hS]; exact ib_hit a b hc
  rw [e] at IX
  obtain ⟨k, hk⟩ : ∃ k, k = a.length := ⟨_, rfl⟩
  have hz : S.size = (a ++ c :: b).length := by rw [hS]; rfl
  have ea : S.extract 0 k = ⟨a.toArray⟩ := by rw [hS]; exact ba_left a (c :: b) k hk
  have eb : S.extract (k + 1) S.size = ⟨b.toArray⟩ := by
    rw [hz, hS, show a ++ c :: b = (a ++ [c]) ++ b by simp]
    exact ba_right (a ++ [c]) b (k + 1) _ (by simp; omega) rfl
  obtain ⟨n, hn⟩ : ∃ n, n = S.size := ⟨_, rfl⟩
  have hkn : (k : Int) + 1 ≤ (n : Int) := by rw [hn, hz]; simp; omega
  have hns : S.size = n := hn.symm
  rw [← hk] at IX
  rw [hns] at eb hl
  have HA := Lib.hid ea
  have HB := Lib.hid eb
  rw [← HA.out, ← HB.out]
  have hkw : IntKind.i64.wrap ((k : Int) + 1) = (k : Int) + 1 := IntWalk.i64_in _ (by omega)
  clear e hS hz ea eb hk hn
  go_enter Tryz.func71, Tryz.ntmps71
  go_wp2_with (go_at_call 75; refine (IX.out _).mono ?_; rintro e w1 ⟨rfl, rfl⟩)
  go_quiet (fail)
  go_wp2
  go_ret3
  exact ⟨rfl, _, rfl⟩
set_option maxHeartbeats 2000000 in
theorem cutL_miss (a : List UInt8) (c : UInt8) (hc : c ∉ a) (S : ByteArray) (hS : S = ⟨a.toArray⟩) (w : World) :
    Calls Tryz.prog 71 #[.string S, .string ⟨#[c]⟩] w fun e w' => e = .returned (.tuple #[.string S, .string ⟨#[]⟩, .bool false]) ∧ ∃ n, w' = w.drewN n := by
  have IX := Lib.hid (fun w' => indexL_any S c w')
  have e : Lib.indexByte S.data.toList c = -1 := by rw [hS]; exact ib_miss a hc
  rw [e] at IX
  clear e hS
  go_enter Tryz.func71, Tryz.ntmps71
  go_wp2_with (go_at_call 75; refine (IX.out _).mono ?_; rintro e w1 ⟨rfl, rfl⟩)
  go_ret3
  exact ⟨rfl, 0, rfl⟩
theorem cut_hit_any (a b : List UInt8) (c : UInt8) (hc : c ∉ a) (S : ByteArray) (hS : S = ⟨(a ++ c :: b).toArray⟩) (w : World) (hl : S.size ≤ 1000000000) :
    Calls Tryz.prog 37 #[.string S, .string ⟨#[c]⟩] w fun e w' => e = .returned (.tuple #[.string ⟨a.toArray⟩, .string ⟨b.toArray⟩, .bool true]) ∧ ∃ n, w' = w.drewN n := by
  have IX := Lib.hid (fun w' => cutL_hit a b c hc S hS w' hl)
  clear hc hS hl
  go_enter Tryz.func37, Tryz.ntmps37
  go_wp2_with (go_at_call 71; refine (IX.out _).mono ?_; rintro e w1 ⟨rfl, n, rfl⟩)
  go_ret3
  exact ⟨rfl, _, rfl⟩
theorem cut_miss_any (a : List UInt8) (c : UInt8) (hc : c ∉ a) (S : ByteArray) (hS : S = ⟨a.toArray⟩) (w : World) :
    Calls Tryz.prog 37 #[.string S, .string ⟨#[c]⟩] w fun e w' => e = .returned (.tuple #[.string S, .string ⟨#[]⟩, .bool false]) ∧ ∃ n, w' = w.drewN n := by
  have IX := Lib.hid (fun w' => cutL_miss a c hc S hS w')
  clear hc hS
  go_enter Tryz.func37, Tryz.ntmps37
  go_wp2_with (go_at_call 71; refine (IX.out _).mono ?_; rintro e w1 ⟨rfl, n, rfl⟩)
  go_ret3
  exact ⟨rfl, _, rfl⟩
def Tryz.laysContains_ren : Go.Shelf.Ren := ⟨fun | 144 => 53 | 143 => 43 | 219 => 75 | 217 => 77 | 225 => 123 | 224 => 124 | 267 => 125 | 266 => 126 | 314 => 171 | n => n, fun | 9 => 9 | 4 => 4 | 3 => 3 | 5 => 5 | 46 => 89 | 146 => 128 | 51 => 102 | n => n, fun | 1 => 0 | n => n⟩
theorem Tryz.laysContains : Go.Proofs.Lays.n144 Tryz.prog Tryz.laysContains_ren := {
  mixed := by kernel_rfl
  f143 := Tryz.func43.trans (congrArg some (by kernel_rfl))
  f144 := Tryz.func53.trans (congrArg some (by kernel_rfl))
  f217 := Tryz.func77.trans (congrArg some (by kernel_rfl))
  f219 := Tryz.func75.trans (congrArg some (by kernel_rfl))
  f224 := Tryz.func124.trans (congrArg some (by kernel_rfl))
  f225 := Tryz.func123.trans (congrArg some (by kernel_rfl))
  f266 := Tryz.func126.trans (congrArg some (by kernel_rfl))
  f267 := Tryz.func125.trans (congrArg some (by kernel_rfl))
  f314 := Tryz.func171.trans (congrArg some (by kernel_rfl))
  t3 := Tryz.underlying3
  a3 := Tryz.isAgg3
  z3 := Tryz.sizeOf3
  v3 := Tryz.zeroValue3
  t4 := Tryz.underlying4
  a4 := Tryz.isAgg4
  z4 := Tryz.sizeOf4
  v4 := Tryz.zeroValue4
  t5 := Tryz.underlying5
  a5 := Tryz.isAgg5
  z5 := Tryz.sizeOf5
  v5 := Tryz.zeroValue5
  t9 := Tryz.underlying9
  a9 := Tryz.isAgg9
  z9 := Tryz.sizeOf9
  v9 := Tryz.zeroValue9
  t46 := Tryz.underlying89
  a46 := Tryz.isAgg89
  z46 := Tryz.sizeOf89
  v46 := Tryz.zeroValue89
  t51 := Tryz.underlying102
  a51 := Tryz.isAgg102
  z51 := Tryz.sizeOf102
  v51 := Tryz.zeroValue102
  t146 := Tryz.underlying128
  a146 := Tryz.isAgg128
  z146 := Tryz.sizeOf128
  v146 := Tryz.zeroValue128
  g1 := by kernel_rfl }
theorem fContains : Tryz.laysContains_ren.f 144 = 53 := by kernel_rfl
theorem contains_any (s : ByteArray) (c : UInt8) (w : World) :
    Calls Tryz.prog 53 #[.string s, .string ⟨#[c]⟩] w fun e w' => e = .returned (.bool (decide (0 ≤ Lib.indexByte s.data.toList c))) ∧ w' = w := by
  have h := Any.strings_Contains_one Tryz.laysContains s c w
  rw [fContains] at h
  exact h
end Go.Proofs.YtofdjfdnckmmmaaGreatDoor
