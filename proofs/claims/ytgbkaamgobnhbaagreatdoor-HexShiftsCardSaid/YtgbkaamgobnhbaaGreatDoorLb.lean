/-
  THE WALKS of strings.Cut at a text of one byte; strings.Contains at one byte.
-/
import Derived.Test.YtgbkaamgobnhbaaGreatDoorDo
import Derived.Shelf.Strings.Search3
import Derived.Shelf.Lay
import Derived.BigQuiet
import Derived.Deep.QuietTactic
set_option linter.unusedVariables false
set_option linter.unusedSimpArgs false
namespace Go.Proofs.YtgbkaamgobnhbaaGreatDoor
open Go.Shelf Go.RowKit Go.Lib

shelf_lay Lays.n219 Nm 219 at Tryz as Tryz.laysIndexL
theorem fIndexL : Tryz.laysIndexL_ren.f 219 = 83 := by kernel_rfl
theorem indexL_any (s : ByteArray) (c : UInt8) (w : World) :
    Calls Tryz.prog 83 #[.string s, .string ⟨#[c]⟩] w fun e w' => e = .returned (.int .i64 (Lib.indexByte s.data.toList c)) ∧ w' = w := by
  have h := Any.stringslite_Index_one Tryz.laysIndexL s c w
  rw [fIndexL] at h
  exact h
theorem ba_left (a b : List UInt8) (k : Nat) (hk : k = a.length) : (⟨(a ++ b).toArray⟩ : ByteArray).extract 0 k = ⟨a.toArray⟩ := by
  subst hk
  apply ByteArray.ext
  simp [ByteArray.data_extract]
theorem ba_right (a b : List UInt8) (k n : Nat) (hk : k = a.length) (hn : n = (a ++ b).length) : (⟨(a ++ b).toArray⟩ : ByteArray).extract k n = ⟨b.toArray⟩ := by
  subst hk hn
  apply ByteArray.ext
  simp [ByteArray.data_extract]
set_option maxHeartbeats 2000000 in
theorem cutL_hit (a b : List UInt8) (c : UInt8) (hc : c ∉ a) (S : ByteArray) (hS : S = ⟨(a ++ c :: b).toArray⟩) (w : World) (hl : S.size ≤ 1000000000) :
    Calls Tryz.prog 44 #[.string S, .string ⟨#[c]⟩] w fun e w' => e = .returned (.tuple #[.string ⟨a.toArray⟩, .string ⟨b.toArray⟩, .bool true]) ∧ ∃ n, w' = w.drewN n := by
  have IX := Lib.hid (fun w' => indexL_any S c w')
  have e : Lib.indexByte S.data.toList c = (a.length : Int) := by rw [hS]; exact ib_hit a b hc
  rw [e] at IX
  obtain ⟨k, hk⟩ : ∃ k, k = a.length := ⟨_, rfl⟩
  have hz : S.size = (a ++ c :: b).length := by rw [hS]; rfl
  have ea : S.extract 0 k = ⟨a.toArray⟩ := by rw [hS]; exact ba_left a (c :: b) k hk
  have eb : S.extract (k + 1) S.size = ⟨b.toArray⟩ := by
    rw [hz, hS, show a ++ c :: b = (a ++ [c]) ++ b by simp]
    exact ba_right (a ++ [c]) b (k + 1) _ (by simp; omega) rfl
  obtain ⟨n, hn⟩ : ∃ n, n = S.size := ⟨_, rfl⟩
  have hkn : (k : Int) + 1 ≤ (n : Int) := by rw [hn, hz]; simp; omega
  have hns : S.size = n := hn.symm
  rw [← hk] at IX
  rw [hns] at eb hl
  have HA := Lib.hid ea
  have HB := Lib.hid eb
  rw [← HA.out, ← HB.out]
  have hkw : IntKind.i64.wrap ((k : Int) + 1) = (k : Int) + 1 := IntWalk.i64_in _ (by omega)
  clear e hS hz ea eb hk hn
  go_enter Tryz.func44, Tryz.ntmps44
  go_wp2_with (go_at_call 83; refine (IX.out _).mono ?_; rintro e w1 ⟨rfl, rfl⟩)
  go_quiet (fail)
  go_wp2
  go_ret3
  exact ⟨rfl, _, rfl⟩
set_option maxHeartbeats 2000000 in
theorem cutL_miss (a : List UInt8) (c : UInt8) (hc : c ∉ a) (S : ByteArray) (hS : S = ⟨a.toArray⟩) (w : World) :
    Calls Tryz.prog 44 #[.string S, .string ⟨#[c]⟩] w fun e w' => e = .returned (.tuple #[.string S, .string ⟨#[]⟩, .bool false]) ∧ ∃ n, w' = w.drewN n := by
  have IX := Lib.hid (fun w' => indexL_any S c w')
  have e : Lib.indexByte S.data.toList c = -1 := by rw [hS]; exact ib_miss a hc
  rw [e] at IX
  clear e hS
  go_enter Tryz.func44, Tryz.ntmps44
  go_wp2_with (go_at_call 83; refine (IX.out _).mono ?_; rintro e w1 ⟨rfl, rfl⟩)
  go_ret3
  exact ⟨rfl, 0, rfl⟩
theorem cut_hit_any (a b : List UInt8) (c : UInt8) (hc : c ∉ a) (S : ByteArray) (hS : S = ⟨(a ++ c :: b).toArray⟩) (w : World) (hl : S.size ≤ 1000000000) :
    Calls Tryz.prog 18 #[.string S, .string ⟨#[c]⟩] w fun e w' => e = .returned (.tuple #[.string ⟨a.toArray⟩, .string ⟨b.toArray⟩, .bool true]) ∧ ∃ n, w' = w.drewN n := by
  have IX := Lib.hid (fun w' => cutL_hit a b c hc S hS w' hl)
  clear hc hS hl
  go_enter Tryz.func18, Tryz.ntmps18
  go_wp2_with (go_at_call 44; refine (IX.out _).mono ?_; rintro e w1 ⟨rfl, n, rfl⟩)
  go_ret3
  exact ⟨rfl, _, rfl⟩
theorem cut_miss_any (a : List UInt8) (c : UInt8) (hc : c ∉ a) (S : ByteArray) (hS : S = ⟨a.toArray⟩) (w : World) :
    Calls Tryz.prog 18 #[.string S, .string ⟨#[c]⟩] w fun e w' => e = .returned (.tuple #[.string S, .string ⟨#[]⟩, .bool false]) ∧ ∃ n, w' = w.drewN n := by
  have IX := Lib.hid (fun w' => cutL_miss a c hc S hS w')
  clear hc hS
  go_enter Tryz.func18, Tryz.ntmps18
  go_wp2_with (go_at_call 44; refine (IX.out _).mono ?_; rintro e w1 ⟨rfl, n, rfl⟩)
  go_ret3
  exact ⟨rfl, _, rfl⟩
end Go.Proofs.YtgbkaamgobnhbaaGreatDoor
