/-
  THE WALKS of math/bits.Len64, Len at numbers below 2^32.
-/
import Derived.Test.YtmpdbmaokbhcjaaDoorChecked
import Derived.WalkKit
import Derived.WalkLawsBesides
import Derived.WalkSpells
import Derived.Handy
import Derived.Lib.Hide
import Derived.Shelf.Small.Bits
set_option linter.unusedVariables false
set_option linter.unusedSimpArgs false
namespace Go.Proofs.YtmpdbmaokbhcjaaDoor
open Go.RowKit

theorem klen8_at (i : Nat) (h : i < Lib.len8tab.size) : (Lib.len8tab[i].toNat : Int) = (Lib.bitLen i : Int) ∧ Lib.bitLen i ≤ 8 := by
  rw [Lib.len8tab_size] at h
  have h1 := Lib.len8_of (i : Int) (by omega) (by omega)
  have h2 := Lib.bitLen_le8' (i : Int) (by omega) (by omega)
  rw [Int.toNat_natCast] at h1 h2
  refine ⟨?_, h2⟩
  rw [← h1]
  unfold Lib.len8
  rw [Int.toNat_natCast, getElem?_pos Lib.len8tab i (by rw [Lib.len8tab_size]; exact h)]
  rfl
set_option maxHeartbeats 4000000 in
set_option maxRecDepth 100000 in
theorem len64_any (x : Int) (h0 : 0 ≤ x) (h1 : x ≤ 16777215) (w : World) :
    Calls Tryd.prog 148 #[.int .u64 x] w fun e w' => e = .returned (.int .i64 (Lib.bitLen x.toNat)) ∧ w' = w := by
  have hsz : 256 ≤ Lib.len8tab.size := by decide
  go_enter Tryd.func148, Tryd.ntmps148
  go_wp2
  all_goals (go_ret; refine ⟨congrArg Ending.returned (congrArg (Value.int IntKind.i64) ?_), rfl⟩)
  · obtain ⟨e1, e2⟩ := klen8_at (x / 65536).toNat (by omega)
    have e : (x / 65536).toNat = x.toNat / 65536 := by omega
    have s := Lib.bitLen_shift16 x.toNat (by omega) (by omega)
    simp only [e1]
    rw [e] at e2 ⊢
    rw [IntWalk.wrap64_in (Lib.bitLen (x.toNat / 65536) : Int) (by omega), IntWalk.wrap64_in _ (by omega)]
    omega
  · obtain ⟨e1, e2⟩ := klen8_at (x / 256).toNat (by omega)
    have e : (x / 256).toNat = x.toNat / 256 := by omega
    have s := Lib.bitLen_shift8 x.toNat (by omega) (by omega)
    simp only [e1]
    rw [e] at e2 ⊢
    rw [IntWalk.wrap64_in (Lib.bitLen (x.toNat / 256) : Int) (by omega), IntWalk.wrap64_in _ (by omega)]
    omega
  · obtain ⟨e1, e2⟩ := klen8_at x.toNat (by omega)
    simp only [e1]
    rw [IntWalk.wrap64_in (Lib.bitLen x.toNat : Int) (by omega), IntWalk.wrap64_in _ (by omega)]
theorem len_any (x : Int) (h0 : 0 ≤ x) (h1 : x ≤ 16777215) (w : World) :
    Calls Tryd.prog 127 #[.int .u64 x] w fun e w' => e = .returned (.int .i64 (Lib.bitLen x.toNat)) ∧ w' = w := by
  go_enter Tryd.func127, Tryd.ntmps127
  go_wp2_with (go_at_call 148; refine (len64_any x h0 h1 _).mono ?_; rintro e w' ⟨rfl, rfl⟩)
  go_ret
  exact ⟨rfl, rfl⟩
end Go.Proofs.YtmpdbmaokbhcjaaDoor
