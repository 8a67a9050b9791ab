/-
  SOME OF MY TEXTS in one: Sa. Each says what it proves.
-/
import Derived.Test.YthibhlimogcpeaaGreatDoorBm
import Derived.Test.YthibhlimogcpeaaGreatDoorBa
import Derived.Test.YthibhlimogcpeaaGreatDoorBe
set_option linter.unusedVariables false
set_option linter.unusedSimpArgs false
/-
  THE WALKS of sum.Add, sum.Sub, sumLives.
-/
namespace Go.Proofs.YthibhlimogcpeaaGreatDoor
open Go.RowKit Nt Fm Fl

def adE (mode : Int) : Int := if knownB mode then 0 else 1
def adV (x y mode : Int) : Int := if knownB mode then allV [x, y] mode else 0
def adC (x y mode : Int) : Bool := if knownB mode then allC [x, y] else false
theorem two_lu (w : World) (x y : Int) (T : TypeId) (x0 : 0 ≤ x) (x1 : x ≤ 18446744073709551615) (y0 : 0 ≤ y) (y1 : y ≤ 18446744073709551615) : LU (w.alloc (.cells #[.int .u64 x, .int .u64 y] T)) (.slice (some ⟨w.heap.size, 0, none⟩) 2 2) [x, y] := by
  refine ⟨?_, some ⟨w.heap.size, 0, none⟩, 2, rfl, Nat.le_refl 2, by unfold maxLen; omega, Or.inr ⟨w.heap.size, 0, rfl, by simp, ?_⟩⟩
  · intro d hd
    simp at hd
    rcases hd with rfl | rfl
    · exact ⟨x0, x1⟩
    · exact ⟨y0, y1⟩
  · intro i hi
    match i, hi with
    | 0, _ => simp [go_sem]
    | 1, _ => simp [go_sem]

set_option maxHeartbeats 2000000 in
theorem sadd_any (x y mode : Int) (x0 : 0 ≤ x) (x1 : x ≤ 18446744073709551615) (y0 : 0 ≤ y) (y1 : y ≤ 18446744073709551615) (w : World) (hT : Tab w) :
    Calls Tryz.prog 66 #[.int .u64 x, .int .u64 y, .int .i64 mode] w fun e w' => e = .returned (.tuple #[.int .u64 (adV x y mode), .bool (adC x y mode), .int .i64 (adE mode)]) ∧ Below w.heap.size w w' := by
  cases hk : knownB mode
  · have e1 : adV x y mode = 0 := by unfold adV; rw [hk]; rfl
    have e2 : adC x y mode = false := by unfold adC; rw [hk]; rfl
    have e3 : adE mode = 1 := by unfold adE; rw [hk]; rfl
    rw [e1, e2, e3]; clear e1 e2 e3 hT
    go_enter Tryz.func66, Tryz.ntmps66
    go_wp2_with (go_at_call 89; refine (known_any _ _).mono ?_; rintro e w' ⟨rfl, rfl⟩)
    go_ret3
    exact ⟨rfl, Below.refl _ _⟩
  · have e1 : adV x y mode = allV [x, y] mode := by unfold adV; rw [hk]; rfl
    have e2 : adC x y mode = allC [x, y] := by unfold adC; rw [hk]; rfl
    have e3 : adE mode = 0 := by unfold adE; rw [hk]; rfl
    have hm : 0 ≤ mode ∧ mode ≤ 4 := by unfold knownB at hk; simpa using hk
    rw [e1, e2, e3]
    have hall := fun v w' h0 h1 => all_any v [x, y] mode w' h0 h1 (by simp) hm.1 hm.2
    have hlu := fun w T => two_lu w x y T x0 x1 y0 y1
    generalize allV [x, y] mode = V at *
    generalize allC [x, y] = C at *
    have HALL := Lib.hid hall
    have HLU := Lib.hid hlu
    have HT := Lib.hid hT
    clear e1 e2 e3 hT hall hlu hm
    go_enter Tryz.func66, Tryz.ntmps66
    go_wp2_with (go_at_call 89; refine (known_any _ _).mono ?_; rintro e w' ⟨rfl, rfl⟩)
    refine (HALL.out _ _ (HT.out.alloc _) (HLU.out _ _)).mono ?_
    rintro r w1 ⟨rfl, hb⟩
    have B1 := Lib.hid (bl_thru ((Below.refl w.heap.size w).alloc (Nat.le_refl _) _) (Nat.le_refl _) hb)
    clear hb
    go_wp2
    go_ret3
    exact ⟨rfl, B1.out⟩
theorem fneg_in {x : Int} (x0 : 0 ≤ x) (x1 : x ≤ 18446744073709551615) : 0 ≤ fneg x ∧ fneg x ≤ 18446744073709551615 := by unfold fneg; split <;> omega
set_option maxHeartbeats 2000000 in
theorem ssub_any (x y mode : Int) (x0 : 0 ≤ x) (x1 : x ≤ 18446744073709551615) (y0 : 0 ≤ y) (y1 : y ≤ 18446744073709551615) (w : World) (hT : Tab w) :
    Calls Tryz.prog 67 #[.int .u64 x, .int .u64 y, .int .i64 mode] w fun e w' => e = .returned (.tuple #[.int .u64 (adV x (fneg y) mode), .bool (adC x (fneg y) mode), .int .i64 (adE mode)]) ∧ Below w.heap.size w w' := by
  have hn := fneg_in y0 y1
  have hadd := fun w' h => sadd_any x (fneg y) mode x0 x1 hn.1 hn.2 w' h
  generalize adV x (fneg y) mode = V at *
  generalize adC x (fneg y) mode = C at *
  generalize adE mode = E at *
  have HADD := Lib.hid hadd
  have HT := Lib.hid hT
  clear hadd hT hn
  go_enter Tryz.func67, Tryz.ntmps67
  go_wp2_with (go_at_call 81; refine (neg_any _ (by omega) (by omega) _).mono ?_; rintro e w' ⟨rfl, rfl⟩)
  refine (HADD.out _ HT.out).mono ?_
  rintro r w1 ⟨rfl, hb⟩
  have B1 := Lib.hid hb
  clear hb
  go_wp2
  go_ret3
  exact ⟨rfl, B1.out⟩

theorem slives_facts : adV 4607182418800017408 4607182418800017408 0 = 4611686018427387904 ∧ adC 4607182418800017408 4607182418800017408 0 = false ∧ adV 4607182418800017408 1 1 = 4607182418800017409 ∧ adC 4607182418800017408 1 1 = true ∧ adE 0 = 0 ∧ adE 1 = 0 :=
  ⟨by kernel_rfl, by kernel_rfl, by kernel_rfl, by kernel_rfl, by kernel_rfl, by kernel_rfl⟩
end Go.Proofs.YthibhlimogcpeaaGreatDoor
