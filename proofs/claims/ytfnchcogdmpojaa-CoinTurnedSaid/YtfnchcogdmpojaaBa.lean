/-
  SOME OF MY TEXTS in one: Ok. Each says what it proves.
-/
import Derived.Test.YtfnchcogdmpojaaChecked
import Derived.WalkKit
import Derived.WalkLawsBesides
import Derived.WalkSpells
import Derived.Handy
import Derived.Lib.Hide
set_option linter.unusedVariables false
set_option linter.unusedSimpArgs false
/-
  THE WALK of the law's own 'ok': none of some errors.
-/
namespace Go.Proofs.Ytfnchcogdmpojaa
open Go.RowKit

theorem all_take (l : List Int) (k : Nat) (h : k < l.length) (hk : (l.take k).all (· == 0) = true) : (l.take (k + 1)).all (· == 0) = (l[k] == 0) := by
  rw [List.take_succ_eq_append_getElem h, List.all_append, hk]; simp
theorem all_not (l : List Int) (k : Nat) (h : k < l.length) (hk : (l[k] == 0) = false) : l.all (· == 0) = false := by
  rw [Bool.eq_false_iff]; intro h2
  rw [List.all_eq_true] at h2
  have := h2 _ (List.getElem_mem h)
  rw [hk] at this; cases this

theorem ok_any (l : List Int) (b off cap : Nat) (w : World) (hl : l.length ≤ 1000) (hc : ∀ i, i < l.length → w.cell? ⟨b, off + i, none⟩ = some (.int .i64 (l.getD i 0))) :
    Calls Try.prog 19 #[.slice (some ⟨b, off, none⟩) l.length cap] w fun e w' => e = .returned (.bool (l.all (· == 0))) ∧ w = w' := by
  go_enter Try.func19, Try.ntmps19
  go_wp2
  go_loop [7] (fun i => ∃ k : Nat, k ≤ l.length ∧ i = .int .i64 k ∧ (l.take k).all (· == 0) = true) (fun i => l.length - (intOf i).toNat)
  case atStart => exact ⟨0, Nat.zero_le _, rfl, by simp⟩
  case round =>
    obtain ⟨k, hk, rfl, ht⟩ := hrel
    by_cases hlt : k < l.length
    · have hck := hc k hlt
      have hts := all_take l k hlt ht
      have hno := all_not l k hlt
      have hg : l.getD k 0 = l[k] := by simp [List.getD, hlt]
      rw [hg] at hck
      cases hz : (l[k] == 0)
      · have hzz := hno hz
        have hz2 : (l[k] != 0) = true := by simp [bne, hz]
        have HZ := Lib.hid hzz
        clear hno hts ht hzz hc hg
        go_wp2
        go_ret
        exact ⟨by rw [HZ.out]; rfl, rfl⟩
      · have hz2 : (l[k] != 0) = false := by simp [bne, hz]
        rw [hz] at hts
        have HT := Lib.hid hts
        clear hno hts ht hc hg
        go_wp2
        go_round
        case rel => exact ⟨k + 1, by omega, by go_num, HT.out⟩
        case measure => simp [intOf]; omega
    · have hk2 : k = l.length := by omega
      have ht2 : l.all (· == 0) = true := by rw [hk2, List.take_length] at ht; exact ht
      have HT := Lib.hid ht2
      clear hk2 ht ht2 hc
      go_wp2
      go_ret
      exact ⟨by rw [HT.out]; rfl, rfl⟩
/-- none of so many -/
def ok1 (x0 : Int) : Bool := (x0 == 0)
theorem ok1_mk : ok1 0 = true := by decide
theorem ok_new1 (x0 : Int) (w : World) (b : Nat) (hb : b = w.heap.size) :
    Calls Try.prog 19 #[.slice (some ⟨b, 0, none⟩) 1 1] (w.alloc (.cells #[.int .i64 x0] 24)) fun e w' => e = .returned (.bool (ok1 x0)) ∧ w.alloc (.cells #[.int .i64 x0] 24) = w' := by
  subst hb
  have := ok_any [x0] w.heap.size 0 1 (w.alloc (.cells #[.int .i64 x0] 24)) (by simp) (by intro i hi; match i, hi with | 0, _ => simp [go_sem])
  refine this.mono ?_
  rintro e w' ⟨rfl, rfl⟩
  exact ⟨by simp [ok1, Bool.and_assoc], rfl⟩
def ok2 (x0 x1 : Int) : Bool := (x0 == 0) && (x1 == 0)
theorem ok2_mk : ok2 0 0 = true := by decide
theorem ok_new2 (x0 x1 : Int) (w : World) (b : Nat) (hb : b = w.heap.size) :
    Calls Try.prog 19 #[.slice (some ⟨b, 0, none⟩) 2 2] (w.alloc (.cells #[.int .i64 x0, .int .i64 x1] 24)) fun e w' => e = .returned (.bool (ok2 x0 x1)) ∧ w.alloc (.cells #[.int .i64 x0, .int .i64 x1] 24) = w' := by
  subst hb
  have := ok_any [x0, x1] w.heap.size 0 2 (w.alloc (.cells #[.int .i64 x0, .int .i64 x1] 24)) (by simp) (by intro i hi; match i, hi with | 0, _ => simp [go_sem] | 1, _ => simp [go_sem])
  refine this.mono ?_
  rintro e w' ⟨rfl, rfl⟩
  exact ⟨by simp [ok2, Bool.and_assoc], rfl⟩
def ok3 (x0 x1 x2 : Int) : Bool := (x0 == 0) && (x1 == 0) && (x2 == 0)
theorem ok3_mk : ok3 0 0 0 = true := by decide
theorem ok_new3 (x0 x1 x2 : Int) (w : World) (b : Nat) (hb : b = w.heap.size) :
    Calls Try.prog 19 #[.slice (some ⟨b, 0, none⟩) 3 3] (w.alloc (.cells #[.int .i64 x0, .int .i64 x1, .int .i64 x2] 24)) fun e w' => e = .returned (.bool (ok3 x0 x1 x2)) ∧ w.alloc (.cells #[.int .i64 x0, .int .i64 x1, .int .i64 x2] 24) = w' := by
  subst hb
  have := ok_any [x0, x1, x2] w.heap.size 0 3 (w.alloc (.cells #[.int .i64 x0, .int .i64 x1, .int .i64 x2] 24)) (by simp) (by intro i hi; match i, hi with | 0, _ => simp [go_sem] | 1, _ => simp [go_sem] | 2, _ => simp [go_sem])
  refine this.mono ?_
  rintro e w' ⟨rfl, rfl⟩
  exact ⟨by simp [ok3, Bool.and_assoc], rfl⟩
def ok4 (x0 x1 x2 x3 : Int) : Bool := (x0 == 0) && (x1 == 0) && (x2 == 0) && (x3 == 0)
theorem ok4_mk : ok4 0 0 0 0 = true := by decide
theorem ok_new4 (x0 x1 x2 x3 : Int) (w : World) (b : Nat) (hb : b = w.heap.size) :
    Calls Try.prog 19 #[.slice (some ⟨b, 0, none⟩) 4 4] (w.alloc (.cells #[.int .i64 x0, .int .i64 x1, .int .i64 x2, .int .i64 x3] 24)) fun e w' => e = .returned (.bool (ok4 x0 x1 x2 x3)) ∧ w.alloc (.cells #[.int .i64 x0, .int .i64 x1, .int .i64 x2, .int .i64 x3] 24) = w' := by
  subst hb
  have := ok_any [x0, x1, x2, x3] w.heap.size 0 4 (w.alloc (.cells #[.int .i64 x0, .int .i64 x1, .int .i64 x2, .int .i64 x3] 24)) (by simp) (by intro i hi; match i, hi with | 0, _ => simp [go_sem] | 1, _ => simp [go_sem] | 2, _ => simp [go_sem] | 3, _ => simp [go_sem])
  refine this.mono ?_
  rintro e w' ⟨rfl, rfl⟩
  exact ⟨by simp [ok4, Bool.and_assoc], rfl⟩
def ok5 (x0 x1 x2 x3 x4 : Int) : Bool := (x0 == 0) && (x1 == 0) && (x2 == 0) && (x3 == 0) && (x4 == 0)
theorem ok5_mk : ok5 0 0 0 0 0 = true := by decide
theorem ok_new5 (x0 x1 x2 x3 x4 : Int) (w : World) (b : Nat) (hb : b = w.heap.size) :
    Calls Try.prog 19 #[.slice (some ⟨b, 0, none⟩) 5 5] (w.alloc (.cells #[.int .i64 x0, .int .i64 x1, .int .i64 x2, .int .i64 x3, .int .i64 x4] 24)) fun e w' => e = .returned (.bool (ok5 x0 x1 x2 x3 x4)) ∧ w.alloc (.cells #[.int .i64 x0, .int .i64 x1, .int .i64 x2, .int .i64 x3, .int .i64 x4] 24) = w' := by
  subst hb
  have := ok_any [x0, x1, x2, x3, x4] w.heap.size 0 5 (w.alloc (.cells #[.int .i64 x0, .int .i64 x1, .int .i64 x2, .int .i64 x3, .int .i64 x4] 24)) (by simp) (by intro i hi; match i, hi with | 0, _ => simp [go_sem] | 1, _ => simp [go_sem] | 2, _ => simp [go_sem] | 3, _ => simp [go_sem] | 4, _ => simp [go_sem])
  refine this.mono ?_
  rintro e w' ⟨rfl, rfl⟩
  exact ⟨by simp [ok5, Bool.and_assoc], rfl⟩
def ok6 (x0 x1 x2 x3 x4 x5 : Int) : Bool := (x0 == 0) && (x1 == 0) && (x2 == 0) && (x3 == 0) && (x4 == 0) && (x5 == 0)
theorem ok6_mk : ok6 0 0 0 0 0 0 = true := by decide
theorem ok_new6 (x0 x1 x2 x3 x4 x5 : Int) (w : World) (b : Nat) (hb : b = w.heap.size) :
    Calls Try.prog 19 #[.slice (some ⟨b, 0, none⟩) 6 6] (w.alloc (.cells #[.int .i64 x0, .int .i64 x1, .int .i64 x2, .int .i64 x3, .int .i64 x4, .int .i64 x5] 24)) fun e w' => e = .returned (.bool (ok6 x0 x1 x2 x3 x4 x5)) ∧ w.alloc (.cells #[.int .i64 x0, .int .i64 x1, .int .i64 x2, .int .i64 x3, .int .i64 x4, .int .i64 x5] 24) = w' := by
  subst hb
  have := ok_any [x0, x1, x2, x3, x4, x5] w.heap.size 0 6 (w.alloc (.cells #[.int .i64 x0, .int .i64 x1, .int .i64 x2, .int .i64 x3, .int .i64 x4, .int .i64 x5] 24)) (by simp) (by intro i hi; match i, hi with | 0, _ => simp [go_sem] | 1, _ => simp [go_sem] | 2, _ => simp [go_sem] | 3, _ => simp [go_sem] | 4, _ => simp [go_sem] | 5, _ => simp [go_sem])
  refine this.mono ?_
  rintro e w' ⟨rfl, rfl⟩
  exact ⟨by simp [ok6, Bool.and_assoc], rfl⟩
def ok7 (x0 x1 x2 x3 x4 x5 x6 : Int) : Bool := (x0 == 0) && (x1 == 0) && (x2 == 0) && (x3 == 0) && (x4 == 0) && (x5 == 0) && (x6 == 0)
theorem ok7_mk : ok7 0 0 0 0 0 0 0 = true := by decide
theorem ok_new7 (x0 x1 x2 x3 x4 x5 x6 : Int) (w : World) (b : Nat) (hb : b = w.heap.size) :
    Calls Try.prog 19 #[.slice (some ⟨b, 0, none⟩) 7 7] (w.alloc (.cells #[.int .i64 x0, .int .i64 x1, .int .i64 x2, .int .i64 x3, .int .i64 x4, .int .i64 x5, .int .i64 x6] 24)) fun e w' => e = .returned (.bool (ok7 x0 x1 x2 x3 x4 x5 x6)) ∧ w.alloc (.cells #[.int .i64 x0, .int .i64 x1, .int .i64 x2, .int .i64 x3, .int .i64 x4, .int .i64 x5, .int .i64 x6] 24) = w' := by
  subst hb
  have := ok_any [x0, x1, x2, x3, x4, x5, x6] w.heap.size 0 7 (w.alloc (.cells #[.int .i64 x0, .int .i64 x1, .int .i64 x2, .int .i64 x3, .int .i64 x4, .int .i64 x5, .int .i64 x6] 24)) (by simp) (by intro i hi; match i, hi with | 0, _ => simp [go_sem] | 1, _ => simp [go_sem] | 2, _ => simp [go_sem] | 3, _ => simp [go_sem] | 4, _ => simp [go_sem] | 5, _ => simp [go_sem] | 6, _ => simp [go_sem])
  refine this.mono ?_
  rintro e w' ⟨rfl, rfl⟩
  exact ⟨by simp [ok7, Bool.and_assoc], rfl⟩
end Go.Proofs.Ytfnchcogdmpojaa
