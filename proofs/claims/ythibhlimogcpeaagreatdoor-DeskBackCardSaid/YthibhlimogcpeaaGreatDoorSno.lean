/-
  SOME OF MY TEXTS in one: Or2. Each says what it proves.
-/
import Derived.Test.YthibhlimogcpeaaGreatDoorFloatB
import Derived.Test.YthibhlimogcpeaaGreatDoorBa
set_option linter.unusedVariables false
set_option linter.unusedSimpArgs false
/-
  THE WALKS of package order, over the float and cmp walks of the card seats.
-/
namespace Go.Proofs.YthibhlimogcpeaaGreatDoor
open Go.RowKit Fl

theorem not_u64 (x : Int) (h0 : 0 ≤ x) (h1 : x ≤ 18446744073709551615) : bits .xor .u64 IntKind.u64.max x = 18446744073709551615 - x := by
  obtain ⟨a, rfl⟩ := Int.eq_ofNat_of_zero_le h0
  have h := u64_xor_nat 18446744073709551615 a (by decide) (by omega)
  rw [show IntKind.u64.max = ((18446744073709551615 : Nat) : Int) from by decide, h]
  have h2 : 18446744073709551615 ^^^ a = 18446744073709551615 - a := by
    apply Nat.eq_of_testBit_eq; intro i
    have h3 : 18446744073709551615 - a = 2 ^ 64 - (a + 1) := by omega
    rw [h3, Nat.testBit_two_pow_sub_succ (by omega), Nat.testBit_xor, show (18446744073709551615 : Nat) = 2 ^ 64 - 1 by decide, Nat.testBit_two_pow_sub_one]
    by_cases hi : i < 64
    · simp [hi]
    · simp [hi]; exact Nat.testBit_lt_two_pow (Nat.lt_of_lt_of_le (by omega : a < 2 ^ 64) (Nat.pow_le_pow_right (by decide) (by omega)))
  rw [h2]; omega

theorem key_any (x : Int) (h0 : 0 ≤ x) (h1 : x ≤ 18446744073709551615) (w : World) :
    Calls Tryz.prog 243 #[.int .u64 x] w fun e w' => e = .returned (.int .u64 (okey x)) ∧ w = w' := by
  by_cases hs : 9223372036854775808 ≤ x
  · have e4 : (x / 9223372036854775808 == 1) = true := by rw [beq_iff_eq]; omega
    have e : okey x = 18446744073709551615 - x := by unfold okey; omega
    have e5 := not_u64 x h0 h1
    rw [e]; clear e
    go_enter Tryz.func243, Tryz.ntmps243
    go_wp2
    go_ret
    exact ⟨rfl, rfl⟩
  · have e4 : (x / 9223372036854775808 == 1) = false := by rw [beq_eq_false_iff_ne]; omega
    have e : okey x = x + 9223372036854775808 := by unfold okey; omega
    have e5 := or_sign x h0 (by omega)
    rw [e]; clear e
    go_enter Tryz.func243, Tryz.ntmps243
    go_wp2
    go_ret
    exact ⟨rfl, rfl⟩

theorem total_any (x y : Int) (h0 : 0 ≤ x) (h1 : x ≤ 18446744073709551615) (y0 : 0 ≤ y) (y1 : y ≤ 18446744073709551615) (w : World) :
    Calls Tryz.prog 203 #[.int .u64 x, .int .u64 y] w fun e w' => e = .returned (.int .i64 (otot x y)) ∧ w = w' := by
  go_enter Tryz.func203, Tryz.ntmps203
  go_wp2_with (first | (go_at_call 243; refine (key_any _ (by omega) (by omega) _).mono ?_; rintro e w' ⟨rfl, rfl⟩) | (go_at_call 242; refine (cmp_uint64 _ _ _).mono ?_; rintro e w' ⟨rfl, rfl⟩))
  go_ret
  exact ⟨rfl, rfl⟩

theorem ocmp_any (x y : Int) (h0 : 0 ≤ x) (h1 : x ≤ 18446744073709551615) (y0 : 0 ≤ y) (y1 : y ≤ 18446744073709551615) (w : World) :
    Calls Tryz.prog 87 #[.int .u64 x, .int .u64 y] w fun e w' => e = .returned (.tuple #[.int .i64 (ocmp x y), .bool (ois x y)]) ∧ w = w' := by
  have hx : frerr x = 4 ∨ frerr x = 0 := by unfold frerr; omega
  have hy : frerr y = 4 ∨ frerr y = 0 := by unfold frerr; omega
  have hi : ois x y = (frerr x == 0 && frerr y == 0) := rfl
  have hc : ocmp x y = if ois x y = true then sgnc (frank x) (frank y) else 0 := rfl
  rcases hx with hx | hx <;> rcases hy with hy | hy
  all_goals
    rw [hx, hy] at hi
    simp only [Int.reduceBEq, Bool.and_true, Bool.and_false, Bool.and_self, Bool.false_eq_true, if_false, if_true] at hi
    rw [hi] at hc
    simp only [Bool.false_eq_true, if_false, if_true] at hc
    rw [hi, hc]
    clear hi hc
    go_enter Tryz.func87, Tryz.ntmps87
    go_wp2_with (first | (go_at_call 143; refine (rank_any _ (by omega) (by omega) _).mono ?_; rintro e w' ⟨rfl, rfl⟩) | (go_at_call 151; refine (cmp_int _ _ _).mono ?_; rintro e w' ⟨rfl, rfl⟩))
    go_ret2
    exact ⟨rfl, rfl⟩

theorem least_any (x y s : Int) (h0 : 0 ≤ x) (h1 : x ≤ 18446744073709551615) (y0 : 0 ≤ y) (y1 : y ≤ 18446744073709551615) (s0 : -1 ≤ s) (s1 : s ≤ 1) (w : World) :
    Calls Tryz.prog 145 #[.int .u64 x, .int .u64 y, .int .i64 s] w fun e w' => e = .returned (.int .u64 (oleast x y s)) ∧ w = w' := by
  have hb := sgnc_bd (okey x) (okey y)
  have ht : -1 ≤ otot x y ∧ otot x y ≤ 1 := hb
  have hm : -1 ≤ otot x y * s ∧ otot x y * s ≤ 1 := by
    obtain ⟨t1, t2⟩ := ht
    have e1 : otot x y = -1 ∨ otot x y = 0 ∨ otot x y = 1 := by omega
    rcases e1 with e1 | e1 | e1 <;> rw [e1] <;> omega
  have hcx : (fcls x == 5) = true ∨ (fcls x == 5) = false := by cases (fcls x == 5) <;> simp
  have hcy : (fcls y == 5) = true ∨ (fcls y == 5) = false := by cases (fcls y == 5) <;> simp
  have hn : onan x y = (fcls x == 5 || fcls y == 5) := rfl
  have hl : oleast x y s = if onan x y = true then 9221120237041090560 else if otot x y * s ≤ 0 then x else y := rfl
  rcases hcx with hcx | hcx <;> rcases hcy with hcy | hcy
  all_goals
    rw [hcx, hcy] at hn
    simp only [Bool.or_true, Bool.or_false, Bool.or_self, Bool.true_or, Bool.false_or] at hn
    rw [hn] at hl
    simp only [Bool.false_eq_true, if_false, if_true] at hl
    rw [hl]
    clear hn hl hb
  case inr.inr =>
    by_cases hle : otot x y * s ≤ 0
    all_goals
      simp only [hle, if_true, if_false]
      go_enter Tryz.func145, Tryz.ntmps145
      go_wp2_with (first | (go_at_call 103; refine (class_any _ (by omega) (by omega) _).mono ?_; rintro e w' ⟨rfl, rfl⟩) | (go_at_call 203; refine (total_any _ _ (by omega) (by omega) (by omega) (by omega) _).mono ?_; rintro e w' ⟨rfl, rfl⟩))
      go_ret
      exact ⟨rfl, rfl⟩
  all_goals
    clear hm
    go_enter Tryz.func145, Tryz.ntmps145
    go_wp2_with (first | (go_at_call 103; refine (class_any _ (by omega) (by omega) _).mono ?_; rintro e w' ⟨rfl, rfl⟩) | (go_at_call 203; refine (total_any _ _ (by omega) (by omega) (by omega) (by omega) _).mono ?_; rintro e w' ⟨rfl, rfl⟩))
    go_ret
    exact ⟨rfl, rfl⟩

theorem min_any (x y : Int) (h0 : 0 ≤ x) (h1 : x ≤ 18446744073709551615) (y0 : 0 ≤ y) (y1 : y ≤ 18446744073709551615) (w : World) :
    Calls Tryz.prog 82 #[.int .u64 x, .int .u64 y] w fun e w' => e = .returned (.int .u64 (oleast x y 1)) ∧ w = w' := by
  go_enter Tryz.func82, Tryz.ntmps82
  go_wp2_with (go_at_call 145; refine (least_any _ _ _ (by omega) (by omega) (by omega) (by omega) (by omega) (by omega) _).mono ?_; rintro e w' ⟨rfl, rfl⟩)
  go_ret
  exact ⟨rfl, rfl⟩
theorem max_any (x y : Int) (h0 : 0 ≤ x) (h1 : x ≤ 18446744073709551615) (y0 : 0 ≤ y) (y1 : y ≤ 18446744073709551615) (w : World) :
    Calls Tryz.prog 83 #[.int .u64 x, .int .u64 y] w fun e w' => e = .returned (.int .u64 (oleast x y (-1))) ∧ w = w' := by
  go_enter Tryz.func83, Tryz.ntmps83
  go_wp2_with (go_at_call 145; refine (least_any _ _ _ (by omega) (by omega) (by omega) (by omega) (by omega) (by omega) _).mono ?_; rintro e w' ⟨rfl, rfl⟩)
  go_ret
  exact ⟨rfl, rfl⟩
end Go.Proofs.YthibhlimogcpeaaGreatDoor
