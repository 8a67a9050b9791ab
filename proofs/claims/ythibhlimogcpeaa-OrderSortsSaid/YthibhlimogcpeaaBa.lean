/-
  SOME OF MY TEXTS in one: Fl Ord. Each says what it proves.
-/
import Derived.WalkKit
set_option linter.unusedVariables false
set_option linter.unusedSimpArgs false
/-
  PLAIN: the numbers of package float as functions on integers (no Go in sight).
-/
namespace Go.Proofs.Ythibhlimogcpeaa.Fl

/-- the bits without the sign -/
def fabs (x : Int) : Int := x % 9223372036854775808
def fexp (x : Int) : Int := x / 4503599627370496 % 2048
def ffr (x : Int) : Int := x % 4503599627370496
def fng (x : Int) : Bool := decide (9223372036854775808 ≤ x)
def fneg (x : Int) : Int := if 9223372036854775808 ≤ x then x - 9223372036854775808 else x + 9223372036854775808
def fcls (x : Int) : Int := if fabs x = 0 then 1 else if fabs x < 4503599627370496 then 2 else if fabs x < 9218868437227405312 then 3 else if fabs x = 9218868437227405312 then 4 else 5
def frank (x : Int) : Int := if 9218868437227405312 < fabs x then 0 else if 9223372036854775808 ≤ x then -fabs x else fabs x
def frerr (x : Int) : Int := if 9218868437227405312 < fabs x then 4 else 0
def fof (n : Int) : Int := if n < 0 then 9223372036854775808 - n else n
def fnext (x : Int) : Int := if 9218868437227405312 < fabs x then 9221120237041090560 else if frank x = 9218868437227405312 then x else if frank x = -1 then 9223372036854775808 else fof (frank x + 1)
def fprev (x : Int) : Int := if 9218868437227405312 < fabs x then 9221120237041090560 else if frank x = -9218868437227405312 then x else fof (frank x - 1)

def fmk (s : Bool) (e f : Int) : Int := e * 4503599627370496 + f + if s then 9223372036854775808 else 0
/-- what Of tells, and its error -/
def fofv (n : Int) : Int := if -9218868437227405312 ≤ n ∧ n ≤ 9218868437227405312 then fof n else 0
def fofe (n : Int) : Int := if -9218868437227405312 ≤ n ∧ n ≤ 9218868437227405312 then 0 else 1
theorem fofv_in {n : Int} (h0 : -9218868437227405312 ≤ n) (h1 : n ≤ 9218868437227405312) : fofv n = fof n ∧ fofe n = 0 := by
  unfold fofv fofe; rw [if_pos ⟨h0, h1⟩, if_pos ⟨h0, h1⟩]; exact ⟨rfl, rfl⟩
theorem fofv_out {n : Int} (h : n < -9218868437227405312 ∨ 9218868437227405312 < n) : fofv n = 0 ∧ fofe n = 1 := by
  unfold fofv fofe; rw [if_neg (by omega), if_neg (by omega)]; exact ⟨rfl, rfl⟩
theorem fexp_bd (x : Int) : 0 ≤ fexp x ∧ fexp x ≤ 2047 := by unfold fexp; omega
theorem ffr_bd (x : Int) : 0 ≤ ffr x ∧ ffr x ≤ 4503599627370495 := by unfold ffr; omega
theorem fabs_bd (x : Int) : 0 ≤ fabs x ∧ fabs x ≤ 9223372036854775807 := by unfold fabs; omega
theorem frank_bd (x : Int) : -9218868437227405312 ≤ frank x ∧ frank x ≤ 9218868437227405312 := by have := fabs_bd x; unfold frank; omega
theorem fneg_bd {x : Int} (h0 : 0 ≤ x) (h1 : x ≤ 18446744073709551615) : 0 ≤ fneg x ∧ fneg x ≤ 18446744073709551615 := by unfold fneg; omega
theorem fof_bd {n : Int} (h0 : -9218868437227405312 ≤ n) (h1 : n ≤ 9218868437227405312) : 0 ≤ fof n ∧ fof n ≤ 18446744073709551615 := by unfold fof; omega
theorem fnext_bd {x : Int} (h0 : 0 ≤ x) (h1 : x ≤ 18446744073709551615) : 0 ≤ fnext x ∧ fnext x ≤ 18446744073709551615 := by
  have := frank_bd x; unfold fnext fof; omega
theorem fprev_bd {x : Int} (h0 : 0 ≤ x) (h1 : x ≤ 18446744073709551615) : 0 ≤ fprev x ∧ fprev x ≤ 18446744073709551615 := by
  have := frank_bd x; unfold fprev fof; omega

/-- the five classes by the two parts -/
theorem cls_ways {x : Int} (h0 : 0 ≤ x) (h1 : x ≤ 18446744073709551615) :
    (fexp x = 0 ∧ ffr x = 0 ∧ fcls x = 1) ∨ (fexp x = 0 ∧ 0 < ffr x ∧ fcls x = 2) ∨ (fexp x = 2047 ∧ ffr x = 0 ∧ fcls x = 4) ∨ (fexp x = 2047 ∧ 0 < ffr x ∧ fcls x = 5) ∨ (0 < fexp x ∧ fexp x < 2047 ∧ fcls x = 3) := by
  unfold fexp ffr fcls fabs; omega

theorem u64_wraps (n : Int) (h0 : 0 ≤ n) (h1 : n < 2 ^ 64) : IntKind.u64.wrap n = n := IntWalk.u64_in n ⟨h0, by omega⟩
theorem and_2047 (x : Int) (h0 : 0 ≤ x) (h1 : x ≤ 18446744073709551615) : bits .and .u64 x 2047 = x % 2048 :=
  bits_mask .u64 64 (by decide) u64_wraps 11 (by decide) x h0 (by omega)
theorem and_frac (x : Int) (h0 : 0 ≤ x) (h1 : x ≤ 18446744073709551615) : bits .and .u64 x 4503599627370495 = x % 4503599627370496 :=
  bits_mask .u64 64 (by decide) u64_wraps 52 (by decide) x h0 (by omega)
theorem or_sign (x : Int) (h0 : 0 ≤ x) (h1 : x < 9223372036854775808) : bits .or .u64 x 9223372036854775808 = x + 9223372036854775808 := by
  obtain ⟨a, rfl⟩ := Int.eq_ofNat_of_zero_le h0
  have ha : a < 2 ^ 63 := by omega
  have h := bits_or_u64_nat a 9223372036854775808 (by omega) (by decide)
  rw [show ((9223372036854775808 : Nat) : Int) = 9223372036854775808 from rfl] at h
  rw [h, Nat.or_comm]
  have := Nat.two_pow_add_eq_or_of_lt ha 1
  rw [show (2 ^ 63 * 1 : Nat) = 9223372036854775808 by decide] at this
  rw [← this]; omega
theorem or_frac (e x : Int) (he : 0 ≤ e) (he1 : e ≤ 4095) (h0 : 0 ≤ x) (h1 : x < 4503599627370496) : bits .or .u64 (e * 4503599627370496) x = e * 4503599627370496 + x :=
  bits_join .u64 64 (by decide) u64_wraps 52 _ _ (by omega) (by omega) (by omega) h0 (by omega) (by omega)
theorem xor_sign (x : Int) (h0 : 0 ≤ x) (h1 : x ≤ 18446744073709551615) : bits .xor .u64 x 9223372036854775808 = fneg x := by
  obtain ⟨a, rfl⟩ := Int.eq_ofNat_of_zero_le h0
  have h := u64_xor_nat a 9223372036854775808 (by omega) (by decide)
  rw [show ((9223372036854775808 : Nat) : Int) = 9223372036854775808 from rfl] at h
  rw [h]
  unfold fneg
  by_cases hs : a < 2 ^ 63
  · have h2 : a ^^^ 9223372036854775808 = 9223372036854775808 + a := by
      have h3 := Nat.two_pow_add_eq_or_of_lt hs 1
      rw [show (2 ^ 63 * 1 : Nat) = 9223372036854775808 by decide] at h3
      rw [h3]
      apply Nat.eq_of_testBit_eq; intro i
      rw [Nat.testBit_xor, Nat.testBit_or, show (9223372036854775808 : Nat) = 2 ^ 63 by decide, Nat.testBit_two_pow]
      by_cases hi : 63 = i
      · subst hi; rw [Nat.testBit_lt_two_pow hs]; simp
      · simp [hi]
    rw [h2]; omega
  · have h2 : a ^^^ 9223372036854775808 = a - 9223372036854775808 := by
      obtain ⟨b, hb, rfl⟩ : ∃ b, b < 2 ^ 63 ∧ a = 9223372036854775808 + b := ⟨a - 9223372036854775808, by omega, by omega⟩
      have h3 := Nat.two_pow_add_eq_or_of_lt hb 1
      rw [show (2 ^ 63 * 1 : Nat) = 9223372036854775808 by decide] at h3
      rw [Nat.add_sub_cancel_left]
      conv => lhs; rw [h3]
      apply Nat.eq_of_testBit_eq; intro i
      rw [Nat.testBit_xor, Nat.testBit_or, show (9223372036854775808 : Nat) = 2 ^ 63 by decide, Nat.testBit_two_pow]
      by_cases hi : 63 = i
      · subst hi; rw [Nat.testBit_lt_two_pow hb]; simp
      · simp [hi]
    rw [h2]; omega
theorem andNot_sign (x : Int) (h0 : 0 ≤ x) (h1 : x ≤ 18446744073709551615) : bits .andNot .u64 x 9223372036854775808 = fabs x := by
  obtain ⟨a, rfl⟩ := Int.eq_ofNat_of_zero_le h0
  have h := u64_andNot_nat a 9223372036854775808 (by omega) (by decide)
  rw [show ((9223372036854775808 : Nat) : Int) = 9223372036854775808 from rfl] at h
  rw [h, show (18446744073709551615 - 9223372036854775808 : Nat) = 2 ^ 63 - 1 by decide, Nat.and_two_pow_sub_one_eq_mod]
  unfold fabs; omega
end Go.Proofs.Ythibhlimogcpeaa.Fl

/-
  PLAIN: the comparisons of package order as functions on integers.
-/
namespace Go.Proofs.Ythibhlimogcpeaa.Fl

def sgnc (a b : Int) : Int := if a < b then -1 else if b < a then 1 else 0
def okey (x : Int) : Int := if 9223372036854775808 ≤ x then 18446744073709551615 - x else x + 9223372036854775808
def otot (x y : Int) : Int := sgnc (okey x) (okey y)
def ois (x y : Int) : Bool := frerr x == 0 && frerr y == 0
def ocmp (x y : Int) : Int := if ois x y then sgnc (frank x) (frank y) else 0
def onan (x y : Int) : Bool := fcls x == 5 || fcls y == 5
def oleast (x y s : Int) : Int := if onan x y then 9221120237041090560 else if otot x y * s ≤ 0 then x else y
theorem sgnc_bd (a b : Int) : -1 ≤ sgnc a b ∧ sgnc a b ≤ 1 := by unfold sgnc; omega
theorem okey_bd {x : Int} (h0 : 0 ≤ x) (h1 : x ≤ 18446744073709551615) : 0 ≤ okey x ∧ okey x ≤ 18446744073709551615 := by unfold okey; omega
theorem oleast_bd {x y s : Int} (h0 : 0 ≤ x) (h1 : x ≤ 18446744073709551615) (y0 : 0 ≤ y) (y1 : y ≤ 18446744073709551615) : 0 ≤ oleast x y s ∧ oleast x y s ≤ 18446744073709551615 := by
  unfold oleast; omega
theorem okey_inj {x y : Int} (h0 : 0 ≤ x) (h1 : x ≤ 18446744073709551615) (y0 : 0 ≤ y) (y1 : y ≤ 18446744073709551615) (h : okey x = okey y) : x = y := by
  unfold okey at h; omega
end Go.Proofs.Ythibhlimogcpeaa.Fl
