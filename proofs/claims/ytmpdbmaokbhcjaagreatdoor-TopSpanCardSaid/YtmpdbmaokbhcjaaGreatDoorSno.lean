/-
  SOME OF MY TEXTS in one: Or2 Sn So2. Each says what it proves.
-/
import Derived.Test.YtmpdbmaokbhcjaaGreatDoorFloatB
import Derived.Test.YtmpdbmaokbhcjaaGreatDoorBa
import Derived.Test.YtmpdbmaokbhcjaaGreatDoorBh
import Derived.Test.YtmpdbmaokbhcjaaGreatDoorBd
set_option linter.unusedVariables false
set_option linter.unusedSimpArgs false
/-
  THE WALKS of package order, over the float and cmp walks of the card seats.
-/
namespace Go.Proofs.YtmpdbmaokbhcjaaGreatDoor
open Go.RowKit Fl

theorem not_u64 (x : Int) (h0 : 0 ≤ x) (h1 : x ≤ 18446744073709551615) : bits .xor .u64 IntKind.u64.max x = 18446744073709551615 - x := by
  obtain ⟨a, rfl⟩ := Int.eq_ofNat_of_zero_le h0
  have h := u64_xor_nat 18446744073709551615 a (by decide) (by omega)
  rw [show IntKind.u64.max = ((18446744073709551615 : Nat) : Int) from by decide, h]
  have h2 : 18446744073709551615 ^^^ a = 18446744073709551615 - a := by
    apply Nat.eq_of_testBit_eq; intro i
    have h3 : 18446744073709551615 - a = 2 ^ 64 - (a + 1) := by omega
    rw [h3, Nat.testBit_two_pow_sub_succ (by omega), Nat.testBit_xor, show (18446744073709551615 : Nat) = 2 ^ 64 - 1 by decide, Nat.testBit_two_pow_sub_one]
    by_cases hi : i < 64
    · simp [hi]
    · simp [hi]; exact Nat.testBit_lt_two_pow (Nat.lt_of_lt_of_le (by omega : a < 2 ^ 64) (Nat.pow_le_pow_right (by decide) (by omega)))
  rw [h2]; omega

theorem key_any (x : Int) (h0 : 0 ≤ x) (h1 : x ≤ 18446744073709551615) (w : World) :
    Calls Tryz.prog 272 #[.int .u64 x] w fun e w' => e = .returned (.int .u64 (okey x)) ∧ w = w' := by
  by_cases hs : 9223372036854775808 ≤ x
  · have e4 : (x / 9223372036854775808 == 1) = true := by rw [beq_iff_eq]; omega
    have e : okey x = 18446744073709551615 - x := by unfold okey; omega
    have e5 := not_u64 x h0 h1
    rw [e]; clear e
    go_enter Tryz.func272, Tryz.ntmps272
    go_wp2
    go_ret
    exact ⟨rfl, rfl⟩
  · have e4 : (x / 9223372036854775808 == 1) = false := by rw [beq_eq_false_iff_ne]; omega
    have e : okey x = x + 9223372036854775808 := by unfold okey; omega
    have e5 := or_sign x h0 (by omega)
    rw [e]; clear e
    go_enter Tryz.func272, Tryz.ntmps272
    go_wp2
    go_ret
    exact ⟨rfl, rfl⟩

theorem total_any (x y : Int) (h0 : 0 ≤ x) (h1 : x ≤ 18446744073709551615) (y0 : 0 ≤ y) (y1 : y ≤ 18446744073709551615) (w : World) :
    Calls Tryz.prog 261 #[.int .u64 x, .int .u64 y] w fun e w' => e = .returned (.int .i64 (otot x y)) ∧ w = w' := by
  go_enter Tryz.func261, Tryz.ntmps261
  go_wp2_with (first | (go_at_call 272; refine (key_any _ (by omega) (by omega) _).mono ?_; rintro e w' ⟨rfl, rfl⟩) | (go_at_call 271; refine (cmp_uint64 _ _ _).mono ?_; rintro e w' ⟨rfl, rfl⟩))
  go_ret
  exact ⟨rfl, rfl⟩

theorem ocmp_any (x y : Int) (h0 : 0 ≤ x) (h1 : x ≤ 18446744073709551615) (y0 : 0 ≤ y) (y1 : y ≤ 18446744073709551615) (w : World) :
    Calls Tryz.prog 47 #[.int .u64 x, .int .u64 y] w fun e w' => e = .returned (.tuple #[.int .i64 (ocmp x y), .bool (ois x y)]) ∧ w = w' := by
  have hx : frerr x = 4 ∨ frerr x = 0 := by unfold frerr; omega
  have hy : frerr y = 4 ∨ frerr y = 0 := by unfold frerr; omega
  have hi : ois x y = (frerr x == 0 && frerr y == 0) := rfl
  have hc : ocmp x y = if ois x y = true then sgnc (frank x) (frank y) else 0 := rfl
  rcases hx with hx | hx <;> rcases hy with hy | hy
  all_goals
    rw [hx, hy] at hi
    simp only [Int.reduceBEq, Bool.and_true, Bool.and_false, Bool.and_self, Bool.false_eq_true, if_false, if_true] at hi
    rw [hi] at hc
    simp only [Bool.false_eq_true, if_false, if_true] at hc
    rw [hi, hc]
    clear hi hc
    go_enter Tryz.func47, Tryz.ntmps47
    go_wp2_with (first | (go_at_call 107; refine (rank_any _ (by omega) (by omega) _).mono ?_; rintro e w' ⟨rfl, rfl⟩) | (go_at_call 108; refine (cmp_int _ _ _).mono ?_; rintro e w' ⟨rfl, rfl⟩))
    go_ret2
    exact ⟨rfl, rfl⟩

theorem least_any (x y s : Int) (h0 : 0 ≤ x) (h1 : x ≤ 18446744073709551615) (y0 : 0 ≤ y) (y1 : y ≤ 18446744073709551615) (s0 : -1 ≤ s) (s1 : s ≤ 1) (w : World) :
    Calls Tryz.prog 247 #[.int .u64 x, .int .u64 y, .int .i64 s] w fun e w' => e = .returned (.int .u64 (oleast x y s)) ∧ w = w' := by
  have hb := sgnc_bd (okey x) (okey y)
  have ht : -1 ≤ otot x y ∧ otot x y ≤ 1 := hb
  have hm : -1 ≤ otot x y * s ∧ otot x y * s ≤ 1 := by
    obtain ⟨t1, t2⟩ := ht
    have e1 : otot x y = -1 ∨ otot x y = 0 ∨ otot x y = 1 := by omega
    rcases e1 with e1 | e1 | e1 <;> rw [e1] <;> omega
  have hcx : (fcls x == 5) = true ∨ (fcls x == 5) = false := by cases (fcls x == 5) <;> simp
  have hcy : (fcls y == 5) = true ∨ (fcls y == 5) = false := by cases (fcls y == 5) <;> simp
  have hn : onan x y = (fcls x == 5 || fcls y == 5) := rfl
  have hl : oleast x y s = if onan x y = true then 9221120237041090560 else if otot x y * s ≤ 0 then x else y := rfl
  rcases hcx with hcx | hcx <;> rcases hcy with hcy | hcy
  all_goals
    rw [hcx, hcy] at hn
    simp only [Bool.or_true, Bool.or_false, Bool.or_self, Bool.true_or, Bool.false_or] at hn
    rw [hn] at hl
    simp only [Bool.false_eq_true, if_false, if_true] at hl
    rw [hl]
    clear hn hl hb
  case inr.inr =>
    by_cases hle : otot x y * s ≤ 0
    all_goals
      simp only [hle, if_true, if_false]
      go_enter Tryz.func247, Tryz.ntmps247
      go_wp2_with (first | (go_at_call 24; refine (class_any _ (by omega) (by omega) _).mono ?_; rintro e w' ⟨rfl, rfl⟩) | (go_at_call 261; refine (total_any _ _ (by omega) (by omega) (by omega) (by omega) _).mono ?_; rintro e w' ⟨rfl, rfl⟩))
      go_ret
      exact ⟨rfl, rfl⟩
  all_goals
    clear hm
    go_enter Tryz.func247, Tryz.ntmps247
    go_wp2_with (first | (go_at_call 24; refine (class_any _ (by omega) (by omega) _).mono ?_; rintro e w' ⟨rfl, rfl⟩) | (go_at_call 261; refine (total_any _ _ (by omega) (by omega) (by omega) (by omega) _).mono ?_; rintro e w' ⟨rfl, rfl⟩))
    go_ret
    exact ⟨rfl, rfl⟩

theorem min_any (x y : Int) (h0 : 0 ≤ x) (h1 : x ≤ 18446744073709551615) (y0 : 0 ≤ y) (y1 : y ≤ 18446744073709551615) (w : World) :
    Calls Tryz.prog 217 #[.int .u64 x, .int .u64 y] w fun e w' => e = .returned (.int .u64 (oleast x y 1)) ∧ w = w' := by
  go_enter Tryz.func217, Tryz.ntmps217
  go_wp2_with (go_at_call 247; refine (least_any _ _ _ (by omega) (by omega) (by omega) (by omega) (by omega) (by omega) _).mono ?_; rintro e w' ⟨rfl, rfl⟩)
  go_ret
  exact ⟨rfl, rfl⟩
theorem max_any (x y : Int) (h0 : 0 ≤ x) (h1 : x ≤ 18446744073709551615) (y0 : 0 ≤ y) (y1 : y ≤ 18446744073709551615) (w : World) :
    Calls Tryz.prog 218 #[.int .u64 x, .int .u64 y] w fun e w' => e = .returned (.int .u64 (oleast x y (-1))) ∧ w = w' := by
  go_enter Tryz.func218, Tryz.ntmps218
  go_wp2_with (go_at_call 247; refine (least_any _ _ _ (by omega) (by omega) (by omega) (by omega) (by omega) (by omega) _).mono ?_; rintro e w' ⟨rfl, rfl⟩)
  go_ret
  exact ⟨rfl, rfl⟩
end Go.Proofs.YtmpdbmaokbhcjaaGreatDoor

/-
  THE WALKS of package span: atMost, plain, Check, check, has, Has, Within.
-/
namespace Go.Proofs.YtmpdbmaokbhcjaaGreatDoor
open Go.RowKit Nt Fm Fl

/-- the ranks of both, if both have one -/
def amB (x y : Int) : Bool := ois x y && decide (ocmp x y ≤ 0)
theorem atMost_any (x y : Int) (x0 : 0 ≤ x) (x1 : x ≤ 18446744073709551615) (y0 : 0 ≤ y) (y1 : y ≤ 18446744073709551615) (w : World) :
    Calls Tryz.prog 100 #[.int .u64 x, .int .u64 y] w fun e w' => e = .returned (.bool (amB x y)) ∧ w = w' := by
  have OC := Lib.hid (fun w' => ocmp_any x y x0 x1 y0 y1 w')
  have hcase : (ois x y = false ∧ amB x y = false) ∨ (ois x y = true ∧ amB x y = decide (ocmp x y ≤ 0)) := by
    unfold amB; cases ois x y <;> simp
  generalize amB x y = r at *
  generalize ois x y = b at *
  generalize ocmp x y = n at *
  rcases hcase with ⟨rfl, rfl⟩ | ⟨rfl, rfl⟩
  all_goals
    go_enter Tryz.func100, Tryz.ntmps100
    go_wp2_with (go_at_call 47; refine (OC.out _).mono ?_; rintro e w' ⟨rfl, rfl⟩)
    go_ret
    exact ⟨rfl, rfl⟩
/-- a nought has no sign -/
def plV (x : Int) : Int := if x = 9223372036854775808 then 0 else x
theorem plV_bd {x : Int} (x0 : 0 ≤ x) (x1 : x ≤ 18446744073709551615) : 0 ≤ plV x ∧ plV x ≤ 18446744073709551615 := by unfold plV; split <;> omega
theorem plain_any (x : Int) (w : World) :
    Calls Tryz.prog 41 #[.int .u64 x] w fun e w' => e = .returned (.int .u64 (plV x)) ∧ w = w' := by
  have hcase : ((x == 9223372036854775808) = true ∧ plV x = 0) ∨ ((x == 9223372036854775808) = false ∧ plV x = x) := by
    unfold plV
    by_cases h : x = 9223372036854775808
    · left; rw [if_pos h]; exact ⟨by rw [beq_iff_eq]; exact h, rfl⟩
    · right; rw [if_neg h]; exact ⟨by rw [beq_eq_false_iff_ne]; exact h, rfl⟩
  rcases hcase with ⟨h, e⟩ | ⟨h, e⟩
  all_goals
    rw [e]; clear e
    go_enter Tryz.func41, Tryz.ntmps41
    go_wp2
    go_ret
    exact ⟨rfl, rfl⟩
/-- what Check says -/
def spE (lo hi : Int) : Int := if ((lo == 9223372036854775808) || ((hi == 9223372036854775808) || ((lo == 9218868437227405312) || ((hi == 18442240474082181120) || !amB lo hi)))) = true then 3 else 0
abbrev spV' (lo hi : Int) : Value := .agg #[.int .u64 lo, .int .u64 hi]
set_option maxHeartbeats 4000000 in
theorem spCheck_any (lo hi : Int) (l0 : 0 ≤ lo) (l1 : lo ≤ 18446744073709551615) (h0 : 0 ≤ hi) (h1 : hi ≤ 18446744073709551615) (w : World) :
    Calls Tryz.prog 98 #[.agg #[.int .u64 lo, .int .u64 hi]] w fun e w' => e = .returned (.int .i64 (spE lo hi)) ∧ Below w.heap.size w w' := by
  have AM := Lib.hid (fun w' => atMost_any lo hi l0 l1 h0 h1 w')
  have hcase : ((lo == 9223372036854775808) = true ∧ spE lo hi = 3) ∨ ((lo == 9223372036854775808) = false ∧ (hi == 9223372036854775808) = true ∧ spE lo hi = 3) ∨
      ((lo == 9223372036854775808) = false ∧ (hi == 9223372036854775808) = false ∧ (lo == 9218868437227405312) = true ∧ spE lo hi = 3) ∨
      ((lo == 9223372036854775808) = false ∧ (hi == 9223372036854775808) = false ∧ (lo == 9218868437227405312) = false ∧ (hi == 18442240474082181120) = true ∧ spE lo hi = 3) ∨
      ((lo == 9223372036854775808) = false ∧ (hi == 9223372036854775808) = false ∧ (lo == 9218868437227405312) = false ∧ (hi == 18442240474082181120) = false ∧ amB lo hi = false ∧ spE lo hi = 3) ∨
      ((lo == 9223372036854775808) = false ∧ (hi == 9223372036854775808) = false ∧ (lo == 9218868437227405312) = false ∧ (hi == 18442240474082181120) = false ∧ amB lo hi = true ∧ spE lo hi = 0) := by
    unfold spE
    generalize (lo == 9223372036854775808) = b1
    generalize (hi == 9223372036854775808) = b2
    generalize (lo == 9218868437227405312) = b3
    generalize (hi == 18442240474082181120) = b4
    generalize amB lo hi = b5
    cases b1 <;> cases b2 <;> cases b3 <;> cases b4 <;> cases b5 <;> simp
  generalize amB lo hi = am at *
  generalize spE lo hi = E at *
  rcases hcase with ⟨k1, rfl⟩ | ⟨k1, k2, rfl⟩ | ⟨k1, k2, k3, rfl⟩ | ⟨k1, k2, k3, k4, rfl⟩ | ⟨k1, k2, k3, k4, rfl, rfl⟩ | ⟨k1, k2, k3, k4, rfl, rfl⟩
  all_goals
    go_enter Tryz.func98, Tryz.ntmps98
    go_wp2_with (go_at_call 100; refine (AM.out _).mono ?_; rintro e w' ⟨rfl, rfl⟩)
    go_ret
    exact ⟨rfl, by go_grown⟩
/-- a struct of two in a block -/
def Bx2 (w : World) (b : Nat) (T : TypeId) (x y : Value) : Prop := w.heap[b]? = some (.cells #[x, y] T (0, 0))
theorem Bx2.new (w : World) (x y : Value) (T : TypeId) : Bx2 (w.alloc (.cells #[x, y] T)) w.heap.size T x y := heap_alloc_new w _
theorem Bx2.new2 (w : World) (o : Obj) (x y : Value) (T : TypeId) : Bx2 ((w.alloc o).alloc (.cells #[x, y] T)) (w.heap.size + 1) T x y := by
  have := Bx2.new (w.alloc o) x y T
  rwa [size_alloc] at this
theorem Bx2.lt {w : World} {b : Nat} {T : TypeId} {x y : Value} (h : Bx2 w b T x y) : b < w.heap.size := (Array.getElem?_eq_some_iff.1 h).1
theorem Bx2.below {w w' : World} {b : Nat} {T : TypeId} {x y : Value} (h : Bx2 w b T x y) (hb : Below w.heap.size w w') : Bx2 w' b T x y := (hb.block b h.lt).trans h
theorem Bx2.alloc {w : World} {b : Nat} {T : TypeId} {x y : Value} (h : Bx2 w b T x y) (o : Obj) : Bx2 (w.alloc o) b T x y := h.below ((Below.refl _ _).alloc (Nat.le_refl _) o)
theorem Bx2.cells {w : World} {b : Nat} {T : TypeId} {x y : Value} (h : Bx2 w b T x y) :
    w.cell? ⟨b, 0, none⟩ = some x ∧ w.cell? ⟨b, 1, none⟩ = some y ∧ w.frozen? ⟨b, 0, none⟩ = false ∧ w.frozen? ⟨b, 1, none⟩ = false := by
  unfold Bx2 at h
  refine ⟨?_, ?_, ?_, ?_⟩ <;> simp [World.cell?, World.frozen?, h, Array.getElem?_eq_getElem]
/-- of two -/
def spE2 (a b c d : Int) : Int := if spE a b = 0 then spE c d else spE a b
set_option maxHeartbeats 4000000 in
theorem spcheck_any (a b c d : Int) (a0 : 0 ≤ a) (a1 : a ≤ 18446744073709551615) (b0 : 0 ≤ b) (b1 : b ≤ 18446744073709551615) (c0 : 0 ≤ c) (c1 : c ≤ 18446744073709551615) (d0 : 0 ≤ d) (d1 : d ≤ 18446744073709551615) (w : World) :
    Calls Tryz.prog 39 #[.agg #[.int .u64 a, .int .u64 b], .agg #[.int .u64 c, .int .u64 d]] w fun e w' => e = .returned (.int .i64 (spE2 a b c d)) ∧ Below w.heap.size w w' := by
  have C1 := Lib.hid (fun w' => spCheck_any a b a0 a1 b0 b1 w')
  have C2 := Lib.hid (fun w' => spCheck_any c d c0 c1 d0 d1 w')
  have hcase : ((spE a b != 0) = true ∧ spE2 a b c d = spE a b) ∨ ((spE a b != 0) = false ∧ spE2 a b c d = spE c d) := by
    unfold spE2
    by_cases h : spE a b = 0
    · right; rw [if_pos h]; exact ⟨by rw [bne_eq_false_iff_eq]; exact h, rfl⟩
    · left; rw [if_neg h]; exact ⟨by rw [bne_iff_ne]; exact h, rfl⟩
  generalize spE2 a b c d = R at *
  generalize spE a b = E at *
  generalize spE c d = F at *
  rcases hcase with ⟨k1, rfl⟩ | ⟨k1, rfl⟩
  all_goals
    go_enter Tryz.func39, Tryz.ntmps39
    go_wp2_with fail
    refine (C1.out _).mono ?_
    rintro e w1 ⟨rfl, hb⟩
    have X := Lib.hid ((Bx2.new2 w (.cells #[.int .u64 a, .int .u64 b] 24) (.int .u64 c) (.int .u64 d) 24).below hb)
    have B1 := Lib.hid (bl_thru (bl_alloc2 w (.cells #[.int .u64 a, .int .u64 b] 24) (.cells #[.int .u64 c, .int .u64 d] 24)) (Nat.le_refl _) hb)
    clear hb
    obtain ⟨q0, q1, -, -⟩ := X.out.cells
    go_wp2_with fail
    first
      | (go_ret
         exact ⟨rfl, B1.out⟩)
      | (refine (C2.out _).mono ?_
         rintro e w2 ⟨rfl, hb⟩
         have B2 := Lib.hid (bl_thru B1.out (Nat.le_refl _) hb)
         clear hb
         go_wp2
         go_ret
         exact ⟨rfl, B2.out⟩)
end Go.Proofs.YtmpdbmaokbhcjaaGreatDoor

/-
  THE WALKS of span.has, Has, Within.
-/
namespace Go.Proofs.YtmpdbmaokbhcjaaGreatDoor
open Go.RowKit Nt Fm Fl

/-- between the ends -/
def hasB (lo hi x : Int) : Bool := amB lo x && amB x hi
/-- a valid span, a number, between its ends -/
def HasB (lo hi x : Int) : Bool := decide (spE lo hi = 0) && (hasV x && hasB lo hi x)
/-- a part of the other one -/
def wiB (a b c d : Int) : Bool := decide (spE2 a b c d = 0) && (amB c a && amB b d)
end Go.Proofs.YtmpdbmaokbhcjaaGreatDoor
