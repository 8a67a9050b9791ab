/-
  THE WALKS of span.has, Has, Within.
-/
import Derived.Test.YtfnchcogdmpojaaDoorSn
set_option linter.unusedVariables false
set_option linter.unusedSimpArgs false
namespace Go.Proofs.YtfnchcogdmpojaaDoor
open Go.RowKit Nt Fm Fl

/-- between the ends -/
def hasB (lo hi x : Int) : Bool := amB lo x && amB x hi
set_option maxHeartbeats 4000000 in
theorem sphas_any (a b x : Int) (a0 : 0 ≤ a) (a1 : a ≤ 18446744073709551615) (b0 : 0 ≤ b) (b1 : b ≤ 18446744073709551615) (x0 : 0 ≤ x) (x1 : x ≤ 18446744073709551615) (w : World) :
    Calls Tryd.prog 45 #[.agg #[.int .u64 a, .int .u64 b], .int .u64 x] w fun e w' => e = .returned (.bool (hasB a b x)) ∧ Below w.heap.size w w' := by
  have A1 := Lib.hid (fun w' => atMost_any a x a0 a1 x0 x1 w')
  have A2 := Lib.hid (fun w' => atMost_any x b x0 x1 b0 b1 w')
  have hcase : (amB a x = false ∧ hasB a b x = false) ∨ (amB a x = true ∧ hasB a b x = amB x b) := by
    unfold hasB; cases amB a x <;> simp
  generalize hasB a b x = r at *
  generalize amB a x = m at *
  generalize amB x b = n at *
  rcases hcase with ⟨rfl, rfl⟩ | ⟨rfl, rfl⟩
  all_goals
    go_enter Tryd.func45, Tryd.ntmps45
    go_wp2_with (go_at_call 43; first | ((with_reducible refine (A1.out _).mono ?_); rintro e w' ⟨rfl, rfl⟩) | ((with_reducible refine (A2.out _).mono ?_); rintro e w' ⟨rfl, rfl⟩))
    go_ret
    exact ⟨rfl, by go_grown⟩
/-- a valid span, a number, between its ends -/
def HasB (lo hi x : Int) : Bool := decide (spE lo hi = 0) && (hasV x && hasB lo hi x)
set_option maxHeartbeats 4000000 in
theorem spHas_any (a b x : Int) (a0 : 0 ≤ a) (a1 : a ≤ 18446744073709551615) (b0 : 0 ≤ b) (b1 : b ≤ 18446744073709551615) (x0 : 0 ≤ x) (x1 : x ≤ 18446744073709551615) (w : World) :
    Calls Tryd.prog 16 #[.agg #[.int .u64 a, .int .u64 b], .int .u64 x] w fun e w' => e = .returned (.bool (HasB a b x)) ∧ Below w.heap.size w w' := by
  have C1 := Lib.hid (fun w' => spCheck_any a b a0 a1 b0 b1 w')
  have HV := Lib.hid (fun w' => hasValue_any x x0 x1 w')
  have HH := Lib.hid (fun w' => sphas_any a b x a0 a1 b0 b1 x0 x1 w')
  have hcase : ((spE a b == 0) = false ∧ HasB a b x = false) ∨ ((spE a b == 0) = true ∧ hasV x = false ∧ HasB a b x = false) ∨ ((spE a b == 0) = true ∧ hasV x = true ∧ HasB a b x = hasB a b x) := by
    unfold HasB
    by_cases h : spE a b = 0
    · right
      cases hasV x <;> simp [h]
    · left; simp [h]
  generalize HasB a b x = r at *
  generalize hasB a b x = q at *
  generalize hasV x = v at *
  generalize spE a b = E at *
  rcases hcase with ⟨k1, rfl⟩ | ⟨k1, rfl, rfl⟩ | ⟨k1, rfl, rfl⟩
  all_goals
    go_enter Tryd.func16, Tryd.ntmps16
    go_wp2_with fail
    refine (C1.out _).mono ?_
    rintro e w1 ⟨rfl, hb⟩
    have X := Lib.hid ((Bx2.new w (.int .u64 a) (.int .u64 b) 24).below hb)
    have B1 := Lib.hid (bl_thru ((Below.refl w.heap.size w).alloc (Nat.le_refl _) (.cells #[.int .u64 a, .int .u64 b] 24)) (Nat.le_refl _) hb)
    clear hb
    obtain ⟨q0, q1, -, -⟩ := X.out.cells
    go_wp2_with (go_at_call 44; refine (HV.out _).mono ?_; rintro e w' ⟨rfl, rfl⟩)
    first
      | (go_ret
         exact ⟨rfl, B1.out⟩)
      | (refine (HH.out _).mono ?_
         rintro e w2 ⟨rfl, hb⟩
         have B2 := Lib.hid (bl_thru B1.out (Nat.le_refl _) hb)
         clear hb
         go_wp2
         go_ret
         exact ⟨rfl, B2.out⟩)
/-- a part of the other one -/
def wiB (a b c d : Int) : Bool := decide (spE2 a b c d = 0) && (amB c a && amB b d)
set_option maxHeartbeats 4000000 in
theorem spWithin_any (a b c d : Int) (a0 : 0 ≤ a) (a1 : a ≤ 18446744073709551615) (b0 : 0 ≤ b) (b1 : b ≤ 18446744073709551615) (c0 : 0 ≤ c) (c1 : c ≤ 18446744073709551615) (d0 : 0 ≤ d) (d1 : d ≤ 18446744073709551615) (w : World) :
    Calls Tryd.prog 14 #[.agg #[.int .u64 a, .int .u64 b], .agg #[.int .u64 c, .int .u64 d]] w fun e w' => e = .returned (.tuple #[.bool (wiB a b c d), .int .i64 (spE2 a b c d)]) ∧ Below w.heap.size w w' := by
  have C1 := Lib.hid (fun w' => spcheck_any a b c d a0 a1 b0 b1 c0 c1 d0 d1 w')
  have A1 := Lib.hid (fun w' => atMost_any c a c0 c1 a0 a1 w')
  have A2 := Lib.hid (fun w' => atMost_any b d b0 b1 d0 d1 w')
  have hcase : ((spE2 a b c d != 0) = true ∧ wiB a b c d = false) ∨ (spE2 a b c d = 0 ∧ amB c a = false ∧ wiB a b c d = false) ∨ (spE2 a b c d = 0 ∧ amB c a = true ∧ wiB a b c d = amB b d) := by
    unfold wiB
    by_cases h : spE2 a b c d = 0
    · right
      cases amB c a <;> simp [h]
    · left; simp [h]
  generalize wiB a b c d = r at *
  generalize spE2 a b c d = E at *
  generalize amB c a = m at *
  generalize amB b d = n at *
  rcases hcase with ⟨k1, rfl⟩ | ⟨rfl, rfl, rfl⟩ | ⟨rfl, rfl, rfl⟩
  all_goals
    go_enter Tryd.func14, Tryd.ntmps14
    go_wp2_with fail
    refine (C1.out _).mono ?_
    rintro e w1 ⟨rfl, hb⟩
    have X := Lib.hid (((Bx2.new w (.int .u64 a) (.int .u64 b) 24).alloc (.cells #[.int .u64 c, .int .u64 d] 24)).below hb)
    have Y := Lib.hid ((Bx2.new2 w (.cells #[.int .u64 a, .int .u64 b] 24) (.int .u64 c) (.int .u64 d) 24).below hb)
    have B1 := Lib.hid (bl_thru (bl_alloc2 w (.cells #[.int .u64 a, .int .u64 b] 24) (.cells #[.int .u64 c, .int .u64 d] 24)) (Nat.le_refl _) hb)
    clear hb
    obtain ⟨q0, q1, -, -⟩ := X.out.cells
    obtain ⟨p0, p1, -, -⟩ := Y.out.cells
    go_wp2_with (go_at_call 43; first | ((with_reducible refine (A1.out _).mono ?_); rintro e w' ⟨rfl, rfl⟩) | ((with_reducible refine (A2.out _).mono ?_); rintro e w' ⟨rfl, rfl⟩))
    go_ret2
    exact ⟨rfl, B1.out⟩
end Go.Proofs.YtfnchcogdmpojaaDoor
