/-
  THE WALK of the law NatRing.
-/
import Derived.Test.YtgbkaamgobnhbaaDoorNlv
set_option linter.unusedVariables false
set_option linter.unusedSimpArgs false
namespace Go.Proofs.YtgbkaamgobnhbaaDoor
open Go.RowKit Nt Fm

theorem below_drewN {w w' : World} {n : Nat} (h : w' = w.drewN n) : Below w.heap.size w w' := by subst h; exact below_to_drewN (Below.refl _ _)
theorem eqT (va vb : Value) (a b : Nat) (w : World) (h : a = b) (ha : NV w va a) (hb : NV w vb b) :
    Calls Tryd.prog 15 #[va, vb] w fun e w' => e = .returned (.bool true) ∧ Below w.heap.size w w' := by
  have := equal_any va vb a b w ha hb
  rw [decide_eq_true h] at this
  exact this.mono fun e w' ⟨h1, n, h2⟩ => ⟨h1, below_drewN h2⟩
theorem okB2 (x0 x1 : Int) (w : World) (b : Nat) (hb : b = w.heap.size) :
    Calls Tryd.prog 13 #[.slice (some ⟨b, 0, none⟩) 2 2] (w.alloc (.cells #[.int .i64 x0, .int .i64 x1] 23)) fun e w' => e = .returned (.bool (ok2 x0 x1)) ∧ Below w.heap.size w w' :=
  (ok_new2 x0 x1 w b hb).mono fun e w' ⟨h1, h2⟩ => ⟨h1, by subst h2; exact (Below.refl _ w).alloc (Nat.le_refl _) _⟩
theorem okB3 (x0 x1 x2 : Int) (w : World) (b : Nat) (hb : b = w.heap.size) :
    Calls Tryd.prog 13 #[.slice (some ⟨b, 0, none⟩) 3 3] (w.alloc (.cells #[.int .i64 x0, .int .i64 x1, .int .i64 x2] 23)) fun e w' => e = .returned (.bool (ok3 x0 x1 x2)) ∧ Below w.heap.size w w' :=
  (ok_new3 x0 x1 x2 w b hb).mono fun e w' ⟨h1, h2⟩ => ⟨h1, by subst h2; exact (Below.refl _ w).alloc (Nat.le_refl _) _⟩
theorem okB4 (x0 x1 x2 x3 : Int) (w : World) (b : Nat) (hb : b = w.heap.size) :
    Calls Tryd.prog 13 #[.slice (some ⟨b, 0, none⟩) 4 4] (w.alloc (.cells #[.int .i64 x0, .int .i64 x1, .int .i64 x2, .int .i64 x3] 23)) fun e w' => e = .returned (.bool (ok4 x0 x1 x2 x3)) ∧ Below w.heap.size w w' :=
  (ok_new4 x0 x1 x2 x3 w b hb).mono fun e w' ⟨h1, h2⟩ => ⟨h1, by subst h2; exact (Below.refl _ w).alloc (Nat.le_refl _) _⟩
theorem okB5 (x0 x1 x2 x3 x4 : Int) (w : World) (b : Nat) (hb : b = w.heap.size) :
    Calls Tryd.prog 13 #[.slice (some ⟨b, 0, none⟩) 5 5] (w.alloc (.cells #[.int .i64 x0, .int .i64 x1, .int .i64 x2, .int .i64 x3, .int .i64 x4] 23)) fun e w' => e = .returned (.bool (ok5 x0 x1 x2 x3 x4)) ∧ Below w.heap.size w w' :=
  (ok_new5 x0 x1 x2 x3 x4 w b hb).mono fun e w' ⟨h1, h2⟩ => ⟨h1, by subst h2; exact (Below.refl _ w).alloc (Nat.le_refl _) _⟩
theorem ok2_of {a b : Int} (h : ok2 a b = true) : a = 0 ∧ b = 0 := by unfold ok2 at h; simpa using h
theorem ok3_of {a b c : Int} (h : ok3 a b c = true) : a = 0 ∧ b = 0 ∧ c = 0 := by unfold ok3 at h; simpa [and_assoc] using h
theorem ok4_of {a b c d : Int} (h : ok4 a b c d = true) : a = 0 ∧ b = 0 ∧ c = 0 ∧ d = 0 := by unfold ok4 at h; simpa [and_assoc] using h
theorem ok5_of {a b c d e : Int} (h : ok5 a b c d e = true) : a = 0 ∧ b = 0 ∧ c = 0 ∧ d = 0 ∧ e = 0 := by unfold ok5 at h; simpa [and_assoc] using h
theorem e2_turn (x y : Int) : (e2 x y == 0) = (e2 y x == 0) := by
  rw [Bool.eq_iff_iff, beq_iff_eq, beq_iff_eq, e2_zero, e2_zero, and_comm]
theorem or0_turn (x y : Int) (n : Nat) : or0 (e2 x y) n = or0 (e2 y x) n := by
  unfold e2 or0
  by_cases h1 : x = 0 <;> by_cases h2 : y = 0 <;> simp [h1, h2]
end Go.Proofs.YtgbkaamgobnhbaaDoor
