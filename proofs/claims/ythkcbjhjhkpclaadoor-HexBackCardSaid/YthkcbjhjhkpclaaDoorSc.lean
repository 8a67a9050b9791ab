/-
  THE WALKS of decimal.scaled, (*ratio).round.
-/
import Derived.Test.YthkcbjhjhkpclaaDoorPw
import Derived.Test.YthkcbjhjhkpclaaDoorDn
import Derived.Test.YthkcbjhjhkpclaaDoorDa
import Derived.Test.YthkcbjhjhkpclaaDoorOv
import Derived.Test.YthkcbjhjhkpclaaDoorNa
import Derived.Test.YthkcbjhjhkpclaaDoorBd
set_option linter.unusedVariables false
set_option linter.unusedSimpArgs false
namespace Go.Proofs.YthkcbjhjhkpclaaDoor
open Go.RowKit Nt Fm Fl

theorem ten_lt (n : Nat) : 10 ^ n < 2 ^ (4 * n + 1) := by
  have h : 10 ^ n ≤ 16 ^ n := Nat.pow_le_pow_left (by omega) n
  rw [show (16 : Nat) = 2 ^ 4 by decide, ← Nat.pow_mul] at h
  rw [Nat.pow_succ]
  have := Nat.two_pow_pos (4 * n)
  omega
theorem pow10_any (n : Nat) (X : Int) (w : World) (hX : X = (n : Int)) (hn : n ≤ 20000) :
    Calls Tryd.prog 47 #[.int .u64 10, .int .i64 X] w (RetNV w (10 ^ n)) := by
  subst hX
  have := pow_any 10 n (4 * n + 1) w (by omega) (by omega) (by omega) (ten_lt n) (by omega)
  simpa using this
theorem dN_lt (d : D) (t : Int) {kd : Nat} (h : d.m < 2 ^ kd) : d.m * 10 ^ t.toNat < 2 ^ (kd + (4 * t.toNat + 1)) ∧ dN d t < 2 ^ (kd + (4 * t.toNat + 1) + d.e.toNat) := by
  have h1 : d.m * 10 ^ t.toNat < 2 ^ (kd + (4 * t.toNat + 1)) := by
    rw [Nat.pow_add]
    exact Nat.mul_lt_mul_of_lt_of_le h (Nat.le_of_lt (ten_lt _)) (Nat.two_pow_pos _)
  refine ⟨h1, ?_⟩
  unfold dN
  rw [Nat.pow_add 2 _ d.e.toNat]
  exact Nat.mul_lt_mul_of_pos_right h1 (Nat.two_pow_pos _)
end Go.Proofs.YthkcbjhjhkpclaaDoor
