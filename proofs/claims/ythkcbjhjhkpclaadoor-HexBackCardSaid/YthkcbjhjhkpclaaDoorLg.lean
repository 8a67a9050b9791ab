/-
  THE WALKS of decimal.Log10, its closure.
-/
import Derived.Test.YthkcbjhjhkpclaaDoorDo
import Derived.Test.YthkcbjhjhkpclaaDoorFx
import Derived.Test.YthkcbjhjhkpclaaDoorNy
set_option linter.unusedVariables false
set_option linter.unusedSimpArgs false
namespace Go.Proofs.YthkcbjhjhkpclaaDoor
open Go.RowKit Nt Fm Fl

/-- is it 10^p or more? -/
def Ge10 (d : D) (p : Int) : Prop := dD d (-p) ≤ dN d (-p)
instance (d : D) (p : Int) : Decidable (Ge10 d p) := Nat.decLe _ _
theorem ge_anti {d : D} {p q : Int} (h : p ≤ q) (hq : Ge10 d q) : Ge10 d p := by
  obtain ⟨k, hk⟩ : ∃ k : Nat, -p = -q + k := ⟨(q - p).toNat, by omega⟩
  have h1 := d_shift d (-q) k
  have h2 := Nat.mul_le_mul_right (10 ^ k * dD d (-q + k)) hq
  rw [← Nat.mul_assoc (dN d (-q)), ← h1, Nat.mul_comm (dD d (-q))] at h2
  have h3 := Nat.le_of_mul_le_mul_right h2 (dD_pos d _)
  unfold Ge10
  rw [hk]
  have h4 : 1 * dD d (-q + k) ≤ 10 ^ k * dD d (-q + k) := Nat.mul_le_mul_right _ (Nat.pow_pos (by omega))
  omega
theorem isLg_iff {d : D} {p : Int} : IsLg d p ↔ Ge10 d p ∧ ¬ Ge10 d (p + 1) := by unfold IsLg Ge10; omega
theorem isLg_uniq {d : D} {p q : Int} (hp : IsLg d p) (hq : IsLg d q) : p = q := by
  rw [isLg_iff] at hp hq
  rcases Int.lt_trichotomy p q with h | h | h
  · exact absurd (ge_anti (show p + 1 ≤ q by omega) hq.1) hp.2
  · exact h
  · exact absurd (ge_anti (show q + 1 ≤ p by omega) hp.1) hq.2
/-- the p for which it is so -/
noncomputable def lgD (d : D) : Int := Classical.epsilon (IsLg d)
theorem lgD_eq {d : D} {p : Int} (h : IsLg d p) : lgD d = p := isLg_uniq (Classical.epsilon_spec ⟨p, h⟩) h
/-- a number of some size, not 0 -/
structure Mid (d : D) : Prop where
  m0 : d.m ≠ 0
  m1 : d.m < 2 ^ 64
  e0 : -1200 ≤ d.e
  e1 : d.e ≤ 1200
theorem ten_ge (a : Nat) : 2 ^ (3 * a) ≤ 10 ^ a := by rw [Nat.pow_mul]; exact Nat.pow_le_pow_left (by omega) a
theorem ten_six (a : Nat) : 2 ^ (19 * a) ≤ 10 ^ (6 * a) := by rw [Nat.pow_mul, Nat.pow_mul]; exact Nat.pow_le_pow_left (by decide) a
theorem mid_low {d : D} (h : Mid d) : Ge10 d (-400) := by
  obtain ⟨m0, m1, e0, e1⟩ := h
  unfold Ge10 dN dD
  obtain ⟨K, hK⟩ : ∃ K : Nat, K = 400 := ⟨_, rfl⟩
  rw [show (- -(400 : Int)).toNat = K by omega, show (-(- -400 : Int)).toNat = 0 by omega, Nat.pow_zero, Nat.one_mul]
  have h1 : 2 ^ (-d.e).toNat ≤ 2 ^ (3 * K) := Nat.pow_le_pow_right (by omega) (by omega)
  have h2 := ten_ge K
  have h3 : 1 * 10 ^ K * 1 ≤ d.m * 10 ^ K * 2 ^ d.e.toNat := Nat.mul_le_mul (Nat.mul_le_mul_right _ (by omega)) (Nat.two_pow_pos _)
  omega
theorem mid_high {d : D} (h : Mid d) : ¬ Ge10 d 400 := by
  obtain ⟨m0, m1, e0, e1⟩ := h
  unfold Ge10 dN dD
  obtain ⟨K, hK⟩ : ∃ K : Nat, K = 66 := ⟨_, rfl⟩
  obtain ⟨E, hE⟩ : ∃ E : Nat, E = 1200 := ⟨_, rfl⟩
  rw [show (-(400 : Int)).toNat = 0 by omega, show (-(-400 : Int)).toNat = 6 * K + 4 by omega, Nat.pow_zero, Nat.mul_one]
  have h1 : d.m * 2 ^ d.e.toNat < 2 ^ (64 + E) := by
    rw [Nat.pow_add]
    exact Nat.mul_lt_mul_of_lt_of_le m1 (Nat.pow_le_pow_right (by omega) (by omega)) (Nat.two_pow_pos _)
  have h2 : 2 ^ (64 + E) ≤ 2 ^ (19 * K + 12) := Nat.pow_le_pow_right (by omega) (by omega)
  have h3 : 2 ^ (19 * K + 12) ≤ 10 ^ (6 * K + 4) := by
    rw [Nat.pow_add, Nat.pow_add]
    exact Nat.mul_le_mul (ten_six K) (by decide)
  have h4 : 10 ^ (6 * K + 4) * 1 ≤ 10 ^ (6 * K + 4) * 2 ^ (-d.e).toNat := Nat.mul_le_mul_left _ (Nat.two_pow_pos _)
  omega
theorem blen_pos {n : Nat} (h : n ≠ 0) : 1 ≤ blen n := by unfold blen; rw [if_neg h]; omega
end Go.Proofs.YthkcbjhjhkpclaaDoor
