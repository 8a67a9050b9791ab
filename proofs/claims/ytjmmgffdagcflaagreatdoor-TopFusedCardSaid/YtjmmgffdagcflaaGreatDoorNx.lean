/-
  SOME OF MY TEXTS in one: Nw Sq. Each says what it proves.
-/
import Derived.Test.YtjmmgffdagcflaaGreatDoorBq
import Derived.Test.YtjmmgffdagcflaaGreatDoorOv
import Derived.Test.YtjmmgffdagcflaaGreatDoorNa
set_option linter.unusedVariables false
set_option linter.unusedSimpArgs false
/-
  PLAIN: roots of whole numbers by Newton. No Go here.
-/
namespace Go.Proofs.YtjmmgffdagcflaaGreatDoor.Fm

/-- the root, rounded down -/
def isq : Nat → Nat
  | 0 => 0
  | n + 1 => if (isq n + 1) * (isq n + 1) ≤ n + 1 then isq n + 1 else isq n
theorem isq_root (n : Nat) : IsRoot n (isq n) := by
  induction n with
  | zero => exact ⟨by decide, by decide⟩
  | succ n ih =>
    obtain ⟨h1, h2⟩ := ih
    unfold isq
    split
    · rename_i h
      refine ⟨h, ?_⟩
      have e : (isq n + 1 + 1) * (isq n + 1 + 1) = (isq n + 1) * (isq n + 1) + (isq n + 1) + (isq n + 1) + 1 := by simp only [Nat.add_mul, Nat.mul_add]; omega
      omega
    · rename_i h
      exact ⟨by omega, by omega⟩
theorem root_uniq {m r s : Nat} (h : IsRoot m r) (k : IsRoot m s) : r = s := by
  have key : ∀ a b, IsRoot m a → IsRoot m b → a ≤ b := by
    intro a b ha hb
    rcases Nat.lt_or_ge b a with h1 | h1
    · have : (b + 1) * (b + 1) ≤ a * a := Nat.mul_le_mul h1 h1
      have := ha.1; have := hb.2
      omega
    · exact h1
  exact Nat.le_antisymm (key r s h k) (key s r k h)
theorem isq_of {m r : Nat} (h : IsRoot m r) : isq m = r := root_uniq (isq_root m) h
theorem isq_le_of {m x : Nat} (h : m < (x + 1) * (x + 1)) : isq m ≤ x := by
  rcases Nat.lt_or_ge x (isq m) with h1 | h1
  · have : (x + 1) * (x + 1) ≤ isq m * isq m := Nat.mul_le_mul h1 h1
    have := (isq_root m).1
    omega
  · exact h1
theorem isq_pow {m k : Nat} (h : m < 2 ^ k) : isq m < 2 ^ ((k + 1) / 2) := by
  have h1 := (isq_root m).1
  rcases Nat.lt_or_ge (isq m) (2 ^ ((k + 1) / 2)) with h2 | h2
  · exact h2
  · have h3 : 2 ^ ((k + 1) / 2) * 2 ^ ((k + 1) / 2) ≤ isq m * isq m := Nat.mul_le_mul h2 h2
    rw [← Nat.pow_add] at h3
    have h4 : 2 ^ k ≤ 2 ^ ((k + 1) / 2 + (k + 1) / 2) := Nat.pow_le_pow_right (by decide) (by omega)
    omega
/-- a step is not below the root -/
theorem newton_low {a x : Nat} (hx : 0 < x) : isq a ≤ (x + a / x) / 2 := by
  have hr := (isq_root a).1
  generalize isq a = r at *
  have h : 2 * r - x ≤ a / x := by
    rw [Nat.le_div_iff_mul_le hx]
    refine Nat.le_trans ?_ hr
    rcases Nat.lt_or_ge r x with h1 | h1
    · obtain ⟨d, rfl⟩ : ∃ d, x = r + d := ⟨x - r, by omega⟩
      rcases Nat.lt_or_ge r d with h2 | h2
      · rw [show 2 * r - (r + d) = 0 by omega]; omega
      · obtain ⟨e, rfl⟩ : ∃ e, r = d + e := ⟨r - d, by omega⟩
        rw [show 2 * (d + e) - (d + e + d) = e by omega]
        have h3 : e * (d + e + d) = e * d + e * e + e * d := by rw [Nat.mul_add, Nat.mul_add]
        have h4 : (d + e) * (d + e) = d * d + e * d + (d * e + e * e) := by rw [Nat.mul_add, Nat.add_mul, Nat.add_mul]
        have h5 : d * e = e * d := Nat.mul_comm _ _
        omega
    · obtain ⟨d, rfl⟩ : ∃ d, r = x + d := ⟨r - x, by omega⟩
      rw [show 2 * (x + d) - x = x + d + d by omega]
      have h3 : (x + d + d) * x = x * x + d * x + d * x := by rw [Nat.add_mul, Nat.add_mul]
      have h4 : (x + d) * (x + d) = x * x + d * x + (x * d + d * d) := by rw [Nat.mul_add, Nat.add_mul, Nat.add_mul]
      have h5 : x * d = d * x := Nat.mul_comm _ _
      omega
  omega
/-- where it falls no more it is the root -/
theorem newton_end {a x : Nat} (hx : isq a ≤ x) (h0 : 0 < x) (h : x ≤ (x + a / x) / 2) : x = isq a := by
  have hr := (isq_root a).2
  rcases Nat.lt_or_ge (isq a) x with h1 | h1
  · have h2 : (isq a + 1) * (isq a + 1) ≤ x * x := Nat.mul_le_mul h1 h1
    have h3 : a / x < x := by rw [Nat.div_lt_iff_lt_mul h0]; omega
    omega
  · omega
theorem newton_pos {a x : Nat} (ha : a ≠ 0) (hx : 0 < x) : 0 < (x + a / x) / 2 := by
  have h := newton_low (a := a) hx
  have h1 := (isq_root a).2
  rcases Nat.eq_zero_or_pos (isq a) with h2 | h2
  · rw [h2] at h1; omega
  · omega
end Go.Proofs.YtjmmgffdagcflaaGreatDoor.Fm

/-
  THE WALK of nat.Sqrt.
-/
namespace Go.Proofs.YtjmmgffdagcflaaGreatDoor
open Go.RowKit Nt Fm

theorem eps_nv {w : World} {v : Value} {n : Nat} (h : NV w v n) : (Classical.epsilon fun k => NV w v k) = n :=
  NV.inj (Classical.epsilon_spec (p := fun k => NV w v k) ⟨n, h⟩) h
theorem nv_one (w : World) (T : TypeId) : NV (w.alloc (.cells #[.int .u32 1] T)) (.slice (some ⟨w.heap.size, 0, none⟩) 1 1) 1 := by
  refine ⟨[1], ⟨Lims.cons (by decide) Lims.nil, by decide⟩, rfl, Lims.cons (by decide) Lims.nil, some ⟨w.heap.size, 0, none⟩, 1, rfl, by simp, by unfold maxLen; omega, Or.inr ⟨w.heap.size, 0, rfl, by simp, ?_⟩⟩
  intro i hi
  match i, hi with
  | 0, _ => simp [go_sem]
theorem blen_le {a k : Nat} (h : a < 2 ^ k) : blen a ≤ k := by
  unfold blen; split
  · omega
  · rename_i h0
    have := (Nat.log2_lt h0).2 h
    omega
theorem isq_blen (a : Nat) : isq a ≤ 2 ^ ((blen a + 1) / 2) := by
  have h : a < 2 ^ blen a := by
    unfold blen; split
    · omega
    · exact Nat.lt_log2_self
  exact Nat.le_of_lt (isq_pow h)
end Go.Proofs.YtjmmgffdagcflaaGreatDoor
