/-
  PLAIN: e to a number from -1 to 0: the partial sums are by turns above and below.
-/
import Derived.Test.YtmpdbmaokbhcjaaDoorEab
set_option linter.unusedVariables false
namespace Go.Proofs.YtmpdbmaokbhcjaaDoor.Ea

theorem tm_dec {x : Rat} (h0 : 0 ≤ x) (h1 : x ≤ 1) (k : Nat) : tm x (k + 1) ≤ tm x k := by
  have a := tm_step x k
  have b := tm_nonneg h0 k
  have c := tm_nonneg h0 (k + 1)
  have d : (1 : Rat) ≤ ((k + 1 : Nat) : Rat) := by
    have := Rat.natCast_le_natCast.2 (show 1 ≤ k + 1 by omega)
    exact this
  have e := Rat.mul_le_mul_of_nonneg_right h1 b
  have f := Rat.mul_le_mul_of_nonneg_right d c
  grind
theorem tm_alt (x : Rat) : ∀ k, tm (-x) (2 * k) = tm x (2 * k) ∧ tm (-x) (2 * k + 1) = -tm x (2 * k + 1)
  | 0 => by
    refine ⟨rfl, ?_⟩
    show tm (-x) 0 * -x / _ = -(tm x 0 * x / _)
    rw [Rat.div_def, Rat.div_def]
    show 1 * -x * _ = -(1 * x * _)
    grind
  | k + 1 => by
    obtain ⟨-, h⟩ := tm_alt x k
    have e1 : tm (-x) (2 * (k + 1)) = tm x (2 * (k + 1)) := by
      show tm (-x) (2 * k + 1) * -x / ((2 * k + 1 + 1 : Nat) : Rat) = tm x (2 * k + 1) * x / ((2 * k + 1 + 1 : Nat) : Rat)
      rw [h, Rat.div_def, Rat.div_def]; grind
    refine ⟨e1, ?_⟩
    show tm (-x) (2 * (k + 1)) * -x / ((2 * (k + 1) + 1 : Nat) : Rat) = -(tm x (2 * (k + 1)) * x / ((2 * (k + 1) + 1 : Nat) : Rat))
    rw [e1, Rat.div_def, Rat.div_def]; grind
/-- where the partial sums lie -/
theorem alt_in {x : Rat} (h0 : 0 ≤ x) (h1 : x ≤ 1) : ∀ (j i : Nat),
    (E (-x) (2 * i) ≤ E (-x) (2 * i + j) ∧ E (-x) (2 * i + j) ≤ E (-x) (2 * i) + tm x (2 * i)) ∧
    (E (-x) (2 * i + 1 + j) ≤ E (-x) (2 * i + 1) ∧ E (-x) (2 * i + 1) ≤ E (-x) (2 * i + 1 + j) + tm x (2 * i + 1))
  | 0, i => by
    have a := tm_nonneg h0 (2 * i)
    have b := tm_nonneg h0 (2 * i + 1)
    simp only [Nat.add_zero]
    refine ⟨⟨?_, ?_⟩, ?_, ?_⟩ <;> grind
  | j + 1, i => by
    obtain ⟨-, p1, p2⟩ := alt_in h0 h1 j i
    obtain ⟨⟨q1, q2⟩, -⟩ := alt_in h0 h1 j (i + 1)
    have e1 : E (-x) (2 * i + 1) = E (-x) (2 * i) + tm x (2 * i) := by
      show E (-x) (2 * i) + tm (-x) (2 * i) = _
      rw [(tm_alt x i).1]
    have e2 : E (-x) (2 * (i + 1)) = E (-x) (2 * i + 1) - tm x (2 * i + 1) := by
      show E (-x) (2 * i + 1) + tm (-x) (2 * i + 1) = _
      rw [(tm_alt x i).2]; grind
    have d1 := tm_dec h0 h1 (2 * i)
    have d2 := tm_dec h0 h1 (2 * i + 1)
    rw [show 2 * i + (j + 1) = 2 * i + 1 + j by omega, show 2 * i + 1 + (j + 1) = 2 * (i + 1) + j by omega]
    rw [show 2 * i + 1 + 1 = 2 * (i + 1) by omega] at d2
    refine ⟨⟨?_, ?_⟩, ?_, ?_⟩ <;> grind
theorem alt_ge {x : Rat} (h0 : 0 ≤ x) (h1 : x ≤ 1) {i n : Nat} (h : 2 * i ≤ n) : E (-x) (2 * i) ≤ E (-x) n := by
  have := (alt_in h0 h1 (n - 2 * i) i).1.1
  rw [show 2 * i + (n - 2 * i) = n by omega] at this; exact this
theorem alt_le {x : Rat} (h0 : 0 ≤ x) (h1 : x ≤ 1) {i n : Nat} (h : 2 * i + 1 ≤ n) : E (-x) n ≤ E (-x) (2 * i + 1) := by
  have := (alt_in h0 h1 (n - (2 * i + 1)) i).2.1
  rw [show 2 * i + 1 + (n - (2 * i + 1)) = n by omega] at this; exact this
theorem alt_nonneg {x : Rat} (h0 : 0 ≤ x) (h1 : x ≤ 1) (n : Nat) : 0 ≤ E (-x) n := by
  have := alt_ge h0 h1 (i := 0) (n := n) (by omega)
  exact this
theorem alt_one {x : Rat} (h0 : 0 ≤ x) (h1 : x ≤ 1) (n : Nat) : E (-x) n ≤ 1 := by
  cases n with
  | zero => show (0 : Rat) ≤ 1; decide
  | succ n =>
    have := alt_le h0 h1 (i := 0) (n := n + 1) (by omega)
    rw [show 2 * 0 + 1 = 1 from rfl, E_one] at this; exact this
theorem E_split (x : Rat) (m k : Nat) : E x (m + k) = E x m + su (fun i => tm x (m + i)) k := by
  induction k with
  | zero => rw [su_nil, Rat.add_zero]; rfl
  | succ k ih => show E x (m + k) + tm x (m + k) = _; rw [ih, su_succ]; grind
theorem one_su {x : Rat} (m : Nat) : (1 : Rat) = su (fun i => tm x i * E (-x) (m + 1 - i)) (m + 1) := by
  have := E_sum x (-x) (m + 1)
  rw [← this, show x + -x = 0 by grind, E_zero]
theorem su_split (f : Nat → Rat) (m k : Nat) : su f (m + k) = su f m + su (fun i => f (m + i)) k := by
  induction k with
  | zero => rw [su_nil, Rat.add_zero]; rfl
  | succ k ih => show su f (m + k) + f (m + k) = _; rw [ih, su_succ]; grind
/-- an even number of terms is no more -/
theorem alt_lo {x : Rat} (h0 : 0 ≤ x) (h1 : x ≤ 1) (i : Nat) : Lo (-x) (E (-x) (2 * i)) := by
  right
  refine ⟨0, x, Rat.le_refl, h0, by grind, ?_⟩
  intro z hz n
  have hz1 : 1 ≤ z := hz.one_le
  have A := alt_nonneg h0 h1 (2 * i)
  cases n with
  | zero => show _ * (0 : Rat) ≤ z; grind
  | succ n =>
    have e := one_su (x := x) (n + 2 * i)
    rw [show n + 2 * i + 1 = (n + 1) + 2 * i by omega, su_split] at e
    have t1 : su (fun j => E (-x) (2 * i) * tm x j) (n + 1) ≤ su (fun j => tm x j * E (-x) (n + 1 + 2 * i - j)) (n + 1) := su_le (fun j hj => by
      have := Rat.mul_le_mul_of_nonneg_left (alt_ge h0 h1 (i := i) (n := n + 1 + 2 * i - j) (by omega)) (tm_nonneg h0 j)
      grind)
    have t2 : 0 ≤ su (fun j => tm x (n + 1 + j) * E (-x) (n + 1 + 2 * i - (n + 1 + j))) (2 * i) := by
      have := su_le (f := fun _ => 0) (g := fun j => tm x (n + 1 + j) * E (-x) (n + 1 + 2 * i - (n + 1 + j))) (n := 2 * i) (fun j hj => Rat.mul_nonneg (tm_nonneg h0 _) (alt_nonneg h0 h1 _))
      have z0 : ∀ n, su (fun _ => 0) n = 0 := fun n => by
        induction n with
        | zero => rfl
        | succ n ih => rw [su_succ, ih]; exact Rat.add_zero 0
      rw [z0] at this; exact this
    rw [su_mul, ← E_su] at t1
    grind
/-- an odd one no less -/
theorem alt_hi {x : Rat} (h0 : 0 ≤ x) (h1 : x ≤ 1) (i : Nat) : Hi (-x) (E (-x) (2 * i + 1)) := by
  refine ⟨0, x, Rat.le_refl, h0, by grind, ?_⟩
  intro z hz n
  have B0 := alt_nonneg h0 h1 (2 * i + 1)
  have key : 1 ≤ E (-x) (2 * i + 1) * z := by
    refine Rat.not_lt.1 fun hlt => ?_
    obtain ⟨η, hη⟩ : ∃ η, η = (1 - E (-x) (2 * i + 1) * z) / 2 := ⟨_, rfl⟩
    have e2 : η * 2 = 1 - E (-x) (2 * i + 1) * z := by rw [hη]; exact Rat.div_mul_cancel (by decide)
    obtain ⟨m, z', hm, hz', hg⟩ := gap h0 (η := η) (by grind)
    obtain ⟨m, rfl⟩ : ∃ m', m = m' + 1 := ⟨m - 1, by omega⟩
    have e := one_su (x := x) (m + (2 * i + 1))
    rw [show m + (2 * i + 1) + 1 = (m + 1) + (2 * i + 1) by omega, su_split] at e
    have t1 : su (fun j => tm x j * E (-x) (m + 1 + (2 * i + 1) - j)) (m + 1) ≤ su (fun j => E (-x) (2 * i + 1) * tm x j) (m + 1) := su_le (fun j hj => by
      have := Rat.mul_le_mul_of_nonneg_left (alt_le h0 h1 (i := i) (n := m + 1 + (2 * i + 1) - j) (by omega)) (tm_nonneg h0 j)
      grind)
    have t2 : su (fun j => tm x (m + 1 + j) * E (-x) (m + 1 + (2 * i + 1) - (m + 1 + j))) (2 * i + 1) ≤ su (fun j => tm x (m + 1 + j)) (2 * i + 1) := su_le (fun j hj => by
      have := Rat.mul_le_mul_of_nonneg_left (alt_one h0 h1 (m + 1 + (2 * i + 1) - (m + 1 + j))) (tm_nonneg h0 (m + 1 + j))
      grind)
    rw [su_mul, ← E_su] at t1
    have t3 := E_split x (m + 1) (2 * i + 1)
    have t4 := hz' (m + 1 + (2 * i + 1))
    have t5 := Rat.mul_le_mul_of_nonneg_left (hz (m + 1)) B0
    grind
  have : E 0 n ≤ 1 := by
    cases n with
    | zero => show (0 : Rat) ≤ 1; decide
    | succ n => rw [E_zero]; exact Rat.le_refl
  exact Rat.le_trans this key
end Go.Proofs.YtmpdbmaokbhcjaaDoor.Ea
