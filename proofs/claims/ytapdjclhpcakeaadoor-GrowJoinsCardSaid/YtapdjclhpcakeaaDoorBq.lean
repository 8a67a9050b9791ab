/-
  SOME OF MY TEXTS in one: Ep Er. Each says what it proves.
-/
import Derived.Test.YtapdjclhpcakeaaDoorBa
set_option linter.unusedVariables false
set_option linter.unusedSimpArgs false
/-
  PLAIN: sums of numbers that are rounded to the nearest: what is lost is a number (Dekker, Knuth, Moller). On whole numbers; no Go here.
-/
namespace Go.Proofs.YtapdjclhpcakeaaDoor.Ep

/-- a power of two that nothing works out -/
def P (n : Nat) : Nat := 2 ^ n
theorem P_pos (n : Nat) : 0 < P n := Nat.two_pow_pos _
theorem P_add (a b : Nat) : P (a + b) = P a * P b := Nat.pow_add _ _ _
theorem P_le {a b : Nat} (h : a ≤ b) : P a ≤ P b := Nat.pow_le_pow_right (by decide) h
theorem P_succ (a : Nat) : P (a + 1) = 2 * P a := by unfold P; rw [Nat.pow_succ]; omega
theorem P_lt {a b : Nat} (h : P a < P b) : a < b := (Nat.pow_lt_pow_iff_right (by decide : 1 < 2)).1 h
theorem P_dvd {a b : Nat} (h : a ≤ b) : (P a : Int) ∣ (P b : Int) := by
  obtain ⟨c, rfl⟩ : ∃ c, b = a + c := ⟨b - a, by omega⟩
  rw [P_add]; exact ⟨(P c : Int), by rw [Int.natCast_mul]⟩

/-- it is a number: no more than 2^53 times a power of two -/
def Rep (X : Int) : Prop := ∃ k : Nat, (P k : Int) ∣ X ∧ X.natAbs ≤ P (53 + k)
/-- s is a number that is nearest to z -/
def Nr (z s : Int) : Prop := Rep s ∧ ∀ f, Rep f → (z - s).natAbs ≤ (z - f).natAbs

theorem Rep.zero : Rep 0 := ⟨0, ⟨0, by simp⟩, by simp⟩
theorem Rep.neg {X : Int} (h : Rep X) : Rep (-X) := by
  obtain ⟨k, h1, h2⟩ := h
  exact ⟨k, Int.dvd_neg.2 h1, by omega⟩
theorem Rep.pow (k : Nat) : Rep (P k : Int) := ⟨k, ⟨1, by simp⟩, by rw [Int.natAbs_natCast]; exact P_le (by omega)⟩
theorem Rep.two {X : Int} (h : Rep X) : Rep (2 * X) := by
  obtain ⟨k, h1, h2⟩ := h
  refine ⟨k + 1, ?_, ?_⟩
  · rw [P_succ, Int.natCast_mul]; exact Int.mul_dvd_mul (Int.dvd_refl _) h1
  · rw [show 53 + (k + 1) = (53 + k) + 1 by omega, P_succ]; omega
theorem Nr.exact {z s : Int} (h : Nr z s) (hz : Rep z) : s = z := by
  have := h.2 z hz
  omega
theorem Nr.neg {z s : Int} (h : Nr z s) : Nr (-z) (-s) := by
  refine ⟨h.1.neg, fun f hf => ?_⟩
  have := h.2 (-f) hf.neg
  omega
/-- the order is kept -/
theorem Nr.ge {z s f : Int} (h : Nr z s) (hf : Rep f) (hz : f ≤ z) : f ≤ s := by
  have := h.2 f hf
  omega
theorem Nr.le {z s f : Int} (h : Nr z s) (hf : Rep f) (hz : z ≤ f) : s ≤ f := by
  have := h.2 f hf
  omega
/-- the place of the last bit -/
theorem grid (X : Nat) : ∃ j, X ≤ P (53 + j) ∧ (j = 0 ∨ P (52 + j) < X) := by
  have h : ∃ n, X ≤ P (53 + n) := ⟨X, by
    have : X < 2 ^ X := Nat.lt_two_pow_self
    exact Nat.le_trans (Nat.le_of_lt this) (P_le (by omega))⟩
  obtain ⟨n, hn⟩ := h
  induction n with
  | zero => exact ⟨0, hn, Or.inl rfl⟩
  | succ n ih =>
    by_cases h : X ≤ P (53 + n)
    · exact ih h
    · exact ⟨n + 1, hn, Or.inr (by rw [show 52 + (n + 1) = 53 + n by omega]; omega)⟩
theorem Rep.dvd {X : Int} (h : Rep X) {j : Nat} (hj : j = 0 ∨ P (52 + j) < X.natAbs) : (P j : Int) ∣ X := by
  obtain ⟨k, h1, h2⟩ := h
  rcases hj with hj | hj
  · subst hj; exact ⟨X, by simp [P]⟩
  · have := P_lt (Nat.lt_of_lt_of_le hj h2)
    exact Int.dvd_trans (P_dvd (by omega)) h1
theorem Rep.dvd2 {X : Int} (h : Rep X) {j : Nat} (hj : P (52 + j) ≤ X.natAbs) : (P j : Int) ∣ X := by
  by_cases h1 : P (52 + j) < X.natAbs
  · exact h.dvd (Or.inr h1)
  · have h2 : X = (P (52 + j) : Int) ∨ X = -(P (52 + j) : Int) := by omega
    rcases h2 with h2 | h2
    · rw [h2]; exact P_dvd (by omega)
    · rw [h2]; exact Int.dvd_neg.2 (P_dvd (by omega))
theorem dvd_of_abs {A B : Int} (hA : Rep A) (h : B.natAbs ≤ A.natAbs) {j : Nat} (hj : j = 0 ∨ P (52 + j) < B.natAbs) : (P j : Int) ∣ A :=
  hA.dvd (by rcases hj with h1 | h1 <;> omega)
/-- of two the sum of which is no farther from 0 than each -/
theorem rep_small {A B : Int} (hA : Rep A) (hB : Rep B) (h1 : (A + B).natAbs ≤ A.natAbs) (h2 : (A + B).natAbs ≤ B.natAbs) : Rep (A + B) := by
  rcases Nat.le_total A.natAbs B.natAbs with h | h
  · obtain ⟨j, g1, g2⟩ := grid A.natAbs
    exact ⟨j, Int.dvd_add (hA.dvd g2) (dvd_of_abs hB h g2), Nat.le_trans h1 g1⟩
  · obtain ⟨j, g1, g2⟩ := grid B.natAbs
    exact ⟨j, Int.dvd_add (dvd_of_abs hA h g2) (hB.dvd g2), Nat.le_trans h2 g1⟩
/-- what is a multiple of a power of two is rounded to one -/
theorem Nr.dvd {z s : Int} (h : Nr z s) {j : Nat} (hj : (P j : Int) ∣ z) : (P j : Int) ∣ s := by
  by_cases hz : z.natAbs ≤ P (53 + j)
  · rw [h.exact ⟨j, hj, hz⟩]; exact hj
  · have h3 : P (53 + j) ≤ s.natAbs := by
      have hr := Rep.pow (53 + j)
      rcases Int.le_total 0 z with h0 | h0
      · have := h.ge hr (by omega); omega
      · have := h.le hr.neg (by omega); omega
    exact h.1.dvd2 (Nat.le_trans (P_le (by omega)) h3)
/-- what is lost is a number, and no more than either -/
theorem err {A B s : Int} (hA : Rep A) (hB : Rep B) (h : Nr (A + B) s) : Rep (A + B - s) ∧ (A + B - s).natAbs ≤ A.natAbs ∧ (A + B - s).natAbs ≤ B.natAbs := by
  have h1 : (A + B - s).natAbs ≤ A.natAbs := by have := h.2 B hB; omega
  have h2 : (A + B - s).natAbs ≤ B.natAbs := by have := h.2 A hA; omega
  refine ⟨?_, h1, h2⟩
  rcases Nat.le_total A.natAbs B.natAbs with hh | hh
  · obtain ⟨j, g1, g2⟩ := grid A.natAbs
    have d := Int.dvd_add (hA.dvd g2) (dvd_of_abs hB hh g2)
    exact ⟨j, Int.dvd_sub d (h.dvd d), Nat.le_trans h1 g1⟩
  · obtain ⟨j, g1, g2⟩ := grid B.natAbs
    have d := Int.dvd_add (dvd_of_abs hA hh g2) (hB.dvd g2)
    exact ⟨j, Int.dvd_sub d (h.dvd d), Nat.le_trans h2 g1⟩
/-- half of what the last place counts -/
theorem half {z s : Int} (h : Nr z s) {i : Nat} (hz : z.natAbs ≤ P (53 + i)) : 2 * (z - s).natAbs ≤ P i := by
  have hp := P_pos i
  have e53 : P (53 + i) = P 53 * P i := P_add _ _
  have hd : (0 : Int) < (P i : Int) := by omega
  have e1 := Int.emod_add_mul_ediv z (P i : Int)
  have m0 := Int.emod_nonneg z (show (P i : Int) ≠ 0 by omega)
  have m1 := Int.emod_lt_of_pos z hd
  generalize hq : z / (P i : Int) = q at *
  generalize z % (P i : Int) = r at *
  have q0 : -(P 53 : Int) ≤ q := by
    have : (-(P 53 : Int)) * (P i : Int) ≤ z := by
      rw [Int.neg_mul, ← Int.natCast_mul, ← e53]; omega
    rw [← hq]; exact (Int.le_ediv_iff_mul_le hd).2 this
  have q1 : q ≤ (P 53 : Int) := by
    have : z ≤ (P 53 : Int) * (P i : Int) := by rw [← Int.natCast_mul, ← e53]; omega
    have := Int.ediv_le_ediv hd this
    rw [Int.mul_ediv_cancel _ (by omega)] at this
    omega
  have rep : ∀ t : Int, -(P 53 : Int) ≤ t → t ≤ (P 53 : Int) → Rep ((P i : Int) * t) := by
    intro t a b
    refine ⟨i, ⟨t, rfl⟩, ?_⟩
    rw [Int.natAbs_mul, Int.natAbs_natCast, e53, Nat.mul_comm]
    exact Nat.mul_le_mul_right _ (by omega)
  have h1 := h.2 _ (rep q q0 q1)
  by_cases hqq : q + 1 ≤ (P 53 : Int)
  · have h2 := h.2 _ (rep (q + 1) (by omega) hqq)
    rw [Int.mul_add, Int.mul_one] at h2
    generalize (P i : Int) * q = U at *
    omega
  · have hq1 : q = (P 53 : Int) := by omega
    subst hq1
    rw [← Int.natCast_mul, Nat.mul_comm, ← e53] at e1
    rw [← Int.natCast_mul, Nat.mul_comm, ← e53] at h1
    omega

/-- Dekker: taken away from the sum, the greater one leaves a number -/
theorem fast {A B s : Int} (hA : Rep A) (hB : Rep B) (hAB : B.natAbs ≤ A.natAbs) (h : Nr (A + B) s) : Rep (s - A) := by
  obtain ⟨j, g1, g2⟩ := grid B.natAbs
  have dA : (P j : Int) ∣ A := dvd_of_abs hA hAB g2
  have dB : (P j : Int) ∣ B := hB.dvd g2
  have ds := h.dvd (Int.dvd_add dA dB)
  obtain ⟨e1, e2, e3⟩ := err hA hB h
  by_cases hd : (s - A).natAbs ≤ P (53 + j)
  · exact ⟨j, Int.dvd_sub ds dA, hd⟩
  have hzn : ¬ (A + B).natAbs ≤ P (53 + j) := by
    intro hz
    have := h.exact ⟨j, Int.dvd_add dA dB, hz⟩
    omega
  obtain ⟨i, i1, i2⟩ := grid (A + B).natAbs
  have hij : j < i := by
    have := P_lt (show P (53 + j) < P (53 + i) by omega)
    omega
  have i3 : P (52 + i) < (A + B).natAbs := by
    rcases i2 with i2 | i2
    · omega
    · exact i2
  have hh := half h i1
  have hs : P (52 + i) ≤ s.natAbs := by
    have hr := Rep.pow (52 + i)
    rcases Int.le_total 0 (A + B) with h0 | h0
    · have := h.ge hr (by omega); omega
    · have := h.le hr.neg (by omega); omega
  have dsi := h.1.dvd2 hs
  have p1 : P (53 + j) ≤ P (52 + i) := P_le (by omega)
  have p2 : P (53 + i) = 2 * P (52 + i) := by rw [show 53 + i = (52 + i) + 1 by omega, P_succ]
  have p3 : P i ≤ P (52 + i) := P_le (by omega)
  by_cases dAi : (P i : Int) ∣ A
  · exact ⟨i, Int.dvd_sub dsi dAi, by omega⟩
  · obtain ⟨i', rfl⟩ : ∃ i', i = i' + 1 := ⟨i - 1, by omega⟩
    have hA1 : ¬ P (52 + (i' + 1)) ≤ A.natAbs := fun hc => dAi (hA.dvd2 hc)
    rw [show 52 + (i' + 1) = 53 + i' by omega] at *
    have p4 : P (53 + i') = 2 * P (52 + i') := by rw [show 53 + i' = (52 + i') + 1 by omega, P_succ]
    rw [P_succ] at *
    have dAi' : (P i' : Int) ∣ A := hA.dvd (Or.inr (by omega))
    have dsi' : (P i' : Int) ∣ s := Int.dvd_trans (P_dvd (Nat.le_succ _)) (by rw [P_succ]; exact dsi)
    refine ⟨i', Int.dvd_sub dsi' dAi', ?_⟩
    have hA2 : A.natAbs + P i' ≤ P (53 + i') := by
      have e : P (53 + i') = P 53 * P i' := P_add _ _
      obtain ⟨c, hc⟩ := dAi'
      have hn : A.natAbs = P i' * c.natAbs := by rw [hc, Int.natAbs_mul, Int.natAbs_natCast]
      have hlt : c.natAbs * P i' < P 53 * P i' := by rw [← e, Nat.mul_comm, ← hn]; omega
      have h2 := Nat.mul_le_mul_right (P i') (Nat.lt_of_mul_lt_mul_right hlt)
      rw [Nat.succ_mul, ← e, Nat.mul_comm, ← hn] at h2
      exact h2
    omega
/-- the fast one -/
theorem fastSum {X Y s b r : Int} (hX : Rep X) (hY : Rep Y) (hXY : Y.natAbs ≤ X.natAbs) (h1 : Nr (X + Y) s) (h2 : Nr (s - X) b) (h3 : Nr (Y - b) r) : r = X + Y - s := by
  have e1 := h2.exact (fast hX hY hXY h1)
  subst e1
  have e := (err hX hY h1).1
  have e2 : Y - (s - X) = X + Y - s := by omega
  rw [e2] at h3
  exact h3.exact e
/-- Moller, Knuth -/
theorem twoSum {X Y s a b p q r : Int} (hX : Rep X) (hY : Rep Y) (h1 : Nr (X + Y) s) (h2 : Nr (s - Y) a) (h3 : Nr (s - a) b) (h4 : Nr (X - a) p) (h5 : Nr (Y - b) q) (h6 : Nr (p + q) r) : r = X + Y - s := by
  obtain ⟨e1, e2, e3⟩ := err hX hY h1
  by_cases hy : Rep (s - Y)
  · have ha := h2.exact hy
    subst ha
    have hb : b = Y := by have := h3.exact (z := s - (s - Y)) (by rw [show s - (s - Y) = Y by omega]; exact hY); omega
    subst hb
    have hq : q = 0 := by have := h5.exact (z := b - b) (by rw [show b - b = 0 by omega]; exact Rep.zero); omega
    subst hq
    have hp : p = X + b - s := by
      have := h4.exact (z := X - (s - b)) (by rw [show X - (s - b) = X + b - s by omega]; exact e1); omega
    subst hp
    have := h6.exact (z := X + b - s + 0) (by rw [Int.add_zero]; exact e1)
    omega
  · have hxy : Y.natAbs < X.natAbs := by
      rcases Nat.lt_or_ge Y.natAbs X.natAbs with h | h
      · exact h
      · exact absurd (fast hY hX h (by rw [Int.add_comm]; exact h1)) hy
    have hzn : ¬ Rep (X + Y) := by
      intro hz
      apply hy
      rw [h1.exact hz, show X + Y - Y = X by omega]; exact hX
    have hs : Y.natAbs ≤ s.natAbs := by
      rcases Nat.lt_or_ge s.natAbs Y.natAbs with h | h
      · exfalso; apply hzn
        have hz : (X + Y).natAbs ≤ Y.natAbs := by
          have g1 : ∀ f, Rep f → f ≤ X + Y → f ≤ s := fun f hf => h1.ge hf
          have g2 : ∀ f, Rep f → X + Y ≤ f → s ≤ f := fun f hf => h1.le hf
          have a1 := g1 Y hY; have a2 := g1 (-Y) hY.neg; have a3 := g2 Y hY; have a4 := g2 (-Y) hY.neg
          omega
        exact rep_small hX hY (by omega) hz
      · exact h
    -- the second step is a fast one
    have h2' : Nr (s + -Y) a := by rw [show s + -Y = s - Y by omega]; exact h2
    have f1 := fast h1.1 hY.neg (by omega) h2'
    obtain ⟨f2, -, -⟩ := err h1.1 hY.neg h2'
    have hb : b = s - a := h3.exact (by rw [show s - a = -(a - s) by omega]; exact f1.neg)
    subst hb
    have hq : q = Y - (s - a) := h5.exact (by rw [show Y - (s - a) = -(s + -Y - a) by omega]; exact f2.neg)
    subst hq
    have hbig : P 53 < (X + Y).natAbs := by
      rcases Nat.lt_or_ge (P 53) (X + Y).natAbs with h | h
      · exact h
      · exact absurd ⟨0, ⟨X + Y, by simp [P]⟩, h⟩ hzn
    have hXbig : P 52 < X.natAbs := by
      have : P 53 = 2 * P 52 := P_succ 52
      omega
    obtain ⟨k, k1, k2⟩ := grid X.natAbs
    have k3 : P (52 + k) < X.natAbs := by
      rcases k2 with k2 | k2
      · subst k2; exact hXbig
      · exact k2
    have p1 : P (53 + (k + 1)) = 2 * P (53 + k) := by rw [show 53 + (k + 1) = (53 + k) + 1 by omega, P_succ]
    have p2 : P (53 + (k + 2)) = 2 * P (53 + (k + 1)) := by rw [show 53 + (k + 2) = (53 + (k + 1)) + 1 by omega, P_succ]
    have p3 : P (k + 1) = 2 * P k := P_succ _
    have p4 : P (k + 2) = 2 * P (k + 1) := P_succ _
    have p5 : P (52 + k) = P 49 * (8 * P k) := by
      rw [show 52 + k = 49 + (3 + k) by omega, P_add 49, P_add 3]; rfl
    have p6 : 1 * (8 * P k) ≤ P 49 * (8 * P k) := Nat.mul_le_mul_right _ (P_pos 49)
    have u1 := half h1 (i := k + 1) (by omega)
    have hs2 : s.natAbs ≤ 2 * X.natAbs := by
      have r2 := hX.two
      have g1 : ∀ f, Rep f → f ≤ X + Y → f ≤ s := fun f hf => h1.ge hf
      have g2 : ∀ f, Rep f → X + Y ≤ f → s ≤ f := fun f hf => h1.le hf
      have a1 := g1 _ r2; have a2 := g1 _ r2.neg; have a3 := g2 _ r2; have a4 := g2 _ r2.neg
      omega
    have u2 := half h2 (i := k + 2) (by omega)
    have hp : p = X - a := h4.exact (by
      rw [show X - a = X + -a by omega]
      exact rep_small hX h2.1.neg (by omega) (by omega))
    subst hp
    have := h6.exact (z := X - a + (Y - (s - a))) (by rw [show X - a + (Y - (s - a)) = X + Y - s by omega]; exact e1)
    omega
end Go.Proofs.YtapdjclhpcakeaaDoor.Ep

/-
  PLAIN: which whole numbers are numbers; rounded to the nearest; no end is met below it. No Go here.
-/
namespace Go.Proofs.YtapdjclhpcakeaaDoor.Fm
open Go.Proofs.YtapdjclhpcakeaaDoor.Ep

theorem mag_reps : ∀ (j q : Nat), q ≤ 9007199254740992 → ∃ k, mag k = q * 2 ^ j
  | j, q, h => by
    by_cases hq : 4503599627370496 ≤ q
    · exact ⟨q + j * 4503599627370496, mag_of q j (Or.inl hq) h⟩
    · match j with
      | 0 => exact ⟨q + 0 * 4503599627370496, mag_of q 0 (Or.inr rfl) h⟩
      | j + 1 =>
        obtain ⟨k, hk⟩ := mag_reps j (2 * q) (by omega)
        exact ⟨k, by rw [hk, Nat.pow_succ, Nat.mul_comm 2 q, Nat.mul_assoc, Nat.mul_comm 2]⟩
theorem mag_part (r : Nat) : ∃ p, p ≤ 9007199254740992 ∧ mag r = p * ulp r := by
  by_cases h : r < 4503599627370496
  · refine ⟨r, by omega, ?_⟩
    unfold mag ulp; rw [if_pos h, show r / 4503599627370496 - 1 = 0 by omega, Nat.pow_zero, Nat.mul_one]
  · refine ⟨4503599627370496 + r % 4503599627370496, by omega, ?_⟩
    unfold mag ulp; rw [if_neg h]
theorem rep_mag (r : Nat) : Rep (mag r : Int) := by
  obtain ⟨p, h1, h2⟩ := mag_part r
  have e53 : P 53 = 9007199254740992 := by decide
  have eu : ulp r = P (r / 4503599627370496 - 1) := rfl
  refine ⟨r / 4503599627370496 - 1, ⟨(p : Int), ?_⟩, ?_⟩
  · rw [h2, eu, Int.natCast_mul, Int.mul_comm]
  · rw [Int.natAbs_natCast, h2, eu, P_add, e53]
    exact Nat.mul_le_mul_right _ h1
theorem rep_iff (X : Int) : Rep X ↔ ∃ r, X.natAbs = mag r := by
  constructor
  · rintro ⟨k, ⟨c, hc⟩, h2⟩
    have hn : X.natAbs = c.natAbs * P k := by rw [hc, Int.natAbs_mul, Int.natAbs_natCast, Nat.mul_comm]
    rw [hn, P_add] at h2
    have := Nat.le_of_mul_le_mul_right h2 (P_pos k)
    have e53 : P 53 = 9007199254740992 := by decide
    obtain ⟨r, hr⟩ := mag_reps k c.natAbs (by omega)
    exact ⟨r, by rw [hn, hr]; rfl⟩
  · rintro ⟨r, hr⟩
    have h := rep_mag r
    rcases Int.le_total 0 X with h0 | h0
    · rw [show X = (mag r : Int) by omega]; exact h
    · rw [show X = -(mag r : Int) by omega]; exact h.neg
/-- what is no more than a number is rounded to no more -/
theorem numk_le {t m : Nat} {e : Int} (ht : 0 ≤ e + 1074 + t) (k : Nat) {r : Nat} (hr : r < MR) (h : tt t m e ≤ mag r * 2 ^ t) : numk k m e ≤ r := by
  rcases Nat.lt_or_ge r (numk k m e) with h1 | h1
  · exfalso
    have h2 := (numk_iff ht k (r + 1)).1 h1
    have h3 := Nat.mul_lt_mul_of_pos_right (mag_lt_succ r) (Nat.two_pow_pos t)
    have er : r + 1 - 1 = r := by omega
    rcases k with _ | _ | _ | k <;> simp only [Pk, er, Nat.add_mul] at h2 <;> omega
  · exact h1
theorem numk_ge {t m : Nat} {e : Int} (ht : 0 ≤ e + 1074 + t) (k : Nat) {r : Nat} (hr : r < MR) (h : mag r * 2 ^ t ≤ tt t m e) : r ≤ numk k m e := by
  refine (numk_iff ht k r).2 ?_
  have h3 : r ≠ 0 → mag (r - 1) * 2 ^ t < mag r * 2 ^ t := fun h0 => Nat.mul_lt_mul_of_pos_right (mag_lt (by omega)) (Nat.two_pow_pos t)
  rcases k with _ | _ | _ | k <;> simp only [Pk, Nat.add_mul] <;> omega
/-- the nearest one is nearest -/
theorem numk_nearest {t m : Nat} {e : Int} (ht : 0 ≤ e + 1074 + t) (h : numk 2 m e < MR) (r : Nat) :
    ((tt t m e : Int) - ((mag (numk 2 m e) * 2 ^ t : Nat) : Int)).natAbs ≤ ((tt t m e : Int) - ((mag r * 2 ^ t : Nat) : Int)).natAbs := by
  have a := (numk_iff ht 2 _).1 (Nat.le_refl (numk 2 m e))
  have b : ¬ numk 2 m e + 1 ≤ numk 2 m e := by omega
  rw [numk_iff ht 2] at b
  have er : numk 2 m e + 1 - 1 = numk 2 m e := by omega
  simp only [Pk, er, Nat.add_mul] at a b
  have mono : ∀ {x y : Nat}, x ≤ y → mag x * 2 ^ t ≤ mag y * 2 ^ t := fun h => Nat.mul_le_mul_right _ (mag_mono h)
  have m1 := mono (show numk 2 m e - 1 ≤ numk 2 m e by omega)
  have m2 := mono (show numk 2 m e ≤ numk 2 m e + 1 by omega)
  rcases Nat.lt_trichotomy r (numk 2 m e) with h1 | h1 | h1
  · have := mono (show r ≤ numk 2 m e - 1 by omega)
    omega
  · rw [h1]; exact Nat.le_refl _
  · have := mono (show numk 2 m e + 1 ≤ r by omega)
    omega
/-- .. of a whole number with its sign -/
theorem near_nr {m : Nat} {e z s : Int} (ht : 0 ≤ e + 1074) (hz : z.natAbs = tt 0 m e) (h : numk 2 m e < MR) (hs : s.natAbs = mag (numk 2 m e)) (hsg : 0 ≤ z ∧ 0 ≤ s ∨ z ≤ 0 ∧ s ≤ 0) : Nr z s := by
  have hn := fun r => numk_nearest (t := 0) (m := m) (e := e) (by omega) h r
  simp only [Nat.pow_zero, Nat.mul_one] at hn
  refine ⟨(rep_iff s).2 ⟨_, hs⟩, fun f hf => ?_⟩
  obtain ⟨r, hr⟩ := (rep_iff f).1 hf
  have := hn r
  omega
end Go.Proofs.YtapdjclhpcakeaaDoor.Fm
