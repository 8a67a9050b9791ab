/-
  SOME OF MY TEXTS in one: Ep Er Qt Qr Qn. Each says what it proves.
-/
import Derived.Test.YthlocmhfjandlaaGreatDoorBa
set_option linter.unusedVariables false
set_option linter.unusedSimpArgs false
/-
  PLAIN: sums of numbers that are rounded to the nearest: what is lost is a number (Dekker, Knuth, Moller). On whole numbers; no Go here.
-/
namespace Go.Proofs.YthlocmhfjandlaaGreatDoor.Ep

/-- a power of two that nothing works out -/
def P (n : Nat) : Nat := 2 ^ n
theorem P_pos (n : Nat) : 0 < P n := Nat.two_pow_pos _
theorem P_add (a b : Nat) : P (a + b) = P a * P b := Nat.pow_add _ _ _
theorem P_le {a b : Nat} (h : a ≤ b) : P a ≤ P b := Nat.pow_le_pow_right (by decide) h
theorem P_succ (a : Nat) : P (a + 1) = 2 * P a := by unfold P; rw [Nat.pow_succ]; omega
theorem P_lt {a b : Nat} (h : P a < P b) : a < b := (Nat.pow_lt_pow_iff_right (by decide : 1 < 2)).1 h
theorem P_dvd {a b : Nat} (h : a ≤ b) : (P a : Int) ∣ (P b : Int) := by
  obtain ⟨c, rfl⟩ : ∃ c, b = a + c := ⟨b - a, by omega⟩
  rw [P_add]; exact ⟨(P c : Int), by rw [Int.natCast_mul]⟩

/-- it is a number: no more than 2^53 times a power of two -/
def Rep (X : Int) : Prop := ∃ k : Nat, (P k : Int) ∣ X ∧ X.natAbs ≤ P (53 + k)
/-- s is a number that is nearest to z -/
def Nr (z s : Int) : Prop := Rep s ∧ ∀ f, Rep f → (z - s).natAbs ≤ (z - f).natAbs

theorem Rep.zero : Rep 0 := ⟨0, ⟨0, by simp⟩, by simp⟩
theorem Rep.neg {X : Int} (h : Rep X) : Rep (-X) := by
  obtain ⟨k, h1, h2⟩ := h
  exact ⟨k, Int.dvd_neg.2 h1, by omega⟩
theorem Rep.pow (k : Nat) : Rep (P k : Int) := ⟨k, ⟨1, by simp⟩, by rw [Int.natAbs_natCast]; exact P_le (by omega)⟩
theorem Rep.two {X : Int} (h : Rep X) : Rep (2 * X) := by
  obtain ⟨k, h1, h2⟩ := h
  refine ⟨k + 1, ?_, ?_⟩
  · rw [P_succ, Int.natCast_mul]; exact Int.mul_dvd_mul (Int.dvd_refl _) h1
  · rw [show 53 + (k + 1) = (53 + k) + 1 by omega, P_succ]; omega
theorem Nr.exact {z s : Int} (h : Nr z s) (hz : Rep z) : s = z := by
  have := h.2 z hz
  omega
theorem Nr.neg {z s : Int} (h : Nr z s) : Nr (-z) (-s) := by
  refine ⟨h.1.neg, fun f hf => ?_⟩
  have := h.2 (-f) hf.neg
  omega
/-- the order is kept -/
theorem Nr.ge {z s f : Int} (h : Nr z s) (hf : Rep f) (hz : f ≤ z) : f ≤ s := by
  have := h.2 f hf
  omega
theorem Nr.le {z s f : Int} (h : Nr z s) (hf : Rep f) (hz : z ≤ f) : s ≤ f := by
  have := h.2 f hf
  omega
/-- the place of the last bit -/
theorem grid (X : Nat) : ∃ j, X ≤ P (53 + j) ∧ (j = 0 ∨ P (52 + j) < X) := by
  have h : ∃ n, X ≤ P (53 + n) := ⟨X, by
    have : X < 2 ^ X := Nat.lt_two_pow_self
    exact Nat.le_trans (Nat.le_of_lt this) (P_le (by omega))⟩
  obtain ⟨n, hn⟩ := h
  induction n with
  | zero => exact ⟨0, hn, Or.inl rfl⟩
  | succ n ih =>
    by_cases h : X ≤ P (53 + n)
    · exact ih h
    · exact ⟨n + 1, hn, Or.inr (by rw [show 52 + (n + 1) = 53 + n by omega]; omega)⟩
theorem Rep.dvd {X : Int} (h : Rep X) {j : Nat} (hj : j = 0 ∨ P (52 + j) < X.natAbs) : (P j : Int) ∣ X := by
  obtain ⟨k, h1, h2⟩ := h
  rcases hj with hj | hj
  · subst hj; exact ⟨X, by simp [P]⟩
  · have := P_lt (Nat.lt_of_lt_of_le hj h2)
    exact Int.dvd_trans (P_dvd (by omega)) h1
theorem Rep.dvd2 {X : Int} (h : Rep X) {j : Nat} (hj : P (52 + j) ≤ X.natAbs) : (P j : Int) ∣ X := by
  by_cases h1 : P (52 + j) < X.natAbs
  · exact h.dvd (Or.inr h1)
  · have h2 : X = (P (52 + j) : Int) ∨ X = -(P (52 + j) : Int) := by omega
    rcases h2 with h2 | h2
    · rw [h2]; exact P_dvd (by omega)
    · rw [h2]; exact Int.dvd_neg.2 (P_dvd (by omega))
theorem dvd_of_abs {A B : Int} (hA : Rep A) (h : B.natAbs ≤ A.natAbs) {j : Nat} (hj : j = 0 ∨ P (52 + j) < B.natAbs) : (P j : Int) ∣ A :=
  hA.dvd (by rcases hj with h1 | h1 <;> omega)
/-- of two the sum of which is no farther from 0 than each -/
theorem rep_small {A B : Int} (hA : Rep A) (hB : Rep B) (h1 : (A + B).natAbs ≤ A.natAbs) (h2 : (A + B).natAbs ≤ B.natAbs) : Rep (A + B) := by
  rcases Nat.le_total A.natAbs B.natAbs with h | h
  · obtain ⟨j, g1, g2⟩ := grid A.natAbs
    exact ⟨j, Int.dvd_add (hA.dvd g2) (dvd_of_abs hB h g2), Nat.le_trans h1 g1⟩
  · obtain ⟨j, g1, g2⟩ := grid B.natAbs
    exact ⟨j, Int.dvd_add (dvd_of_abs hA h g2) (hB.dvd g2), Nat.le_trans h2 g1⟩
/-- what is a multiple of a power of two is rounded to one -/
theorem Nr.dvd {z s : Int} (h : Nr z s) {j : Nat} (hj : (P j : Int) ∣ z) : (P j : Int) ∣ s := by
  by_cases hz : z.natAbs ≤ P (53 + j)
  · rw [h.exact ⟨j, hj, hz⟩]; exact hj
  · have h3 : P (53 + j) ≤ s.natAbs := by
      have hr := Rep.pow (53 + j)
      rcases Int.le_total 0 z with h0 | h0
      · have := h.ge hr (by omega); omega
      · have := h.le hr.neg (by omega); omega
    exact h.1.dvd2 (Nat.le_trans (P_le (by omega)) h3)
/-- what is lost is a number, and no more than either -/
theorem err {A B s : Int} (hA : Rep A) (hB : Rep B) (h : Nr (A + B) s) : Rep (A + B - s) ∧ (A + B - s).natAbs ≤ A.natAbs ∧ (A + B - s).natAbs ≤ B.natAbs := by
  have h1 : (A + B - s).natAbs ≤ A.natAbs := by have := h.2 B hB; omega
  have h2 : (A + B - s).natAbs ≤ B.natAbs := by have := h.2 A hA; omega
  refine ⟨?_, h1, h2⟩
  rcases Nat.le_total A.natAbs B.natAbs with hh | hh
  · obtain ⟨j, g1, g2⟩ := grid A.natAbs
    have d := Int.dvd_add (hA.dvd g2) (dvd_of_abs hB hh g2)
    exact ⟨j, Int.dvd_sub d (h.dvd d), Nat.le_trans h1 g1⟩
  · obtain ⟨j, g1, g2⟩ := grid B.natAbs
    have d := Int.dvd_add (dvd_of_abs hA hh g2) (hB.dvd g2)
    exact ⟨j, Int.dvd_sub d (h.dvd d), Nat.le_trans h2 g1⟩
/-- half of what the last place counts -/
theorem half {z s : Int} (h : Nr z s) {i : Nat} (hz : z.natAbs ≤ P (53 + i)) : 2 * (z - s).natAbs ≤ P i := by
  have hp := P_pos i
  have e53 : P (53 + i) = P 53 * P i := P_add _ _
  have hd : (0 : Int) < (P i : Int) := by omega
  have e1 := Int.emod_add_mul_ediv z (P i : Int)
  have m0 := Int.emod_nonneg z (show (P i : Int) ≠ 0 by omega)
  have m1 := Int.emod_lt_of_pos z hd
  generalize hq : z / (P i : Int) = q at *
  generalize z % (P i : Int) = r at *
  have q0 : -(P 53 : Int) ≤ q := by
    have : (-(P 53 : Int)) * (P i : Int) ≤ z := by
      rw [Int.neg_mul, ← Int.natCast_mul, ← e53]; omega
    rw [← hq]; exact (Int.le_ediv_iff_mul_le hd).2 this
  have q1 : q ≤ (P 53 : Int) := by
    have : z ≤ (P 53 : Int) * (P i : Int) := by rw [← Int.natCast_mul, ← e53]; omega
    have := Int.ediv_le_ediv hd this
    rw [Int.mul_ediv_cancel _ (by omega)] at this
    omega
  have rep : ∀ t : Int, -(P 53 : Int) ≤ t → t ≤ (P 53 : Int) → Rep ((P i : Int) * t) := by
    intro t a b
    refine ⟨i, ⟨t, rfl⟩, ?_⟩
    rw [Int.natAbs_mul, Int.natAbs_natCast, e53, Nat.mul_comm]
    exact Nat.mul_le_mul_right _ (by omega)
  have h1 := h.2 _ (rep q q0 q1)
  by_cases hqq : q + 1 ≤ (P 53 : Int)
  · have h2 := h.2 _ (rep (q + 1) (by omega) hqq)
    rw [Int.mul_add, Int.mul_one] at h2
    generalize (P i : Int) * q = U at *
    omega
  · have hq1 : q = (P 53 : Int) := by omega
    subst hq1
    rw [← Int.natCast_mul, Nat.mul_comm, ← e53] at e1
    rw [← Int.natCast_mul, Nat.mul_comm, ← e53] at h1
    omega

/-- Dekker: taken away from the sum, the greater one leaves a number -/
theorem fast {A B s : Int} (hA : Rep A) (hB : Rep B) (hAB : B.natAbs ≤ A.natAbs) (h : Nr (A + B) s) : Rep (s - A) := by
  obtain ⟨j, g1, g2⟩ := grid B.natAbs
  have dA : (P j : Int) ∣ A := dvd_of_abs hA hAB g2
  have dB : (P j : Int) ∣ B := hB.dvd g2
  have ds := h.dvd (Int.dvd_add dA dB)
  obtain ⟨e1, e2, e3⟩ := err hA hB h
  by_cases hd : (s - A).natAbs ≤ P (53 + j)
  · exact ⟨j, Int.dvd_sub ds dA, hd⟩
  have hzn : ¬ (A + B).natAbs ≤ P (53 + j) := by
    intro hz
    have := h.exact ⟨j, Int.dvd_add dA dB, hz⟩
    omega
  obtain ⟨i, i1, i2⟩ := grid (A + B).natAbs
  have hij : j < i := by
    have := P_lt (show P (53 + j) < P (53 + i) by omega)
    omega
  have i3 : P (52 + i) < (A + B).natAbs := by
    rcases i2 with i2 | i2
    · omega
    · exact i2
  have hh := half h i1
  have hs : P (52 + i) ≤ s.natAbs := by
    have hr := Rep.pow (52 + i)
    rcases Int.le_total 0 (A + B) with h0 | h0
    · have := h.ge hr (by omega); omega
    · have := h.le hr.neg (by omega); omega
  have dsi := h.1.dvd2 hs
  have p1 : P (53 + j) ≤ P (52 + i) := P_le (by omega)
  have p2 : P (53 + i) = 2 * P (52 + i) := by rw [show 53 + i = (52 + i) + 1 by omega, P_succ]
  have p3 : P i ≤ P (52 + i) := P_le (by omega)
  by_cases dAi : (P i : Int) ∣ A
  · exact ⟨i, Int.dvd_sub dsi dAi, by omega⟩
  · obtain ⟨i', rfl⟩ : ∃ i', i = i' + 1 := ⟨i - 1, by omega⟩
    have hA1 : ¬ P (52 + (i' + 1)) ≤ A.natAbs := fun hc => dAi (hA.dvd2 hc)
    rw [show 52 + (i' + 1) = 53 + i' by omega] at *
    have p4 : P (53 + i') = 2 * P (52 + i') := by rw [show 53 + i' = (52 + i') + 1 by omega, P_succ]
    rw [P_succ] at *
    have dAi' : (P i' : Int) ∣ A := hA.dvd (Or.inr (by omega))
    have dsi' : (P i' : Int) ∣ s := Int.dvd_trans (P_dvd (Nat.le_succ _)) (by rw [P_succ]; exact dsi)
    refine ⟨i', Int.dvd_sub dsi' dAi', ?_⟩
    have hA2 : A.natAbs + P i' ≤ P (53 + i') := by
      have e : P (53 + i') = P 53 * P i' := P_add _ _
      obtain ⟨c, hc⟩ := dAi'
      have hn : A.natAbs = P i' * c.natAbs := by rw [hc, Int.natAbs_mul, Int.natAbs_natCast]
      have hlt : c.natAbs * P i' < P 53 * P i' := by rw [← e, Nat.mul_comm, ← hn]; omega
      have h2 := Nat.mul_le_mul_right (P i') (Nat.lt_of_mul_lt_mul_right hlt)
      rw [Nat.succ_mul, ← e, Nat.mul_comm, ← hn] at h2
      exact h2
    omega
/-- the fast one -/
theorem fastSum {X Y s b r : Int} (hX : Rep X) (hY : Rep Y) (hXY : Y.natAbs ≤ X.natAbs) (h1 : Nr (X + Y) s) (h2 : Nr (s - X) b) (h3 : Nr (Y - b) r) : r = X + Y - s := by
  have e1 := h2.exact (fast hX hY hXY h1)
  subst e1
  have e := (err hX hY h1).1
  have e2 : Y - (s - X) = X + Y - s := by omega
  rw [e2] at h3
  exact h3.exact e
/-- Moller, Knuth -/
theorem twoSum {X Y s a b p q r : Int} (hX : Rep X) (hY : Rep Y) (h1 : Nr (X + Y) s) (h2 : Nr (s - Y) a) (h3 : Nr (s - a) b) (h4 : Nr (X - a) p) (h5 : Nr (Y - b) q) (h6 : Nr (p + q) r) : r = X + Y - s := by
  obtain ⟨e1, e2, e3⟩ := err hX hY h1
  by_cases hy : Rep (s - Y)
  · have ha := h2.exact hy
    subst ha
    have hb : b = Y := by have := h3.exact (z := s - (s - Y)) (by rw [show s - (s - Y) = Y by omega]; exact hY); omega
    subst hb
    have hq : q = 0 := by have := h5.exact (z := b - b) (by rw [show b - b = 0 by omega]; exact Rep.zero); omega
    subst hq
    have hp : p = X + b - s := by
      have := h4.exact (z := X - (s - b)) (by rw [show X - (s - b) = X + b - s by omega]; exact e1); omega
    subst hp
    have := h6.exact (z := X + b - s + 0) (by rw [Int.add_zero]; exact e1)
    omega
  · have hxy : Y.natAbs < X.natAbs := by
      rcases Nat.lt_or_ge Y.natAbs X.natAbs with h | h
      · exact h
      · exact absurd (fast hY hX h (by rw [Int.add_comm]; exact h1)) hy
    have hzn : ¬ Rep (X + Y) := by
      intro hz
      apply hy
      rw [h1.exact hz, show X + Y - Y = X by omega]; exact hX
    have hs : Y.natAbs ≤ s.natAbs := by
      rcases Nat.lt_or_ge s.natAbs Y.natAbs with h | h
      · exfalso; apply hzn
        have hz : (X + Y).natAbs ≤ Y.natAbs := by
          have g1 : ∀ f, Rep f → f ≤ X + Y → f ≤ s := fun f hf => h1.ge hf
          have g2 : ∀ f, Rep f → X + Y ≤ f → s ≤ f := fun f hf => h1.le hf
          have a1 := g1 Y hY; have a2 := g1 (-Y) hY.neg; have a3 := g2 Y hY; have a4 := g2 (-Y) hY.neg
          omega
        exact rep_small hX hY (by omega) hz
      · exact h
    -- the second step is a fast one
    have h2' : Nr (s + -Y) a := by rw [show s + -Y = s - Y by omega]; exact h2
    have f1 := fast h1.1 hY.neg (by omega) h2'
    obtain ⟨f2, -, -⟩ := err h1.1 hY.neg h2'
    have hb : b = s - a := h3.exact (by rw [show s - a = -(a - s) by omega]; exact f1.neg)
    subst hb
    have hq : q = Y - (s - a) := h5.exact (by rw [show Y - (s - a) = -(s + -Y - a) by omega]; exact f2.neg)
    subst hq
    have hbig : P 53 < (X + Y).natAbs := by
      rcases Nat.lt_or_ge (P 53) (X + Y).natAbs with h | h
      · exact h
      · exact absurd ⟨0, ⟨X + Y, by simp [P]⟩, h⟩ hzn
    have hXbig : P 52 < X.natAbs := by
      have : P 53 = 2 * P 52 := P_succ 52
      omega
    obtain ⟨k, k1, k2⟩ := grid X.natAbs
    have k3 : P (52 + k) < X.natAbs := by
      rcases k2 with k2 | k2
      · subst k2; exact hXbig
      · exact k2
    have p1 : P (53 + (k + 1)) = 2 * P (53 + k) := by rw [show 53 + (k + 1) = (53 + k) + 1 by omega, P_succ]
    have p2 : P (53 + (k + 2)) = 2 * P (53 + (k + 1)) := by rw [show 53 + (k + 2) = (53 + (k + 1)) + 1 by omega, P_succ]
    have p3 : P (k + 1) = 2 * P k := P_succ _
    have p4 : P (k + 2) = 2 * P (k + 1) := P_succ _
    have p5 : P (52 + k) = P 49 * (8 * P k) := by
      rw [show 52 + k = 49 + (3 + k) by omega, P_add 49, P_add 3]; rfl
    have p6 : 1 * (8 * P k) ≤ P 49 * (8 * P k) := Nat.mul_le_mul_right _ (P_pos 49)
    have u1 := half h1 (i := k + 1) (by omega)
    have hs2 : s.natAbs ≤ 2 * X.natAbs := by
      have r2 := hX.two
      have g1 : ∀ f, Rep f → f ≤ X + Y → f ≤ s := fun f hf => h1.ge hf
      have g2 : ∀ f, Rep f → X + Y ≤ f → s ≤ f := fun f hf => h1.le hf
      have a1 := g1 _ r2; have a2 := g1 _ r2.neg; have a3 := g2 _ r2; have a4 := g2 _ r2.neg
      omega
    have u2 := half h2 (i := k + 2) (by omega)
    have hp : p = X - a := h4.exact (by
      rw [show X - a = X + -a by omega]
      exact rep_small hX h2.1.neg (by omega) (by omega))
    subst hp
    have := h6.exact (z := X - a + (Y - (s - a))) (by rw [show X - a + (Y - (s - a)) = X + Y - s by omega]; exact e1)
    omega
end Go.Proofs.YthlocmhfjandlaaGreatDoor.Ep

/-
  PLAIN: which whole numbers are numbers; rounded to the nearest; no end is met below it. No Go here.
-/
namespace Go.Proofs.YthlocmhfjandlaaGreatDoor.Fm
open Go.Proofs.YthlocmhfjandlaaGreatDoor.Ep

theorem mag_reps : ∀ (j q : Nat), q ≤ 9007199254740992 → ∃ k, mag k = q * 2 ^ j
  | j, q, h => by
    by_cases hq : 4503599627370496 ≤ q
    · exact ⟨q + j * 4503599627370496, mag_of q j (Or.inl hq) h⟩
    · match j with
      | 0 => exact ⟨q + 0 * 4503599627370496, mag_of q 0 (Or.inr rfl) h⟩
      | j + 1 =>
        obtain ⟨k, hk⟩ := mag_reps j (2 * q) (by omega)
        exact ⟨k, by rw [hk, Nat.pow_succ, Nat.mul_comm 2 q, Nat.mul_assoc, Nat.mul_comm 2]⟩
theorem mag_part (r : Nat) : ∃ p, p ≤ 9007199254740992 ∧ mag r = p * ulp r := by
  by_cases h : r < 4503599627370496
  · refine ⟨r, by omega, ?_⟩
    unfold mag ulp; rw [if_pos h, show r / 4503599627370496 - 1 = 0 by omega, Nat.pow_zero, Nat.mul_one]
  · refine ⟨4503599627370496 + r % 4503599627370496, by omega, ?_⟩
    unfold mag ulp; rw [if_neg h]
theorem rep_mag (r : Nat) : Rep (mag r : Int) := by
  obtain ⟨p, h1, h2⟩ := mag_part r
  have e53 : P 53 = 9007199254740992 := by decide
  have eu : ulp r = P (r / 4503599627370496 - 1) := rfl
  refine ⟨r / 4503599627370496 - 1, ⟨(p : Int), ?_⟩, ?_⟩
  · rw [h2, eu, Int.natCast_mul, Int.mul_comm]
  · rw [Int.natAbs_natCast, h2, eu, P_add, e53]
    exact Nat.mul_le_mul_right _ h1
theorem rep_iff (X : Int) : Rep X ↔ ∃ r, X.natAbs = mag r := by
  constructor
  · rintro ⟨k, ⟨c, hc⟩, h2⟩
    have hn : X.natAbs = c.natAbs * P k := by rw [hc, Int.natAbs_mul, Int.natAbs_natCast, Nat.mul_comm]
    rw [hn, P_add] at h2
    have := Nat.le_of_mul_le_mul_right h2 (P_pos k)
    have e53 : P 53 = 9007199254740992 := by decide
    obtain ⟨r, hr⟩ := mag_reps k c.natAbs (by omega)
    exact ⟨r, by rw [hn, hr]; rfl⟩
  · rintro ⟨r, hr⟩
    have h := rep_mag r
    rcases Int.le_total 0 X with h0 | h0
    · rw [show X = (mag r : Int) by omega]; exact h
    · rw [show X = -(mag r : Int) by omega]; exact h.neg
/-- what is no more than a number is rounded to no more -/
theorem numk_le {t m : Nat} {e : Int} (ht : 0 ≤ e + 1074 + t) (k : Nat) {r : Nat} (hr : r < MR) (h : tt t m e ≤ mag r * 2 ^ t) : numk k m e ≤ r := by
  rcases Nat.lt_or_ge r (numk k m e) with h1 | h1
  · exfalso
    have h2 := (numk_iff ht k (r + 1)).1 h1
    have h3 := Nat.mul_lt_mul_of_pos_right (mag_lt_succ r) (Nat.two_pow_pos t)
    have er : r + 1 - 1 = r := by omega
    rcases k with _ | _ | _ | k <;> simp only [Pk, er, Nat.add_mul] at h2 <;> omega
  · exact h1
theorem numk_ge {t m : Nat} {e : Int} (ht : 0 ≤ e + 1074 + t) (k : Nat) {r : Nat} (hr : r < MR) (h : mag r * 2 ^ t ≤ tt t m e) : r ≤ numk k m e := by
  refine (numk_iff ht k r).2 ?_
  have h3 : r ≠ 0 → mag (r - 1) * 2 ^ t < mag r * 2 ^ t := fun h0 => Nat.mul_lt_mul_of_pos_right (mag_lt (by omega)) (Nat.two_pow_pos t)
  rcases k with _ | _ | _ | k <;> simp only [Pk, Nat.add_mul] <;> omega
/-- the nearest one is nearest -/
theorem numk_nearest {t m : Nat} {e : Int} (ht : 0 ≤ e + 1074 + t) (h : numk 2 m e < MR) (r : Nat) :
    ((tt t m e : Int) - ((mag (numk 2 m e) * 2 ^ t : Nat) : Int)).natAbs ≤ ((tt t m e : Int) - ((mag r * 2 ^ t : Nat) : Int)).natAbs := by
  have a := (numk_iff ht 2 _).1 (Nat.le_refl (numk 2 m e))
  have b : ¬ numk 2 m e + 1 ≤ numk 2 m e := by omega
  rw [numk_iff ht 2] at b
  have er : numk 2 m e + 1 - 1 = numk 2 m e := by omega
  simp only [Pk, er, Nat.add_mul] at a b
  have mono : ∀ {x y : Nat}, x ≤ y → mag x * 2 ^ t ≤ mag y * 2 ^ t := fun h => Nat.mul_le_mul_right _ (mag_mono h)
  have m1 := mono (show numk 2 m e - 1 ≤ numk 2 m e by omega)
  have m2 := mono (show numk 2 m e ≤ numk 2 m e + 1 by omega)
  rcases Nat.lt_trichotomy r (numk 2 m e) with h1 | h1 | h1
  · have := mono (show r ≤ numk 2 m e - 1 by omega)
    omega
  · rw [h1]; exact Nat.le_refl _
  · have := mono (show numk 2 m e + 1 ≤ r by omega)
    omega
/-- .. of a whole number with its sign -/
theorem near_nr {m : Nat} {e z s : Int} (ht : 0 ≤ e + 1074) (hz : z.natAbs = tt 0 m e) (h : numk 2 m e < MR) (hs : s.natAbs = mag (numk 2 m e)) (hsg : 0 ≤ z ∧ 0 ≤ s ∨ z ≤ 0 ∧ s ≤ 0) : Nr z s := by
  have hn := fun r => numk_nearest (t := 0) (m := m) (e := e) (by omega) h r
  simp only [Nat.pow_zero, Nat.mul_one] at hn
  refine ⟨(rep_iff s).2 ⟨_, hs⟩, fun f hf => ?_⟩
  obtain ⟨r, hr⟩ := (rep_iff f).1 hf
  have := hn r
  omega
end Go.Proofs.YthlocmhfjandlaaGreatDoor.Fm

/-
  PLAIN: rounding what lies at a cut (a quotient, a root), by its whole part and a mark of what is lost. No Go here.
-/
namespace Go.Proofs.YthlocmhfjandlaaGreatDoor.Fm

/-- a place among the numbers: le M: M is no more than twice of it; lt M: less -/
structure Cut (le lt : Nat → Prop) : Prop where
  down : ∀ M N, M ≤ N → le N → le M
  less : ∀ M N, M < N → le N → lt M
  weak : ∀ M, lt M → le M
theorem Cut.ltdown {le lt : Nat → Prop} (c : Cut le lt) {M N : Nat} (h : M ≤ N) (hl : lt N) : lt M := by
  rcases Nat.lt_or_ge M N with h1 | h1
  · exact c.less M N h1 (c.weak _ hl)
  · rw [show M = N by omega]; exact hl
/-- 'n ≤ the rounded one' at a cut -/
def PkC (k w : Nat) (le lt : Nat → Prop) (n : Nat) : Prop :=
  match k with
  | 0 => n ≤ MR - 1 ∧ le (2 * (mag n * w))
  | 1 => n ≤ MR ∧ (n = 0 ∨ lt (2 * (mag (n - 1) * w)))
  | 2 => n ≤ MR ∧ (n = 0 ∨ lt ((mag (n - 1) + mag n) * w) ∨ (le ((mag (n - 1) + mag n) * w) ∧ n % 2 = 0))
  | _ => n ≤ MR ∧ (n = 0 ∨ le ((mag (n - 1) + mag n) * w))
theorem PkC_imp {le lt le' lt' : Nat → Prop} {w r : Nat} (hw : 0 < w) (c : Cut le lt) (c' : Cut le' lt') (hr' : le' (2 * (mag r * w)))
    (hn : ¬ le (2 * (mag (r + 1) * w)))
    (h1 : lt (2 * (mag r * w)) → lt' (2 * (mag r * w))) (h2 : lt ((mag r + mag (r + 1)) * w) → lt' ((mag r + mag (r + 1)) * w)) (h3 : le ((mag r + mag (r + 1)) * w) → le' ((mag r + mag (r + 1)) * w))
    (k n : Nat) (h : PkC k w le lt n) : PkC k w le' lt' n := by
  have mono : ∀ {x y : Nat}, x ≤ y → mag x * w ≤ mag y * w := fun h => Nat.mul_le_mul_right _ (mag_mono h)
  have smono : ∀ {x y : Nat}, x < y → mag x * w < mag y * w := fun h => Nat.mul_lt_mul_of_pos_right (mag_lt h) hw
  rcases Nat.lt_trichotomy n (r + 1) with hlt | heq | hgt
  · have a1 := mono (show n ≤ r by omega)
    have a2 : n ≠ 0 → mag (n - 1) * w < mag n * w := fun h => smono (by omega)
    have a3 : n ≠ 0 → lt' ((mag (n - 1) + mag n) * w) := fun h0 => c'.less _ _ (by rw [Nat.add_mul]; have := a2 h0; omega) hr'
    rcases k with _ | _ | _ | k
    · exact ⟨h.1, c'.down _ _ (by omega) hr'⟩
    · refine ⟨h.1, ?_⟩
      by_cases h0 : n = 0
      · exact Or.inl h0
      · exact Or.inr (c'.less _ _ (by have := a2 h0; omega) hr')
    · refine ⟨h.1, ?_⟩
      by_cases h0 : n = 0
      · exact Or.inl h0
      · exact Or.inr (Or.inl (a3 h0))
    · refine ⟨h.1, ?_⟩
      by_cases h0 : n = 0
      · exact Or.inl h0
      · exact Or.inr (c'.weak _ (a3 h0))
  · subst heq
    have e : r + 1 - 1 = r := by omega
    rcases k with _ | _ | _ | k
    · exact absurd h.2 hn
    · refine ⟨h.1, Or.inr ?_⟩
      have := h.2; rw [e] at this ⊢
      rcases this with h0 | h0
      · omega
      · exact h1 h0
    · refine ⟨h.1, Or.inr ?_⟩
      have := h.2; rw [e] at this ⊢
      rcases this with h0 | h0 | ⟨h0, h4⟩
      · omega
      · exact Or.inl (h2 h0)
      · exact Or.inr ⟨h3 h0, h4⟩
    · refine ⟨h.1, Or.inr ?_⟩
      have := h.2; rw [e] at this ⊢
      rcases this with h0 | h0
      · omega
      · exact h3 h0
  · exfalso
    have b1 := mono (show r + 1 ≤ n - 1 by omega)
    have b2 := smono (show n - 1 < n by omega)
    have b3 : ¬ le ((mag (n - 1) + mag n) * w) := fun hc => hn (c.down _ _ (by rw [Nat.add_mul]; omega) hc)
    rcases k with _ | _ | _ | k
    · exact hn (c.down _ _ (by omega) h.2)
    · rcases h.2 with h0 | h0
      · omega
      · exact hn (c.down _ _ (by omega) (c.weak _ h0))
    · rcases h.2 with h0 | h0 | ⟨h0, h4⟩
      · omega
      · exact b3 (c.weak _ h0)
      · exact b3 h0
    · rcases h.2 with h0 | h0
      · omega
      · exact b3 h0
theorem cut_tt (T : Nat) : Cut (fun M => M ≤ 2 * T) (fun M => M < 2 * T) :=
  ⟨fun M N h1 h2 => Nat.le_trans h1 h2, fun M N h1 h2 => Nat.lt_of_lt_of_le h1 h2, fun M h => Nat.le_of_lt h⟩
theorem PkC_tt (k t T n : Nat) : PkC k (2 ^ t) (fun M => M ≤ 2 * T) (fun M => M < 2 * T) n ↔ Pk k t T n := by
  rcases k with _ | _ | _ | k <;> simp only [PkC, Pk] <;> omega
/-- rounding by the whole part and a mark -/
theorem sticky_num {q s : Nat} (hs : s ≤ 1) (hq : 2 ^ 60 ≤ q) {E : Int} {t : Nat} (ht : 0 ≤ E - 2 + 1074 + t) {le lt : Nat → Prop} (c : Cut le lt) (U : Nat) (hU : U = 2 ^ (E + 1074 + t).toNat)
    (h1 : ∀ I, le (2 * (I * U)) ↔ I ≤ q) (h2 : ∀ I, lt (2 * (I * U)) ↔ 4 * I < 4 * q + s) (k n : Nat) :
    (n ≤ numk k (4 * q + s) (E - 2) ↔ PkC k (2 ^ t) le lt n) ∧ (chg (4 * q + s) (E - 2) = false ↔ ∃ r, r < MR ∧ le (2 * (mag r * 2 ^ t)) ∧ ¬ lt (2 * (mag r * 2 ^ t))) := by
  have hm : 4 * q + s ≠ 0 := by have := Nat.two_pow_pos 60; omega
  have f1 := floor_le hm ht
  have f2 := lt_succ hm ht
  have hw := Nat.two_pow_pos t
  -- the places beside it are whole
  obtain ⟨V, hV⟩ : ∃ V, V = 2 ^ (E - 2 + 1074 + t).toNat := ⟨_, rfl⟩
  have hUV : U = 4 * V := by
    rw [hU, hV, show (E + 1074 + (t : Int)).toNat = (E - 2 + 1074 + t).toNat + 2 by omega, Nat.pow_add]; omega
  have hVp : 0 < V := by rw [hV]; exact Nat.two_pow_pos _
  have hT : tt t (4 * q + s) (E - 2) = (4 * q + s) * V := by unfold tt; rw [hV]
  have hbl : 62 ≤ bl (4 * q + s) := by
    have a := bl_lt (4 * q + s)
    have : 2 ^ 61 < 2 ^ bl (4 * q + s) := by
      have e : (2 : Nat) ^ 61 = 2 * 2 ^ 60 := by decide
      omega
    exact (Nat.pow_lt_pow_iff_right (by decide : 1 < 2)).1 this
  have hss : 9 ≤ ss (4 * q + s) (E - 2) := by unfold ss kk; omega
  have hj := jj_eq (4 * q + s) (E - 2)
  have hse : ss (4 * q + s) (E - 2) = kk (4 * q + s) (E - 2) - (E - 2) := rfl
  obtain ⟨z, hz⟩ : ∃ z : Nat, ss (4 * q + s) (E - 2) = z + 3 := ⟨(ss (4 * q + s) (E - 2) - 3).toNat, by omega⟩
  have hjt : jj (4 * q + s) (E - 2) + t = z + 1 + (E + 1074 + (t : Int)).toNat := by omega
  have g0 : mag (r0 (4 * q + s) (E - 2)) * 2 ^ t = (qq (4 * q + s) (E - 2) * (2 * 2 ^ z)) * U := by
    rw [mag_r0 hm, Nat.mul_assoc, ← Nat.pow_add, hjt, Nat.pow_add, ← hU, Nat.pow_succ, Nat.mul_comm (2 ^ z) 2]; simp only [Nat.mul_assoc]
  have g1 : mag (r0 (4 * q + s) (E - 2) + 1) * 2 ^ t = ((qq (4 * q + s) (E - 2) + 1) * (2 * 2 ^ z)) * U := by
    rw [mag_r1 hm, Nat.mul_assoc, ← Nat.pow_add, hjt, Nat.pow_add, ← hU, Nat.pow_succ, Nat.mul_comm (2 ^ z) 2]; simp only [Nat.mul_assoc]
  have g2 : (mag (r0 (4 * q + s) (E - 2)) + mag (r0 (4 * q + s) (E - 2) + 1)) * 2 ^ t = 2 * (((2 * qq (4 * q + s) (E - 2) + 1) * 2 ^ z) * U) := by
    rw [Nat.add_mul, g0, g1, ← Nat.add_mul, ← Nat.add_mul, show qq (4 * q + s) (E - 2) + (qq (4 * q + s) (E - 2) + 1) = 2 * qq (4 * q + s) (E - 2) + 1 by omega, Nat.mul_left_comm _ 2, Nat.mul_assoc 2]
  rw [hT] at f1 f2
  have key : ∀ I, (2 * (I * U) ≤ 2 * ((4 * q + s) * V) ↔ I ≤ q) ∧ (2 * (I * U) < 2 * ((4 * q + s) * V) ↔ 4 * I < 4 * q + s) := by
    intro I
    have e : I * U = (4 * I) * V := by rw [hUV, Nat.mul_left_comm, Nat.mul_assoc]
    rw [e]
    constructor
    · constructor
      · intro h
        have := Nat.le_of_mul_le_mul_right (show (4 * I) * V ≤ (4 * q + s) * V by omega) hVp
        omega
      · intro h
        have := Nat.mul_le_mul_right V (show 4 * I ≤ 4 * q + s by omega)
        omega
    · constructor
      · intro h
        exact Nat.lt_of_mul_lt_mul_right (a := V) (by omega)
      · intro h
        have := Nat.mul_lt_mul_of_pos_right h hVp
        omega
  have cT := cut_tt ((4 * q + s) * V)
  have a1 : le (2 * (mag (r0 (4 * q + s) (E - 2)) * 2 ^ t)) := by
    rw [g0, h1, ← (key _).1, ← g0]; omega
  have a2 : ¬ le (2 * (mag (r0 (4 * q + s) (E - 2) + 1) * 2 ^ t)) := by
    rw [g1, h1, ← (key _).1, ← g1]; omega
  have b1 : lt (2 * (mag (r0 (4 * q + s) (E - 2)) * 2 ^ t)) ↔ 2 * (mag (r0 (4 * q + s) (E - 2)) * 2 ^ t) < 2 * ((4 * q + s) * V) := by
    rw [g0, h2, (key _).2]
  have b2 : lt ((mag (r0 (4 * q + s) (E - 2)) + mag (r0 (4 * q + s) (E - 2) + 1)) * 2 ^ t) ↔ (mag (r0 (4 * q + s) (E - 2)) + mag (r0 (4 * q + s) (E - 2) + 1)) * 2 ^ t < 2 * ((4 * q + s) * V) := by
    rw [g2, h2, (key _).2]
  have b3 : le ((mag (r0 (4 * q + s) (E - 2)) + mag (r0 (4 * q + s) (E - 2) + 1)) * 2 ^ t) ↔ (mag (r0 (4 * q + s) (E - 2)) + mag (r0 (4 * q + s) (E - 2) + 1)) * 2 ^ t ≤ 2 * ((4 * q + s) * V) := by
    rw [g2, h1, (key _).1]
  constructor
  · rw [numk_iff ht, hT, ← PkC_tt]
    exact ⟨PkC_imp hw cT c a1 (by omega) b1.2 b2.2 b3.2 k n, PkC_imp hw c cT (by omega) a2 b1.1 b2.1 b3.1 k n⟩
  · rw [chg_iff ht, hT]
    constructor
    · rintro ⟨r, hr, he⟩
      have e : r = r0 (4 * q + s) (E - 2) := by
        have x1 : mag (r0 (4 * q + s) (E - 2)) ≤ mag r := Nat.le_of_mul_le_mul_right (show mag (r0 (4 * q + s) (E - 2)) * 2 ^ t ≤ mag r * 2 ^ t by omega) hw
        have x2 : mag r < mag (r0 (4 * q + s) (E - 2) + 1) := Nat.lt_of_mul_lt_mul_right (a := 2 ^ t) (by omega)
        have := mag_le_iff.1 x1; have := mag_lt_iff.1 x2; omega
      subst e
      exact ⟨_, hr, a1, fun hc => by have := b1.1 hc; omega⟩
    · rintro ⟨r, hr, x1, x2⟩
      have e : r = r0 (4 * q + s) (E - 2) := by
        rcases Nat.lt_trichotomy r (r0 (4 * q + s) (E - 2)) with h | h | h
        · exact absurd (c.less _ _ (by have := Nat.mul_lt_mul_of_pos_right (mag_lt h) hw; omega) a1) x2
        · exact h
        · exact absurd (c.down _ _ (by have := Nat.mul_le_mul_right (2 ^ t) (mag_mono (show r0 (4 * q + s) (E - 2) + 1 ≤ r by omega)); omega) x1) a2
      subst e
      refine ⟨_, hr, ?_⟩
      have : ¬ 2 * (mag (r0 (4 * q + s) (E - 2)) * 2 ^ t) < 2 * ((4 * q + s) * V) := fun hc => x2 (b1.2 hc)
      omega
end Go.Proofs.YthlocmhfjandlaaGreatDoor.Fm

/-
  PLAIN: quotients and roots by their whole part and a mark of what is lost, rounded. No Go here.
-/
namespace Go.Proofs.YthlocmhfjandlaaGreatDoor.Fm

/-- how far the first one is moved up -/
def qk (c d : Nat) : Nat := 80 + bl d - bl c
def mark (r : Nat) : Nat := if r = 0 then 0 else 1
theorem mark_le (r : Nat) : mark r ≤ 1 := by unfold mark; split <;> omega
/-- quot.Ratio -/
def ratD (neg : Bool) (c d : Nat) (E : Int) : D := ⟨neg, 4 * (c * 2 ^ qk c d / d) + mark (c * 2 ^ qk c d % d), E - qk c d - 2⟩
theorem ratio_big {c d : Nat} (hc : c ≠ 0) (hd : d ≠ 0) : 2 ^ 60 ≤ c * 2 ^ qk c d / d := by
  have a := bl_le hc
  have b := bl_lt d
  have e := bl_pos hc
  rw [Nat.le_div_iff_mul_le (by omega)]
  have h1 : 2 ^ 60 * d ≤ 2 ^ 60 * 2 ^ bl d := Nat.mul_le_mul_left _ (Nat.le_of_lt b)
  have h2 : 2 ^ (bl c - 1) * 2 ^ qk c d ≤ c * 2 ^ qk c d := Nat.mul_le_mul_right _ a
  rw [← Nat.pow_add] at h1 h2
  have h3 : 2 ^ (60 + bl d) ≤ 2 ^ (bl c - 1 + qk c d) := Nat.pow_le_pow_right (by decide) (by unfold qk; omega)
  omega
theorem cut_ratio (A : Nat) {d : Nat} (hd : 0 < d) : Cut (fun M => M * d ≤ 2 * A) (fun M => M * d < 2 * A) :=
  ⟨fun M N h1 h2 => Nat.le_trans (Nat.mul_le_mul_right _ h1) h2, fun M N h1 h2 => Nat.lt_of_lt_of_le (Nat.mul_lt_mul_of_pos_right h1 hd) h2, fun M h => Nat.le_of_lt h⟩
theorem ratio_num {c d : Nat} (hc : c ≠ 0) (hd : d ≠ 0) {E : Int} {t : Nat} (ht : 0 ≤ E - qk c d - 2 + 1074 + t) (neg : Bool) (k n : Nat) :
    (n ≤ numk k (ratD neg c d E).m (ratD neg c d E).e ↔ PkC k (2 ^ t) (fun M => M * d ≤ 2 * (c * 2 ^ (E + 1074 + t).toNat)) (fun M => M * d < 2 * (c * 2 ^ (E + 1074 + t).toNat)) n) ∧
    (chg (ratD neg c d E).m (ratD neg c d E).e = false ↔ ∃ r, r < MR ∧ mag r * 2 ^ t * d = c * 2 ^ (E + 1074 + t).toNat) := by
  have hd0 : 0 < d := by omega
  obtain ⟨U, hU⟩ : ∃ U, U = 2 ^ (E - qk c d + 1074 + t).toNat := ⟨_, rfl⟩
  have hUp : 0 < U := by rw [hU]; exact Nat.two_pow_pos _
  have hX : c * 2 ^ (E + 1074 + (t : Int)).toNat = (c * 2 ^ qk c d) * U := by
    rw [hU, Nat.mul_assoc, ← Nat.pow_add]; congr 2; omega
  have hq := ratio_big hc hd
  have hdm := Nat.div_add_mod (c * 2 ^ qk c d) d
  have hml := Nat.mod_lt (c * 2 ^ qk c d) hd0
  have e0 : (ratD neg c d E).m = 4 * (c * 2 ^ qk c d / d) + mark (c * 2 ^ qk c d % d) := rfl
  have e1 : (ratD neg c d E).e = E - qk c d - 2 := rfl
  rw [e0, e1, hX]
  generalize c * 2 ^ qk c d = C at *
  obtain ⟨k1, k2⟩ := sticky_num (mark_le (C % d)) hq ht (cut_ratio (C * U) hd0) U hU
    (fun I => by
      have e : 2 * (I * U) * d = 2 * ((I * d) * U) := by rw [Nat.mul_assoc, Nat.mul_assoc, Nat.mul_comm U d, Nat.mul_assoc]
      show 2 * (I * U) * d ≤ 2 * (C * U) ↔ _
      rw [e, Nat.le_div_iff_mul_le hd0]
      constructor
      · intro h; exact Nat.le_of_mul_le_mul_right (show I * d * U ≤ C * U by omega) hUp
      · intro h; have := Nat.mul_le_mul_right U h; omega)
    (fun I => by
      have e : 2 * (I * U) * d = 2 * ((I * d) * U) := by rw [Nat.mul_assoc, Nat.mul_assoc, Nat.mul_comm U d, Nat.mul_assoc]
      show 2 * (I * U) * d < 2 * (C * U) ↔ _
      have h0 : I * d < C ↔ 4 * I < 4 * (C / d) + mark (C % d) := by
        have hlt : I < C / d → I * d < C := fun h => by
          have := Nat.mul_le_mul_right d (show I + 1 ≤ C / d by omega)
          rw [Nat.mul_comm (C / d) d] at this
          rw [Nat.add_mul] at this; omega
        have hgt : C / d < I → C < I * d := fun h => by
          have := Nat.mul_le_mul_right d (show C / d + 1 ≤ I by omega)
          rw [Nat.add_mul, Nat.mul_comm (C / d) d] at this; omega
        have heq : I = C / d → I * d = C - C % d := fun h => by rw [h, Nat.mul_comm]; omega
        unfold mark
        split
        · rename_i h; constructor
          · intro h2; rcases Nat.lt_trichotomy I (C / d) with h3 | h3 | h3
            · omega
            · have := heq h3; omega
            · have := hgt h3; omega
          · intro h2; exact hlt (by omega)
        · rename_i h; constructor
          · intro h2; rcases Nat.lt_trichotomy I (C / d) with h3 | h3 | h3
            · omega
            · omega
            · have := hgt h3; omega
          · intro h2; rcases Nat.lt_trichotomy I (C / d) with h3 | h3 | h3
            · exact hlt h3
            · have := heq h3; omega
            · omega
      rw [e, ← h0]
      constructor
      · intro h; exact Nat.lt_of_mul_lt_mul_right (a := U) (by omega)
      · intro h; have := Nat.mul_lt_mul_of_pos_right h hUp; omega) k n
  refine ⟨k1, k2.trans ?_⟩
  constructor
  · rintro ⟨r, h1, h2, h3⟩
    refine ⟨r, h1, ?_⟩
    have a : 2 * (mag r * 2 ^ t) * d = 2 * (mag r * 2 ^ t * d) := Nat.mul_assoc _ _ _
    rw [a] at h2 h3; omega
  · rintro ⟨r, h1, h2⟩
    have a : 2 * (mag r * 2 ^ t) * d = 2 * (mag r * 2 ^ t * d) := Nat.mul_assoc _ _ _
    refine ⟨r, h1, ?_, ?_⟩
    · show 2 * (mag r * 2 ^ t) * d ≤ _
      rw [a, h2]; exact Nat.le_refl _
    · show ¬ 2 * (mag r * 2 ^ t) * d < _
      rw [a, h2]; omega

/-- the root of a square number: rounded down -/
def IsRoot (m r : Nat) : Prop := r * r ≤ m ∧ m < (r + 1) * (r + 1)
def rootD (r m : Nat) (E : Int) : D := ⟨false, 4 * r + mark (m - r * r), E - 2⟩
theorem cut_root (A : Nat) : Cut (fun M => M * M ≤ 4 * A) (fun M => M * M < 4 * A) :=
  ⟨fun M N h1 h2 => Nat.le_trans (Nat.mul_le_mul h1 h1) h2, fun M N h1 h2 => Nat.lt_of_lt_of_le (Nat.mul_lt_mul_of_lt_of_lt h1 h1) h2, fun M h => Nat.le_of_lt h⟩
theorem root_num {r m : Nat} (h : IsRoot m r) (hr : 2 ^ 60 ≤ r) {E : Int} {t : Nat} (ht : 0 ≤ E - 2 + 1074 + t) (k n : Nat) :
    (n ≤ numk k (rootD r m E).m (rootD r m E).e ↔ PkC k (2 ^ t) (fun M => M * M ≤ 4 * (m * 2 ^ (2 * (E + 1074 + t).toNat))) (fun M => M * M < 4 * (m * 2 ^ (2 * (E + 1074 + t).toNat))) n) ∧
    (chg (rootD r m E).m (rootD r m E).e = false ↔ ∃ s, s < MR ∧ (mag s * 2 ^ t) * (mag s * 2 ^ t) = m * 2 ^ (2 * (E + 1074 + t).toNat)) := by
  obtain ⟨U, hU⟩ : ∃ U, U = 2 ^ (E + 1074 + t).toNat := ⟨_, rfl⟩
  have hUp : 0 < U := by rw [hU]; exact Nat.two_pow_pos _
  have hUU : 2 ^ (2 * (E + 1074 + (t : Int)).toNat) = U * U := by rw [hU, ← Nat.pow_add]; congr 1; omega
  obtain ⟨h1, h2⟩ := h
  have e0 : (rootD r m E).m = 4 * r + mark (m - r * r) := rfl
  have e1 : (rootD r m E).e = E - 2 := rfl
  rw [e0, e1, hUU]
  have sq : ∀ I, 2 * (I * U) * (2 * (I * U)) = 4 * ((I * I) * (U * U)) := fun I => by
    rw [Nat.mul_mul_mul_comm 2, Nat.mul_mul_mul_comm I]
  have hUUp : 0 < U * U := Nat.mul_pos hUp hUp
  have le_iff : ∀ I, I * I ≤ m ↔ I ≤ r := fun I => by
    constructor
    · intro h
      rcases Nat.lt_or_ge r I with h3 | h3
      · have := Nat.mul_le_mul (show r + 1 ≤ I by omega) (show r + 1 ≤ I by omega); omega
      · exact h3
    · intro h; have := Nat.mul_le_mul h h; omega
  have lt_iff : ∀ I, I * I < m ↔ 4 * I < 4 * r + mark (m - r * r) := fun I => by
    have a := le_iff I
    unfold mark
    rcases Nat.lt_trichotomy I r with h3 | h3 | h3
    · have := Nat.mul_lt_mul_of_lt_of_lt h3 h3
      split <;> omega
    · subst h3; split <;> omega
    · have : ¬ I * I ≤ m := fun h => by have := a.1 h; omega
      split <;> omega
  obtain ⟨k1, k2⟩ := sticky_num (mark_le (m - r * r)) hr ht (cut_root (m * (U * U))) U hU
    (fun I => by
      show 2 * (I * U) * (2 * (I * U)) ≤ 4 * (m * (U * U)) ↔ _
      rw [sq, ← le_iff]
      constructor
      · intro h; exact Nat.le_of_mul_le_mul_right (show I * I * (U * U) ≤ m * (U * U) by omega) hUUp
      · intro h; have := Nat.mul_le_mul_right (U * U) h; omega)
    (fun I => by
      show 2 * (I * U) * (2 * (I * U)) < 4 * (m * (U * U)) ↔ _
      rw [sq, ← lt_iff]
      constructor
      · intro h; exact Nat.lt_of_mul_lt_mul_right (a := U * U) (by omega)
      · intro h; have := Nat.mul_lt_mul_of_pos_right h hUUp; omega) k n
  refine ⟨k1, k2.trans ?_⟩
  constructor
  · rintro ⟨s, a1, a2, a3⟩
    refine ⟨s, a1, ?_⟩
    have e := Nat.mul_mul_mul_comm 2 (mag s * 2 ^ t) 2 (mag s * 2 ^ t)
    rw [e] at a2 a3; omega
  · rintro ⟨s, a1, a2⟩
    have e := Nat.mul_mul_mul_comm 2 (mag s * 2 ^ t) 2 (mag s * 2 ^ t)
    refine ⟨s, a1, ?_, ?_⟩
    · show 2 * (mag s * 2 ^ t) * (2 * (mag s * 2 ^ t)) ≤ _
      rw [e, a2]; omega
    · show ¬ 2 * (mag s * 2 ^ t) * (2 * (mag s * 2 ^ t)) < _
      rw [e, a2]; omega

/-- one that is no middle: the nearest even one is the nearest one that goes away -/
theorem near_away {m : Nat} {e : Int} {w : Nat} {le lt : Nat → Prop} (c : Cut le lt) (hn : ∀ k n, n ≤ numk k m e ↔ PkC k w le lt n)
    (h : ∀ n, n ≤ MR → n ≠ 0 → le ((mag (n - 1) + mag n) * w) → lt ((mag (n - 1) + mag n) * w) ∨ n < 4503599627370496 ∨ n = MR) :
    numk 2 m e = numk 3 m e ∨ numk 2 m e < 4503599627370496 ∨ MR ≤ numk 3 m e := by
  have a := (hn 3 (numk 3 m e)).1 (Nat.le_refl _)
  have b := (hn 2 (numk 2 m e)).1 (Nat.le_refl _)
  have h23 : numk 2 m e ≤ numk 3 m e := (hn 3 _).2 ⟨b.1, by
    rcases b.2 with h0 | h0 | ⟨h0, -⟩
    · exact Or.inl h0
    · exact Or.inr (c.weak _ h0)
    · exact Or.inr h0⟩
  rcases a.2 with h0 | h0
  · left; omega
  · by_cases hz : numk 3 m e = 0
    · left; omega
    · rcases h _ a.1 hz h0 with h1 | h1 | h1
      · left
        have := (hn 2 (numk 3 m e)).2 ⟨a.1, Or.inr (Or.inl h1)⟩
        omega
      · right; left; omega
      · right; right; omega
end Go.Proofs.YthlocmhfjandlaaGreatDoor.Fm

/-
  PLAIN: what is exact at a cut; quotients and roots are no middles; the order. No Go here.
-/
namespace Go.Proofs.YthlocmhfjandlaaGreatDoor.Fm

theorem num_at {m : Nat} {e : Int} {w : Nat} (hw : 0 < w) {le lt : Nat → Prop} (c : Cut le lt) (hn : ∀ k n, n ≤ numk k m e ↔ PkC k w le lt n) {r : Nat} (hr : r < MR)
    (h1 : le (2 * (mag r * w))) (h2 : ¬ lt (2 * (mag r * w))) (k : Nat) : numk k m e = r := by
  have hMR : MR = 9218868437227405312 := rfl
  have smono : ∀ {x y : Nat}, x < y → mag x * w < mag y * w := fun h => Nat.mul_lt_mul_of_pos_right (mag_lt h) hw
  have a : r ≤ numk k m e := by
    rw [hn]
    by_cases h0 : r = 0
    · subst h0
      rcases k with _ | _ | _ | k
      · exact ⟨by omega, h1⟩
      · exact ⟨by omega, Or.inl rfl⟩
      · exact ⟨by omega, Or.inl rfl⟩
      · exact ⟨by omega, Or.inl rfl⟩
    · have s := smono (show r - 1 < r by omega)
      have l1 : lt ((mag (r - 1) + mag r) * w) := c.less _ _ (by rw [Nat.add_mul]; omega) h1
      rcases k with _ | _ | _ | k
      · exact ⟨by omega, h1⟩
      · exact ⟨by omega, Or.inr (c.less _ _ (by omega) h1)⟩
      · exact ⟨by omega, Or.inr (Or.inl l1)⟩
      · exact ⟨by omega, Or.inr (c.weak _ l1)⟩
  have b : ¬ r + 1 ≤ numk k m e := by
    rw [hn]
    have s := smono (show r < r + 1 by omega)
    have l1 : ¬ le ((mag r + mag (r + 1)) * w) := fun h => h2 (c.less _ _ (by rw [Nat.add_mul]; omega) h)
    have er : r + 1 - 1 = r := by omega
    rcases k with _ | _ | _ | k
    · intro h; exact h2 (c.less _ _ (by omega) h.2)
    · intro h
      rcases h.2 with h | h
      · omega
      · rw [er] at h; exact h2 h
    · intro h
      rcases h.2 with h | h | h
      · omega
      · rw [er] at h; exact l1 (c.weak _ h)
      · rw [er] at h; exact l1 h.1
    · intro h
      rcases h.2 with h | h
      · omega
      · rw [er] at h; exact l1 h
  omega
theorem PkC_mono {k w : Nat} {le lt le' lt' : Nat → Prop} (h1 : ∀ M, le M → le' M) (h2 : ∀ M, lt M → lt' M) {n : Nat} (h : PkC k w le lt n) : PkC k w le' lt' n := by
  rcases k with _ | _ | _ | k
  · exact ⟨h.1, h1 _ h.2⟩
  · exact ⟨h.1, h.2.imp id (h2 _)⟩
  · exact ⟨h.1, h.2.imp id (fun h => h.imp (h2 _) (fun h => ⟨h1 _ h.1, h.2⟩))⟩
  · exact ⟨h.1, h.2.imp id (h1 _)⟩
/-- the middle below a normal one but the least -/
theorem mid_odd {n : Nat} (h : 4503599627370496 < n) : ∃ q j, 4503599627370496 ≤ q ∧ mag (n - 1) + mag n = (2 * q + 1) * 2 ^ j := by
  obtain ⟨q, j, h1, h2, h3⟩ : ∃ q j, 4503599627370496 ≤ q ∧ q < 9007199254740992 ∧ n - 1 = q + j * 4503599627370496 :=
    ⟨(n - 1) % 4503599627370496 + 4503599627370496, (n - 1) / 4503599627370496 - 1, by omega, by omega, by omega⟩
  refine ⟨q, j, h1, ?_⟩
  have a := mag_of q j (Or.inl h1) (by omega)
  have b := mag_of (q + 1) j (by omega) (by omega)
  rw [h3, show n = q + 1 + j * 4503599627370496 by omega, a, b, ← Nat.add_mul]
  congr 1; omega
theorem odd_dvd {p c z : Nat} (hp : p % 2 = 1) (h : p ∣ c * 2 ^ z) : p ∣ c := by
  have hc : Nat.Coprime p (2 ^ z) := by
    apply Nat.Coprime.pow_right
    rw [Nat.coprime_comm]
    unfold Nat.Coprime
    rw [Nat.gcd_rec, hp]; rfl
  exact hc.dvd_of_dvd_mul_right h
theorem ratio_no_tie {c d t z n : Nat} (hc : c ≠ 0) (hc2 : c < 2 ^ 53) (h : 4503599627370496 < n) : (mag (n - 1) + mag n) * 2 ^ t * d ≠ 2 * (c * 2 ^ z) := by
  intro he
  obtain ⟨q, j, h1, h2⟩ := mid_odd h
  have : (2 * q + 1) ∣ c * 2 ^ (z + 1) := ⟨2 ^ j * 2 ^ t * d, by
    rw [Nat.pow_succ, ← Nat.mul_assoc, Nat.mul_comm _ 2, ← he, h2]; simp only [Nat.mul_assoc]⟩
  have := Nat.le_of_dvd (by omega) (odd_dvd (by omega) this)
  omega
theorem root_no_tie {c t z n : Nat} (hc : c ≠ 0) (hc2 : c < 2 ^ 53) (h : 4503599627370496 < n) : (mag (n - 1) + mag n) * 2 ^ t * ((mag (n - 1) + mag n) * 2 ^ t) ≠ 4 * (c * 2 ^ z) := by
  intro he
  obtain ⟨q, j, h1, h2⟩ := mid_odd h
  have : (2 * q + 1) ∣ c * 2 ^ (z + 2) := ⟨2 ^ j * 2 ^ t * ((2 * q + 1) * 2 ^ j * 2 ^ t), by
    rw [Nat.pow_add, ← Nat.mul_assoc, Nat.mul_comm _ (2 ^ 2), show (2 : Nat) ^ 2 = 4 from rfl, ← he, h2]; simp only [Nat.mul_assoc]⟩
  have := Nat.le_of_dvd (by omega) (odd_dvd (by omega) this)
  omega
theorem near_away2 {m : Nat} {e : Int} {w : Nat} {le lt : Nat → Prop} (c : Cut le lt) (hn : ∀ k n, n ≤ numk k m e ↔ PkC k w le lt n)
    (h : ∀ n, n ≤ MR → 4503599627370496 < n → le ((mag (n - 1) + mag n) * w) → lt ((mag (n - 1) + mag n) * w)) :
    numk 2 m e = numk 3 m e ∨ (numk 2 m e < 4503599627370496 ∧ numk 3 m e ≤ 4503599627370496) := by
  have a := (hn 3 (numk 3 m e)).1 (Nat.le_refl _)
  have b := (hn 2 (numk 2 m e)).1 (Nat.le_refl _)
  have h23 : numk 2 m e ≤ numk 3 m e := (hn 3 _).2 ⟨b.1, by
    rcases b.2 with h0 | h0 | ⟨h0, -⟩
    · exact Or.inl h0
    · exact Or.inr (c.weak _ h0)
    · exact Or.inr h0⟩
  rcases a.2 with h0 | h0
  · left; omega
  · rcases Nat.lt_or_ge 4503599627370496 (numk 3 m e) with h1 | h1
    · left
      have := (hn 2 (numk 3 m e)).2 ⟨a.1, Or.inr (Or.inl (h _ a.1 h1 h0))⟩
      omega
    · by_cases h2 : numk 3 m e % 2 = 0
      · left
        have := (hn 2 (numk 3 m e)).2 ⟨a.1, Or.inr (Or.inr ⟨h0, h2⟩)⟩
        omega
      · right; omega
theorem exTq (a : Int) : ∃ t : Nat, 0 ≤ a + t := ⟨(-a).toNat, by omega⟩
/-- of a quotient -/
theorem ratio_never {c d : Nat} (hc : c ≠ 0) (hc2 : c < 2 ^ 53) (hd : d ≠ 0) (neg : Bool) (E : Int) :
    numk 2 (ratD neg c d E).m (ratD neg c d E).e = numk 3 (ratD neg c d E).m (ratD neg c d E).e ∨ (numk 2 (ratD neg c d E).m (ratD neg c d E).e < 4503599627370496 ∧ numk 3 (ratD neg c d E).m (ratD neg c d E).e ≤ 4503599627370496) := by
  obtain ⟨t, ht⟩ := exTq (E - qk c d - 2 + 1074)
  refine near_away2 (cut_ratio _ (by omega)) (fun k n => (ratio_num hc hd ht neg k n).1) (fun n h1 h2 h3 => ?_)
  have := ratio_no_tie (t := t) (d := d) (z := (E + 1074 + (t : Int)).toNat) hc hc2 h2
  exact Nat.lt_of_le_of_ne h3 this
theorem ratio_mono {c d c' d' : Nat} (hc : c ≠ 0) (hd : d ≠ 0) (hc' : c' ≠ 0) (hd' : d' ≠ 0) (neg neg' : Bool) (E E' : Int) (k : Nat) {t : Nat} (ht : 0 ≤ E - qk c d - 2 + 1074 + t) (ht' : 0 ≤ E' - qk c' d' - 2 + 1074 + t)
    (h : c * 2 ^ (E + 1074 + t).toNat * d' ≤ c' * 2 ^ (E' + 1074 + t).toNat * d) : numk k (ratD neg c d E).m (ratD neg c d E).e ≤ numk k (ratD neg' c' d' E').m (ratD neg' c' d' E').e := by
  have a := (ratio_num hc hd ht neg k _).1.1 (Nat.le_refl _)
  refine (ratio_num hc' hd' ht' neg' k _).1.2 (PkC_mono ?_ ?_ a)
  · intro M hM
    have hM : M * d ≤ 2 * (c * 2 ^ (E + 1074 + (t : Int)).toNat) := hM
    show M * d' ≤ 2 * (c' * 2 ^ (E' + 1074 + (t : Int)).toNat)
    generalize c * 2 ^ (E + 1074 + (t : Int)).toNat = A at *
    generalize c' * 2 ^ (E' + 1074 + (t : Int)).toNat = B at *
    refine Nat.le_of_mul_le_mul_right (c := d) ?_ (by omega)
    have h5 := Nat.mul_le_mul_right d' hM
    rw [Nat.mul_assoc 2 A] at h5
    rw [Nat.mul_assoc 2 B, Nat.mul_right_comm M d' d]; omega
  · intro M hM
    have hM : M * d < 2 * (c * 2 ^ (E + 1074 + (t : Int)).toNat) := hM
    show M * d' < 2 * (c' * 2 ^ (E' + 1074 + (t : Int)).toNat)
    generalize c * 2 ^ (E + 1074 + (t : Int)).toNat = A at *
    generalize c' * 2 ^ (E' + 1074 + (t : Int)).toNat = B at *
    refine Nat.lt_of_mul_lt_mul_right (a := d) ?_
    have h5 := Nat.mul_lt_mul_of_pos_right hM (show 0 < d' by omega)
    rw [Nat.mul_assoc 2 A] at h5
    rw [Nat.mul_assoc 2 B, Nat.mul_right_comm M d' d]; omega
/-- a quotient that is a number -/
theorem ratio_exact {c d : Nat} (hc : c ≠ 0) (hd : d ≠ 0) (neg : Bool) (E : Int) {t : Nat} (ht : 0 ≤ E - qk c d - 2 + 1074 + t) {r : Nat} (hr : r < MR) (h : mag r * 2 ^ t * d = c * 2 ^ (E + 1074 + t).toNat) (k : Nat) :
    numk k (ratD neg c d E).m (ratD neg c d E).e = r ∧ chg (ratD neg c d E).m (ratD neg c d E).e = false := by
  refine ⟨num_at (Nat.two_pow_pos t) (cut_ratio _ (by omega)) (fun k n => (ratio_num hc hd ht neg k n).1) hr ?_ ?_ k, (ratio_num hc hd ht neg 0 0).2.2 ⟨r, hr, h⟩⟩
  · rw [Nat.mul_assoc 2, h]; exact Nat.le_refl _
  · rw [Nat.mul_assoc 2, h]; exact Nat.lt_irrefl _

/-- how far a number is moved up ahead of its root -/
def rk (e : Int) : Nat := if (e - 160) % 2 = 0 then 160 else 161
theorem rk_ev (e : Int) : 2 * ((e - rk e) / 2) = e - rk e := by unfold rk; split <;> omega
/-- quot.Root: r is the root of c * 2^rk, rounded down -/
def rtD (r c : Nat) (e : Int) : D := rootD r (c * 2 ^ rk e) ((e - rk e) / 2)
theorem root_big {r c : Nat} {e : Int} (hc : c ≠ 0) (h : IsRoot (c * 2 ^ rk e) r) : 2 ^ 60 ≤ r := by
  rcases Nat.lt_or_ge r (2 ^ 60) with h1 | h1
  · exfalso
    have h2 := h.2
    have h3 : (r + 1) * (r + 1) ≤ 2 ^ 60 * 2 ^ 60 := Nat.mul_le_mul h1 h1
    have h4 : 1 * 2 ^ rk e ≤ c * 2 ^ rk e := Nat.mul_le_mul_right _ (by omega)
    have h5 : 2 ^ 120 ≤ 2 ^ rk e := Nat.pow_le_pow_right (by decide) (by unfold rk; split <;> omega)
    rw [← Nat.pow_add] at h3
    omega
  · exact h1
theorem root_law {r c : Nat} {e : Int} (hc : c ≠ 0) (h : IsRoot (c * 2 ^ rk e) r) {t : Nat} (ht : 0 ≤ e - rk e - 4 + 2148 + 2 * t) (k n : Nat) :
    (n ≤ numk k (rtD r c e).m (rtD r c e).e ↔ PkC k (2 ^ t) (fun M => M * M ≤ 4 * (c * 2 ^ (e + 2148 + 2 * t).toNat)) (fun M => M * M < 4 * (c * 2 ^ (e + 2148 + 2 * t).toNat)) n) ∧
    (chg (rtD r c e).m (rtD r c e).e = false ↔ ∃ s, s < MR ∧ (mag s * 2 ^ t) * (mag s * 2 ^ t) = c * 2 ^ (e + 2148 + 2 * t).toNat) := by
  have he := rk_ev e
  have := root_num h (root_big hc h) (E := (e - rk e) / 2) (t := t) (by omega) k n
  have e1 : c * 2 ^ rk e * 2 ^ (2 * ((e - (rk e : Int)) / 2 + 1074 + (t : Int)).toNat) = c * 2 ^ (e + 2148 + 2 * (t : Int)).toNat := by
    rw [Nat.mul_assoc, ← Nat.pow_add]; congr 2; omega
  rw [e1] at this
  exact this
theorem root_never {r c : Nat} {e : Int} (hc : c ≠ 0) (hc2 : c < 2 ^ 53) (he : -1074 ≤ e) (h : IsRoot (c * 2 ^ rk e) r) : numk 2 (rtD r c e).m (rtD r c e).e = numk 3 (rtD r c e).m (rtD r c e).e := by
  obtain ⟨t, ht⟩ := exTq (e - rk e - 4 + 2148)
  have hl := fun k n => (root_law hc h (t := t) (by omega) k n).1
  have key : ∀ n, n ≤ 4503599627370496 → (mag (n - 1) + mag n) * 2 ^ t * ((mag (n - 1) + mag n) * 2 ^ t) < 4 * (c * 2 ^ (e + 2148 + 2 * (t : Int)).toNat) := by
    intro n hn
    have a : mag (n - 1) ≤ 2 ^ 52 := by
      have := mag_mono (show n - 1 ≤ 4503599627370496 by omega)
      have := mag_of 4503599627370496 0 (by omega) (by omega)
      simp at this; omega
    have b : mag n ≤ 2 ^ 52 := by
      have := mag_mono hn
      have := mag_of 4503599627370496 0 (by omega) (by omega)
      simp at this; omega
    have c1 : (mag (n - 1) + mag n) * 2 ^ t ≤ 2 ^ 53 * 2 ^ t := Nat.mul_le_mul_right _ (by omega)
    have c2 := Nat.mul_le_mul c1 c1
    rw [← Nat.pow_add, ← Nat.pow_add] at c2
    have c3 : 2 ^ (53 + t + (53 + t)) < 2 ^ (e + 2148 + 2 * (t : Int)).toNat := Nat.pow_lt_pow_right (by decide) (by omega)
    have c4 : 1 * 2 ^ (e + 2148 + 2 * (t : Int)).toNat ≤ c * 2 ^ (e + 2148 + 2 * (t : Int)).toNat := Nat.mul_le_mul_right _ (by omega)
    omega
  rcases near_away2 (cut_root _) hl (fun n h1 h2 h3 => Nat.lt_of_le_of_ne h3 (root_no_tie hc hc2 h2)) with h1 | ⟨h1, h2⟩
  · exact h1
  · have a := (hl 3 _).1 (Nat.le_refl _)
    have h23 := (hl 2 (numk 3 (rtD r c e).m (rtD r c e).e)).2 ⟨a.1, Or.inr (Or.inl (key _ h2))⟩
    have b := (hl 2 _).1 (Nat.le_refl (numk 2 (rtD r c e).m (rtD r c e).e))
    have h32 := (hl 3 (numk 2 (rtD r c e).m (rtD r c e).e)).2 ⟨b.1, Or.inr (Nat.le_of_lt (key _ (by omega)))⟩
    omega
theorem root_mono {r c r' c' : Nat} {e e' : Int} (hc : c ≠ 0) (h : IsRoot (c * 2 ^ rk e) r) (hc' : c' ≠ 0) (h' : IsRoot (c' * 2 ^ rk e') r') (k : Nat) {t : Nat} (ht : 0 ≤ e - rk e - 4 + 2148 + 2 * t) (ht' : 0 ≤ e' - rk e' - 4 + 2148 + 2 * t)
    (hle : c * 2 ^ (e + 2148 + 2 * t).toNat ≤ c' * 2 ^ (e' + 2148 + 2 * t).toNat) : numk k (rtD r c e).m (rtD r c e).e ≤ numk k (rtD r' c' e').m (rtD r' c' e').e := by
  have a := (root_law hc h ht k _).1.1 (Nat.le_refl _)
  refine (root_law hc' h' ht' k _).1.2 (PkC_mono ?_ ?_ a)
  · intro M hM
    have hM : M * M ≤ 4 * (c * 2 ^ (e + 2148 + 2 * (t : Int)).toNat) := hM
    show M * M ≤ 4 * (c' * 2 ^ (e' + 2148 + 2 * (t : Int)).toNat)
    omega
  · intro M hM
    have hM : M * M < 4 * (c * 2 ^ (e + 2148 + 2 * (t : Int)).toNat) := hM
    show M * M < 4 * (c' * 2 ^ (e' + 2148 + 2 * (t : Int)).toNat)
    omega
theorem root_exact {r c : Nat} {e : Int} (hc : c ≠ 0) (h : IsRoot (c * 2 ^ rk e) r) {t : Nat} (ht : 0 ≤ e - rk e - 4 + 2148 + 2 * t) {s : Nat} (hs : s < MR) (hx : (mag s * 2 ^ t) * (mag s * 2 ^ t) = c * 2 ^ (e + 2148 + 2 * t).toNat) (k : Nat) :
    numk k (rtD r c e).m (rtD r c e).e = s ∧ chg (rtD r c e).m (rtD r c e).e = false := by
  refine ⟨num_at (Nat.two_pow_pos t) (cut_root _) (fun k n => (root_law hc h ht k n).1) hs ?_ ?_ k, (root_law hc h ht 0 0).2.2 ⟨s, hs, hx⟩⟩
  · rw [Nat.mul_mul_mul_comm 2, hx]; exact Nat.le_refl _
  · rw [Nat.mul_mul_mul_comm 2, hx]; exact Nat.lt_irrefl _
end Go.Proofs.YthlocmhfjandlaaGreatDoor.Fm
