/-
  PLAIN: a number beside another one, rounded. No Go function here.
-/
import Derived.Test.YtmpdbmaokbhcjaaDoorBa
set_option linter.unusedVariables false
set_option linter.unusedSimpArgs false
namespace Go.Proofs.YtmpdbmaokbhcjaaDoor.Fm

theorem numk_01 (k m : Nat) (e : Int) : numk 0 m e ≤ numk k m e ∧ numk k m e ≤ numk 0 m e + 1 := by
  obtain ⟨h1, h2⟩ := @numk_sides m e k
  cases hc : chg m e
  · have ht : (0 : Int) ≤ e + 1074 + ((-(e + 1074)).toNat : Nat) := by omega
    obtain ⟨a1, a2⟩ := chg_exact ht 0 hc
    have := numk_exact ht k _ a1 a2
    omega
  · have := h1 hc; omega
theorem mag_lt_ulp (r : Nat) : mag r < 9007199254740992 * ulp r := by
  unfold mag ulp
  split
  · rename_i h
    have := Nat.two_pow_pos (r / 4503599627370496 - 1)
    omega
  · exact Nat.mul_lt_mul_of_pos_right (by omega) (Nat.two_pow_pos _)
theorem mag_form (r : Nat) : ∃ q j, mag r = q * 2 ^ j ∧ q < 9007199254740992 := by
  unfold mag
  split
  · exact ⟨r, 0, by simp, by omega⟩
  · exact ⟨_, _, rfl, by omega⟩
/-- an odd number of more bits than a FRAC has is no number -/
theorem odd_lost {S : Nat} {e : Int} (ho : S % 2 = 1) (hS : 9007199254740992 ≤ S) : chg S e = true := by
  cases hc : chg S e
  · exfalso
    have ht : (0 : Int) ≤ e + 1074 + ((-(e + 1074)).toNat : Nat) := by omega
    obtain ⟨r, h1, h2⟩ := (chg_iff ht).1 hc
    obtain ⟨q, j, h3, h4⟩ := mag_form r
    rw [h3] at h2
    unfold tt at h2
    have hq : q ≠ 0 := by
      rintro rfl
      rw [Nat.zero_mul, Nat.zero_mul] at h2
      rcases Nat.mul_eq_zero.1 h2 with h | h
      · omega
      · have := Nat.two_pow_pos (e + 1074 + (-(e + 1074)).toNat).toNat; omega
    obtain ⟨p, h5, h6⟩ := ctz_spec hq
    rw [h5, Nat.mul_assoc, Nat.mul_assoc, ← Nat.pow_add, ← Nat.pow_add] at h2
    have := (odd_pow_inj ho h6 h2).1
    have h7 : p * 1 ≤ p * 2 ^ ctz q := Nat.mul_le_mul_left _ (Nat.two_pow_pos _)
    omega
  · rfl
/-- both beside one number are two apart at most -/
theorem beside_gap {m : Nat} (hm : m ≠ 0) (e : Int) (k : Nat) : numk k (m * 2 ^ 64 + 1) e ≤ numk k (m * 2 ^ 64 - 1) e + 2 := by
  have h1 := (numk_01 k (m * 2 ^ 64 + 1) e).2
  have h2 := (numk_01 k (m * 2 ^ 64 - 1) e).1
  have hS : 18446744073709551616 ≤ m * 2 ^ 64 := by omega
  generalize m * 2 ^ 64 = S at *
  have key : numk 0 (S + 1) e ≤ numk 0 (S - 1) e + 1 := by
    have ht : (0 : Int) ≤ e + 1074 + ((-(e + 1074)).toNat : Nat) := by omega
    generalize (-(e + 1074)).toNat = t at ht
    have h3 := (numk_iff ht 0 _).1 (Nat.le_refl (numk 0 (S + 1) e))
    simp only [Pk] at h3
    rcases Nat.eq_zero_or_pos (numk 0 (S + 1) e) with h0 | h0
    · omega
    · obtain ⟨n, hn⟩ : ∃ n, numk 0 (S + 1) e = n + 1 := ⟨numk 0 (S + 1) e - 1, by omega⟩
      rw [hn] at h3 ⊢
      have h4 : n ≤ numk 0 (S - 1) e := by
        rw [numk_iff ht]
        simp only [Pk]
        refine ⟨by omega, ?_⟩
        obtain ⟨-, h3⟩ := h3
        rw [mag_succ, Nat.add_mul] at h3
        have h5 := Nat.mul_lt_mul_of_pos_right (mag_lt_ulp n) (Nat.two_pow_pos t)
        rw [Nat.mul_assoc] at h5
        unfold tt at h3 ⊢
        generalize 2 ^ (e + 1074 + (t : Int)).toNat = X at *
        generalize ulp n * 2 ^ t = U at *
        generalize mag n * 2 ^ t = M at *
        rw [Nat.add_mul, Nat.one_mul] at h3
        rw [Nat.sub_mul, Nat.one_mul]
        have h6 : 18446744073709551616 * X ≤ S * X := Nat.mul_le_mul_right _ hS
        generalize S * X = P at *
        omega
      omega
  omega
theorem tiny_le (k : Nat) : numk k 1 (-2000) ≤ 1 := by
  have h1 := (numk_01 k 1 (-2000)).2
  have h2 : ¬ 1 ≤ numk 0 1 (-2000) := by
    obtain ⟨t, ht⟩ : ∃ t : Nat, t = 926 := ⟨_, rfl⟩
    rw [numk_iff (t := t) (by omega)]
    simp only [Pk]
    rintro ⟨-, h⟩
    have h3 : mag 1 = 1 := by simp [mag]
    rw [h3] at h
    unfold tt at h
    have h4 : 1 < 2 ^ t := Nat.one_lt_two_pow (by omega)
    rw [show ((-2000 : Int) + 1074 + (t : Int)).toNat = 0 from by omega] at h
    generalize 2 ^ t = Y at *
    omega
  omega
theorem tiny_lost : chg 1 (-2000) = true := by
  cases hc : chg 1 (-2000)
  · exfalso
    obtain ⟨t, ht⟩ : ∃ t : Nat, t = 926 := ⟨_, rfl⟩
    obtain ⟨r, h1, h2⟩ := (chg_iff (t := t) (by omega)).1 hc
    unfold tt at h2
    rw [show ((-2000 : Int) + 1074 + (t : Int)).toNat = 0 from by omega] at h2
    have h4 : 1 < 2 ^ t := Nat.one_lt_two_pow (by omega)
    generalize 2 ^ t = Y at *
    rcases Nat.eq_zero_or_pos (mag r) with h | h
    · rw [h] at h2; omega
    · have : 1 * Y ≤ mag r * Y := Nat.mul_le_mul_right _ h
      omega
  · rfl

/-- the bound t that serves both exponents -/
theorem sg_beside (neg : Bool) (m : Nat) (e : Int) (t : Nat) (ht : 0 ≤ e - 64 + 1074 + t) (hm : m ≠ 0) :
    sg t neg (m * 2 ^ 64 - 1) (e - 64) = sg t neg m e + (if neg then 1 else -1) * (2 ^ (e - 64 + 1074 + t).toNat : Nat) ∧
    sg t neg (m * 2 ^ 64 + 1) (e - 64) = sg t neg m e - (if neg then 1 else -1) * (2 ^ (e - 64 + 1074 + t).toNat : Nat) := by
  have h1 : tt t m e = m * 2 ^ 64 * 2 ^ (e - 64 + 1074 + t).toNat := by
    unfold tt
    rw [Nat.mul_assoc, ← Nat.pow_add]
    congr 2; omega
  have h2 : 1 ≤ m * 2 ^ 64 := by omega
  unfold sg
  rw [h1]
  unfold tt
  rw [Nat.add_mul, Nat.sub_mul, Nat.one_mul]
  have h3 : 1 * 2 ^ (e - 64 + 1074 + (t : Int)).toNat ≤ m * 2 ^ 64 * 2 ^ (e - 64 + 1074 + (t : Int)).toNat := Nat.mul_le_mul_right _ h2
  generalize 2 ^ (e - 64 + 1074 + (t : Int)).toNat = X at *
  generalize m * 2 ^ 64 * X = P at *
  cases neg <;> simp <;> omega
theorem sg_zero (t : Nat) (neg : Bool) (e : Int) : sg t neg 0 e = 0 := by unfold sg tt; simp

theorem beside_up (neg : Bool) (m : Nat) (e mode : Int) (hm : m ≠ 0) :
    (neg = false → rg neg mode (m * 2 ^ 64 - 1) (e - 64) ≤ rg neg mode m e ∧ rg neg mode m e ≤ rg neg mode (m * 2 ^ 64 + 1) (e - 64) ∧ rg neg mode (m * 2 ^ 64 + 1) (e - 64) - rg neg mode (m * 2 ^ 64 - 1) (e - 64) ≤ 2) ∧
    (neg = true → rg neg mode (m * 2 ^ 64 + 1) (e - 64) ≤ rg neg mode m e ∧ rg neg mode m e ≤ rg neg mode (m * 2 ^ 64 - 1) (e - 64) ∧ rg neg mode (m * 2 ^ 64 - 1) (e - 64) - rg neg mode (m * 2 ^ 64 + 1) (e - 64) ≤ 2) := by
  have ht : 0 ≤ e - 64 + 1074 + ((-(e - 64 + 1074)).toNat : Nat) := by omega
  have ht2 : 0 ≤ e + 1074 + ((-(e - 64 + 1074)).toNat : Nat) := by omega
  generalize (-(e - 64 + 1074)).toNat = t at *
  obtain ⟨s1, s2⟩ := sg_beside neg m e t ht hm
  have hp := Nat.two_pow_pos (e - 64 + 1074 + (t : Int)).toNat
  have hg := beside_gap hm (e - 64) (kd neg mode)
  generalize 2 ^ (e - 64 + 1074 + (t : Int)).toNat = X at *
  constructor
  · rintro rfl
    simp only [Bool.false_eq_true, if_false] at s1 s2
    refine ⟨rg_mono ht ht2 mode (by rw [s1]; omega), rg_mono ht2 ht mode (by rw [s2]; omega), ?_⟩
    unfold rg; simp only [Bool.false_eq_true, if_false]; omega
  · rintro rfl
    simp only [if_true] at s1 s2
    refine ⟨rg_mono ht ht2 mode (by rw [s2]; omega), rg_mono ht2 ht mode (by rw [s1]; omega), ?_⟩
    unfold rg; simp only [if_true]; omega
end Go.Proofs.YtmpdbmaokbhcjaaDoor.Fm
