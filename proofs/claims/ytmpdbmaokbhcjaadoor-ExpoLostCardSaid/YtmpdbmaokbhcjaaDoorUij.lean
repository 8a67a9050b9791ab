/-
  SOME OF MY TEXTS in one: Ui Uj Uk Uq Ur. Each says what it proves.
-/
import Derived.Test.YtmpdbmaokbhcjaaDoorUg
import Derived.Test.YtmpdbmaokbhcjaaDoorPar
import Derived.Test.YtmpdbmaokbhcjaaDoorBes
set_option linter.unusedVariables false
set_option linter.unusedSimpArgs false
/-
  PLAIN: what lies close beside a number, or beyond all of them, rounded.
-/
namespace Go.Proofs.YtmpdbmaokbhcjaaDoor
open Go.RowKit Nt Fm Fl
open Ea (tw PB Lo Hi)

theorem Pk_same2 {k t T T' n : Nat} (h : T ≤ T') (hA : ∀ n, ¬ (T ≤ mag n * 2 ^ t ∧ mag n * 2 ^ t ≤ T')) (hB : ∀ n, ¬ (2 * T ≤ (mag n + mag (n + 1)) * 2 ^ t ∧ (mag n + mag (n + 1)) * 2 ^ t ≤ 2 * T')) (hp : Pk k t T' n) : Pk k t T n := by
  have a := hA n
  have b := hA (n - 1)
  rcases Nat.eq_zero_or_pos n with h0 | h0
  · subst h0
    rcases k with _ | _ | _ | k <;> simp [Pk, mag_zero]
  · have c := hB (n - 1)
    rw [show n - 1 + 1 = n by omega] at c
    rcases k with _ | _ | _ | k <;> simp only [Pk] at * <;> omega
theorem numk_same2 {t m m' : Nat} {e e' : Int} (ht : 0 ≤ e + 1074 + t) (ht' : 0 ≤ e' + 1074 + t) (h : tt t m e ≤ tt t m' e') (hA : ∀ n, ¬ (tt t m e ≤ mag n * 2 ^ t ∧ mag n * 2 ^ t ≤ tt t m' e'))
    (hB : ∀ n, ¬ (2 * tt t m e ≤ (mag n + mag (n + 1)) * 2 ^ t ∧ (mag n + mag (n + 1)) * 2 ^ t ≤ 2 * tt t m' e')) (k : Nat) : numk k m e = numk k m' e' ∧ chg m e = true ∧ chg m' e' = true := by
  refine ⟨Nat.le_antisymm (numk_mono ht ht' k h) ((numk_iff ht k _).2 (Pk_same2 h hA hB ((numk_iff ht' k _).1 (Nat.le_refl _)))), ?_, ?_⟩
  · cases hc : chg m e
    · obtain ⟨r, -, h2⟩ := (chg_iff ht).1 hc
      have := hA r
      omega
    · rfl
  · cases hc : chg m' e'
    · obtain ⟨r, -, h2⟩ := (chg_iff ht').1 hc
      have := hA r
      omega
    · rfl
theorem mag_le_ulp (r : Nat) : mag (r + 1) ≤ 18014398509481984 * ulp r := by
  have h1 := mag_lt_ulp r
  have h2 := mag_succ r
  have h3 := ulp_pos r
  omega
/-- a little farther from 0 than a number -/
theorem up_same {r t T T' : Nat} (h0 : mag r * 2 ^ t < T) (h : T ≤ T') (h1 : (T' - mag r * 2 ^ t) * 2 ^ 56 ≤ mag r * 2 ^ t) :
    (∀ n, ¬ (T ≤ mag n * 2 ^ t ∧ mag n * 2 ^ t ≤ T')) ∧ (∀ n, ¬ (2 * T ≤ (mag n + mag (n + 1)) * 2 ^ t ∧ (mag n + mag (n + 1)) * 2 ^ t ≤ 2 * T')) := by
  have hw := Nat.two_pow_pos t
  have m1 := mag_lt_ulp r
  have m2 := mag_succ r
  have smono : ∀ {x y : Nat}, x ≤ y → mag x * 2 ^ t ≤ mag y * 2 ^ t := fun h => Nat.mul_le_mul_right _ (mag_mono h)
  have e1 : mag (r + 1) * 2 ^ t = mag r * 2 ^ t + ulp r * 2 ^ t := by rw [m2, Nat.add_mul]
  have e2 := Nat.mul_lt_mul_of_pos_right m1 hw
  rw [Nat.mul_assoc] at e2
  have key : 2 * T' < mag r * 2 ^ t + mag (r + 1) * 2 ^ t := by omega
  constructor
  · rintro n ⟨a, b⟩
    rcases Nat.lt_or_ge r n with hn | hn
    · have := smono (show r + 1 ≤ n by omega); omega
    · have := smono hn; omega
  · rintro n ⟨a, b⟩
    rw [Nat.add_mul] at a b
    rcases Nat.lt_or_ge n r with hn | hn
    · have := smono (show n ≤ r by omega)
      have := smono (show n + 1 ≤ r by omega)
      omega
    · have := smono hn
      have := smono (show r + 1 ≤ n + 1 by omega)
      omega
/-- a little nearer to 0 -/
theorem dn_same {r t T T' : Nat} (h0 : T' < mag r * 2 ^ t) (h : T ≤ T') (h1 : (mag r * 2 ^ t - T) * 2 ^ 56 ≤ mag r * 2 ^ t) :
    (∀ n, ¬ (T ≤ mag n * 2 ^ t ∧ mag n * 2 ^ t ≤ T')) ∧ (∀ n, ¬ (2 * T ≤ (mag n + mag (n + 1)) * 2 ^ t ∧ (mag n + mag (n + 1)) * 2 ^ t ≤ 2 * T')) := by
  have hw := Nat.two_pow_pos t
  rcases Nat.eq_zero_or_pos r with hr | hr
  · subst hr
    rw [mag_zero] at h0
    omega
  obtain ⟨s, rfl⟩ : ∃ s, r = s + 1 := ⟨r - 1, by omega⟩
  have m1 := mag_le_ulp s
  have m2 := mag_succ s
  have smono : ∀ {x y : Nat}, x ≤ y → mag x * 2 ^ t ≤ mag y * 2 ^ t := fun h => Nat.mul_le_mul_right _ (mag_mono h)
  have e1 : mag (s + 1) * 2 ^ t = mag s * 2 ^ t + ulp s * 2 ^ t := by rw [m2, Nat.add_mul]
  have e2 := Nat.mul_le_mul_right (2 ^ t) m1
  rw [Nat.mul_assoc] at e2
  have hu : 0 < ulp s * 2 ^ t := Nat.mul_pos (ulp_pos s) hw
  have key : mag s * 2 ^ t + mag (s + 1) * 2 ^ t < 2 * T := by omega
  constructor
  · rintro n ⟨a, b⟩
    rcases Nat.lt_or_ge s n with hn | hn
    · have := smono (show s + 1 ≤ n by omega); omega
    · have := smono hn; omega
  · rintro n ⟨a, b⟩
    rw [Nat.add_mul] at a b
    rcases Nat.lt_or_ge s n with hn | hn
    · have := smono (show s + 1 ≤ n by omega)
      have := smono (show s + 1 ≤ n + 1 by omega)
      omega
    · have := smono hn
      have := smono (show n + 1 ≤ s + 1 by omega)
      omega
/-- the magnitude in counts -/
theorem abs_vl {d : D} {t : Nat} (h : 0 ≤ d.e + 1074 + t) : (rv d).abs * 2 ^ (1074 + t) = ((tt t d.m d.e : Nat) : Rat) := by
  have a := rv_vl d (T := 1074 + t) (by omega)
  have sd : d.vl (1074 + t) = if d.neg then -((tt t d.m d.e : Nat) : Int) else ((tt t d.m d.e : Nat) : Int) := by rw [← sg_vl]; rfl
  have hP := Ea.two_pos (1074 + t)
  have hn := Rat.natCast_nonneg (a := tt t d.m d.e)
  rw [sd] at a
  cases hg : d.neg
  · rw [hg] at a
    simp only [Bool.false_eq_true, if_false] at a
    have h0 : 0 ≤ rv d := by
      refine Rat.not_lt.1 fun e => ?_
      have := (rv_lt e).1
      rw [hg] at this; cases this
    rw [Rat.abs_of_nonneg h0, a]; rfl
  · rw [hg] at a
    simp only [if_true] at a
    have h0 : rv d ≤ 0 := by
      refine Rat.not_lt.1 fun e => ?_
      have := (rv_gt e).1
      rw [hg] at this; cases this
    rw [Rat.abs_of_nonpos h0, Rat.neg_mul, a, Rat.intCast_neg, Rat.neg_neg]; rfl
theorem numR_same2 {z y : D} {t : Nat} (h1 : 0 ≤ z.e + 1074 + t) (h2 : 0 ≤ y.e + 1074 + t) (hn : z.neg = y.neg) (h : tt t z.m z.e ≤ tt t y.m y.e) (hA : ∀ n, ¬ (tt t z.m z.e ≤ mag n * 2 ^ t ∧ mag n * 2 ^ t ≤ tt t y.m y.e))
    (hB : ∀ n, ¬ (2 * tt t z.m z.e ≤ (mag n + mag (n + 1)) * 2 ^ t ∧ (mag n + mag (n + 1)) * 2 ^ t ≤ 2 * tt t y.m y.e)) (mode : Int) : numR z mode = numR y mode ∧ numC z = true ∧ numC y = true := by
  have key := numk_same2 h1 h2 h hA hB (kd z.neg mode)
  unfold numR numC
  rw [← hn, key.1]
  exact ⟨rfl, key.2⟩
theorem neg_of_pos {z : D} (h : 0 < rv z) : z.neg = false := (rv_gt h).1
theorem neg_of_lt {z : D} (h : rv z < 0) : z.neg = true := (rv_lt h).1
/-- two that lie beside one number, close to it, are rounded to one -/
theorem beside_same {x : Int} (x0 : 0 ≤ x) (x1 : x ≤ 18446744073709551615) (hx : fabs x < 9218868437227405312) {z y : D} (mode : Int)
    (h : (rv (valD x) < rv z ∧ rv z ≤ rv y ∧ (rv y - rv (valD x)) * 2 ^ 56 ≤ (rv (valD x)).abs) ∨ (rv y < rv (valD x) ∧ rv z ≤ rv y ∧ (rv (valD x) - rv z) * 2 ^ 56 ≤ (rv (valD x)).abs)) : numR z mode = numR y mode ∧ numC z = true ∧ numC y = true := by
  obtain ⟨t, g1, g2, g3⟩ := exT3 ((valD x).e + 1074) (z.e + 1074) (y.e + 1074)
  have hP := Ea.two_pos (1074 + t)
  have a := abs_vl g1
  have b := abs_vl g2
  have c := abs_vl g3
  have hm : tt t (valD x).m (valD x).e = mag (fabs x).toNat * 2 ^ t := by
    rcases valD_tt x x0 x1 t with h | h
    · exact h
    · omega
  rw [hm] at a
  generalize (fabs x).toNat = r at *
  generalize rv (valD x) = d at *
  have lt : ∀ {p q : Rat} {i j : Nat}, p * 2 ^ (1074 + t) = (i : Rat) → q * 2 ^ (1074 + t) = (j : Rat) → p < q → i < j := fun hp hq h => by
    have := Rat.mul_lt_mul_of_pos_right h hP
    rw [hp, hq] at this
    exact Rat.natCast_lt_natCast.1 this
  have le : ∀ {p q : Rat} {i j : Nat}, p * 2 ^ (1074 + t) = (i : Rat) → q * 2 ^ (1074 + t) = (j : Rat) → p ≤ q → i ≤ j := fun hp hq h => by
    have := Rat.mul_le_mul_of_nonneg_right h (Rat.le_of_lt hP)
    rw [hp, hq] at this
    exact Rat.natCast_le_natCast.1 this
  have fr : ∀ {p q : Rat} {i j : Nat}, p * 2 ^ (1074 + t) = (i : Rat) → q * 2 ^ (1074 + t) = (j : Rat) → q ≤ p → (p - q) * 2 ^ 56 ≤ q → (i - j) * 2 ^ 56 ≤ j := fun {p q i j} hp hq hle h => by
    have h1 := le hq hp hle
    have h2 := Rat.mul_le_mul_of_nonneg_right h (Rat.le_of_lt hP)
    have h3 : (p - q) * 2 ^ 56 * 2 ^ (1074 + t) = (((i - j) * 2 ^ 56 : Nat) : Rat) := by
      obtain ⟨k, rfl⟩ : ∃ k, i = j + k := ⟨i - j, by omega⟩
      rw [Nat.add_sub_cancel_left, Rat.natCast_mul, Ea.cast_two]
      rw [Rat.natCast_add] at hp
      generalize (2 : Rat) ^ (1074 + t) = P at *
      generalize (2 : Rat) ^ 56 = U at *
      grind
    rw [h3, hq] at h2
    exact Rat.natCast_le_natCast.1 h2
  have fr2 : ∀ {p q : Rat} {i j : Nat}, p * 2 ^ (1074 + t) = (i : Rat) → q * 2 ^ (1074 + t) = (j : Rat) → p ≤ q → (q - p) * 2 ^ 56 ≤ q → (j - i) * 2 ^ 56 ≤ j := fun {p q i j} hp hq hle h => by
    have h1 := le hp hq hle
    have h2 := Rat.mul_le_mul_of_nonneg_right h (Rat.le_of_lt hP)
    have h3 : (q - p) * 2 ^ 56 * 2 ^ (1074 + t) = (((j - i) * 2 ^ 56 : Nat) : Rat) := by
      obtain ⟨k, rfl⟩ : ∃ k, j = i + k := ⟨j - i, by omega⟩
      rw [Nat.add_sub_cancel_left, Rat.natCast_mul, Ea.cast_two]
      rw [Rat.natCast_add] at hq
      generalize (2 : Rat) ^ (1074 + t) = P at *
      generalize (2 : Rat) ^ 56 = U at *
      grind
    rw [h3, hq] at h2
    exact Rat.natCast_le_natCast.1 h2
  have p56 : (1 : Rat) < 2 ^ 56 := by decide +kernel
  have half : ∀ u v : Rat, u * 2 ^ 56 ≤ v → 0 < v → u < v := fun u v h hv => by
    refine Rat.not_le.1 fun e => ?_
    have := Rat.mul_le_mul_of_nonneg_right e (show (0 : Rat) ≤ 2 ^ 56 by decide +kernel)
    have := Rat.mul_lt_mul_of_pos_left p56 hv
    grind
  rcases Rat.le_total (a := 0) (b := d) with hd | hd
  · rw [Rat.abs_of_nonneg hd] at a h
    rcases h with ⟨h1, h2, h3⟩ | ⟨h1, h2, h3⟩
    · have pz : 0 < rv z := by grind
      have py : 0 < rv y := by grind
      rw [Rat.abs_of_nonneg (Rat.le_of_lt pz)] at b
      rw [Rat.abs_of_nonneg (Rat.le_of_lt py)] at c
      obtain ⟨k1, k2⟩ := up_same (r := r) (t := t) (lt a b h1) (le b c h2) (fr c a (by grind) h3)
      exact numR_same2 g2 g3 (by rw [neg_of_pos pz, neg_of_pos py]) (le b c h2) k1 k2 mode
    · have pd : 0 < d := by
        refine Rat.not_le.1 fun e => ?_
        have d0 : d = 0 := by grind
        have u1 := Rat.mul_pos (show 0 < d - rv z by grind) (show (0 : Rat) < 2 ^ 56 by decide +kernel)
        grind
      have pz : 0 < rv z := by have := half _ _ h3 pd; grind
      have py : 0 < rv y := by grind
      rw [Rat.abs_of_nonneg (Rat.le_of_lt pz)] at b
      rw [Rat.abs_of_nonneg (Rat.le_of_lt py)] at c
      obtain ⟨k1, k2⟩ := dn_same (r := r) (t := t) (lt c a h1) (le b c h2) (fr2 b a (by grind) h3)
      exact numR_same2 g2 g3 (by rw [neg_of_pos pz, neg_of_pos py]) (le b c h2) k1 k2 mode
  · rw [Rat.abs_of_nonpos hd] at a h
    rcases h with ⟨h1, h2, h3⟩ | ⟨h1, h2, h3⟩
    · have pd : 0 < -d := by
        refine Rat.not_le.1 fun e => ?_
        have d0 : d = 0 := by grind
        have u1 := Rat.mul_pos (show 0 < rv y - d by grind) (show (0 : Rat) < 2 ^ 56 by decide +kernel)
        grind
      have py : rv y < 0 := by have := half _ _ h3 pd; grind
      have pz : rv z < 0 := by grind
      rw [Rat.abs_of_nonpos (Rat.le_of_lt pz)] at b
      rw [Rat.abs_of_nonpos (Rat.le_of_lt py)] at c
      obtain ⟨k1, k2⟩ := dn_same (r := r) (t := t) (lt b a (by grind)) (le c b (by grind)) (fr2 c a (by grind) (by grind))
      have := numR_same2 g3 g2 (by rw [neg_of_lt pz, neg_of_lt py]) (le c b (by grind)) k1 k2 mode
      exact ⟨this.1.symm, this.2.2, this.2.1⟩
    · have py : rv y < 0 := by grind
      have pz : rv z < 0 := by grind
      rw [Rat.abs_of_nonpos (Rat.le_of_lt pz)] at b
      rw [Rat.abs_of_nonpos (Rat.le_of_lt py)] at c
      obtain ⟨k1, k2⟩ := up_same (r := r) (t := t) (lt a c (by grind)) (le c b (by grind)) (fr b a (by grind) (by grind))
      have := numR_same2 g3 g2 (by rw [neg_of_lt pz, neg_of_lt py]) (le c b (by grind)) k1 k2 mode
      exact ⟨this.1.symm, this.2.2, this.2.1⟩
/-- beyond all numbers -/
theorem big_same {z y : D} (mode : Int) (hz : tw ((1024 : Nat) : Int) ≤ rv z) (hy : tw ((1024 : Nat) : Int) ≤ rv y) : numR z mode = numR y mode ∧ numC z = true ∧ numC y = true := by
  have p := Ea.tw_pos ((1024 : Nat) : Int)
  have aux : ∀ z : D, tw ((1024 : Nat) : Int) ≤ rv z → z.neg = false ∧ chg z.m z.e = true ∧ ∀ k, numk k z.m z.e = if k = 0 then MR - 1 else MR := by
    intro z hz
    have pz : 0 < rv z := by grind
    obtain ⟨hn, hm⟩ := rv_gt pz
    obtain ⟨t, g1, -⟩ := exT (z.e + 1074) (z.e + 1074)
    have b := abs_vl g1
    rw [Rat.abs_of_nonneg (Rat.le_of_lt pz)] at b
    have hP := Ea.two_pos (1074 + t)
    obtain ⟨K, hK⟩ : ∃ K, K = 2046 := ⟨_, rfl⟩
    have hMR : MR = 9218868437227405312 := rfl
    have hM : mag MR = 2 ^ (52 + K) := by
      have h := mag_of 4503599627370496 K (by omega) (by omega)
      have e : 4503599627370496 + K * 4503599627370496 = MR := by omega
      have e52 : (4503599627370496 : Nat) = 2 ^ 52 := by decide
      rw [e] at h
      rw [h, Nat.pow_add, e52]
    have hT : mag MR * 2 ^ t ≤ tt t z.m z.e := by
      have h1 := Rat.mul_le_mul_of_nonneg_right hz (Rat.le_of_lt hP)
      rw [b, ← Ea.tw_nat, ← Ea.tw_add] at h1
      have h2 : tw (((1024 : Nat) : Int) + ((1074 + t : Nat) : Int)) = ((mag MR * 2 ^ t : Nat) : Rat) := by
        rw [hM, ← Nat.pow_add, Ea.cast_two, ← Ea.tw_nat, show ((1024 : Nat) : Int) + ((1074 + t : Nat) : Int) = ((52 + K + t : Nat) : Int) by omega]
      rw [h2] at h1
      exact Rat.natCast_le_natCast.1 h1
    have hw := Nat.two_pow_pos t
    have smono : ∀ {x y : Nat}, x < y → mag x * 2 ^ t < mag y * 2 ^ t := fun h => Nat.mul_lt_mul_of_pos_right (mag_lt h) hw
    refine ⟨hn, ?_, fun k => ?_⟩
    · cases hc : chg z.m z.e
      · obtain ⟨r, h1, h2⟩ := (chg_iff g1).1 hc
        have := smono h1
        omega
      · rfl
    · have hle : numk k z.m z.e ≤ if k = 0 then MR - 1 else MR := by
        by_cases hk : k = 0
        · subst hk
          have := (numk_iff g1 0 _).1 (Nat.le_refl (numk 0 z.m z.e))
          simp only [Pk] at this
          rw [if_pos rfl]
          exact this.1
        · rw [if_neg hk]
          exact numk_le_MR k z.m z.e
      refine Nat.le_antisymm hle ((numk_iff g1 k _).2 ?_)
      have s1 := smono (show MR - 1 < MR by omega)
      rcases k with _ | _ | _ | k <;> simp only [Pk] <;> simp <;> (try rw [Nat.add_mul]) <;> omega
  obtain ⟨a1, a2, a3⟩ := aux z hz
  obtain ⟨b1, b2, b3⟩ := aux y hy
  unfold numR numC
  rw [a1, b1, a3, b3]
  exact ⟨rfl, a2, b2⟩
/-- nearer to 0 than all of them -/
theorem small_same {z y : D} (mode : Int) (hz : 0 < rv z) (hz1 : rv z < tw (-1075)) (hy : 0 < rv y) (hy1 : rv y < tw (-1075)) : numR z mode = numR y mode ∧ numC z = true ∧ numC y = true := by
  have key : ∀ (z y : D), 0 < rv z → rv y < tw (-1075) → rv z ≤ rv y → numR z mode = numR y mode ∧ numC z = true ∧ numC y = true := by
    intro z y h1 h2 h3
    refine same_between h3 (fun j => ?_) mode
    rintro ⟨a, b⟩
    have p := Ea.tw_pos (-1075)
    have j0 : 0 < j := by
      refine Int.not_le.1 fun e => ?_
      have := Ea.int_le_of (Rat.le_of_lt p) e
      have e0 : ((0 : Int) : Rat) = 0 := rfl
      rw [e0, Rat.zero_mul] at this
      grind
    have := Ea.int_le_of (Rat.le_of_lt p) (show 1 ≤ j by omega)
    have e1 : ((1 : Int) : Rat) = 1 := rfl
    rw [e1, Rat.one_mul] at this
    grind
  rcases Rat.le_total (a := rv z) (b := rv y) with h | h
  · exact key z y hz hy1 h
  · have := key y z hy hz1 h
    exact ⟨this.1.symm, this.2.2, this.2.1⟩
end Go.Proofs.YtmpdbmaokbhcjaaDoor

/-
  PLAIN: the ways of expo: what each tells is its cut, rounded.
-/
namespace Go.Proofs.YtmpdbmaokbhcjaaDoor
open Go.RowKit Nt Fm Fl
open Ea (tw PB Lo Hi)

theorem top_bd {d : D} (hm : d.m ≠ 0) : tw (topD d) ≤ (d.m : Rat) * tw d.e ∧ (d.m : Rat) * tw d.e < tw (topD d + 1) := by
  have h1 : 2 ^ (blen d.m - 1) ≤ d.m := bl_le hm
  have h2 : d.m < 2 ^ blen d.m := bl_lt d.m
  have h3 : 0 < blen d.m := bl_pos hm
  have ht := Ea.tw_pos d.e
  have g1 := Rat.mul_le_mul_of_nonneg_right (Rat.natCast_le_natCast.2 h1) (Rat.le_of_lt ht)
  have g2 := Rat.mul_lt_mul_of_pos_right (Rat.natCast_lt_natCast.2 h2) ht
  rw [Ea.cast_two, ← Ea.tw_nat, ← Ea.tw_add] at g1 g2
  unfold topD
  rw [show ((blen d.m - 1 : Nat) : Int) + d.e = (blen d.m : Int) + d.e - 1 by omega] at g1
  rw [show (blen d.m : Int) + d.e - 1 + 1 = (blen d.m : Int) + d.e by omega]
  exact ⟨g1, g2⟩
theorem abs_rv (d : D) : (rv d).abs = (d.m : Rat) * tw d.e := by
  have h0 := Rat.mul_nonneg (Rat.natCast_nonneg (a := d.m)) (Rat.le_of_lt (Ea.tw_pos d.e))
  obtain ⟨g, m, e⟩ := d
  cases g
  · rw [rv_pos]; exact Rat.abs_of_nonneg h0
  · rw [rv_neg, Rat.abs_neg]; exact Rat.abs_of_nonneg h0
theorem rv_abs {d : D} : (d.neg = false → rv d = (d.m : Rat) * tw d.e) ∧ (d.neg = true → rv d = -((d.m : Rat) * tw d.e)) := by
  obtain ⟨g, m, e⟩ := d
  constructor
  · rintro rfl; exact rv_pos
  · rintro rfl; exact rv_neg
/-- so many places farther -/
def shD (d : D) (k : Int) : D := ⟨d.neg, d.m, d.e + k⟩
theorem rv_shD (d : D) (k : Int) : rv (shD d k) = rv d * tw k := by
  unfold rv shD D.sm
  rw [Ea.tw_add, Rat.mul_assoc]
def p2D (k : Int) : D := ⟨false, 1, k⟩
theorem rv_p2D (k : Int) : rv (p2D k) = tw k := by
  unfold p2D
  rw [rv_pos]
  have : ((1 : Nat) : Rat) = 1 := rfl
  rw [this, Rat.one_mul]
theorem rv_oneD : rv (norm false 1 0) = 1 := by rw [rv_norm, rv_pos, Ea.tw_zero, Rat.mul_one]; rfl
theorem rv_mone : rv (opp (norm false 1 0)) = -1 := by rw [rv_opp, rv_oneD]
theorem tw_56 : (2 : Rat) ^ 56 = tw ((56 : Nat) : Int) := (Ea.tw_nat 56).symm
theorem Rn.mk3 {c : Cut} {mode : Int} {L z H : D} (h1 : c.lb (rv L)) (h2 : c.ub (rv H)) (a : numR L mode = numR z mode ∧ numC L = true ∧ numC z = true) (b : numR H mode = numR z mode ∧ numC H = true ∧ numC z = true) : Rn c mode (numR z mode) ∧ numC z = true :=
  ⟨⟨L, H, h1, h2, a.1, b.1, a.2.1, b.2.1⟩, a.2.2⟩
/-- close above, close below -/
def Abv (d : Rat) (z : D) : Prop := d < rv z ∧ (rv z - d) * 2 ^ 56 ≤ d.abs
def Bel (d : Rat) (z : D) : Prop := rv z < d ∧ (d - rv z) * 2 ^ 56 ≤ d.abs
theorem abv_same {x : Int} (x0 : 0 ≤ x) (x1 : x ≤ 18446744073709551615) (hx : fabs x < 9218868437227405312) {z y : D} (mode : Int) (hz : Abv (rv (valD x)) z) (hy : Abv (rv (valD x)) y) : numR z mode = numR y mode ∧ numC z = true ∧ numC y = true := by
  rcases Rat.le_total (a := rv z) (b := rv y) with h | h
  · exact beside_same x0 x1 hx mode (Or.inl ⟨hz.1, h, hy.2⟩)
  · have := beside_same x0 x1 hx mode (Or.inl ⟨hy.1, h, hz.2⟩)
    exact ⟨this.1.symm, this.2.2, this.2.1⟩
theorem bel_same {x : Int} (x0 : 0 ≤ x) (x1 : x ≤ 18446744073709551615) (hx : fabs x < 9218868437227405312) {z y : D} (mode : Int) (hz : Bel (rv (valD x)) z) (hy : Bel (rv (valD x)) y) : numR z mode = numR y mode ∧ numC z = true ∧ numC y = true := by
  rcases Rat.le_total (a := rv z) (b := rv y) with h | h
  · exact beside_same x0 x1 hx mode (Or.inr ⟨hy.1, h, hz.2⟩)
  · have := beside_same x0 x1 hx mode (Or.inr ⟨hz.1, h, hy.2⟩)
    exact ⟨this.1.symm, this.2.2, this.2.1⟩
/-- what round.Beside tells -/
theorem rv_bes {d : D} (hm : d.m ≠ 0) : rv (besD d 1) = rv d + tw (d.e - 64) ∧ rv (besD d (-1)) = rv d - tw (d.e - 64) := by
  have e : tw d.e = tw (d.e - 64) * ((2 ^ 64 : Nat) : Rat) := by rw [Ea.cast_two, ← Ea.tw_nat, ← Ea.tw_add]; congr 1; omega
  have hs : 1 ≤ d.m * 2 ^ 64 := by omega
  have e1 : ((1 : Nat) : Rat) = 1 := rfl
  have c1 : ((d.m * 2 ^ 64 + 1 : Nat) : Rat) = (d.m : Rat) * ((2 ^ 64 : Nat) : Rat) + 1 := by rw [Rat.natCast_add, Rat.natCast_mul, e1]
  have c2 : ((d.m * 2 ^ 64 - 1 : Nat) : Rat) = (d.m : Rat) * ((2 ^ 64 : Nat) : Rat) - 1 := by
    obtain ⟨k, hk⟩ : ∃ k, d.m * 2 ^ 64 = k + 1 := ⟨d.m * 2 ^ 64 - 1, by omega⟩
    have h1 : ((d.m * 2 ^ 64 : Nat) : Rat) = ((k + 1 : Nat) : Rat) := by rw [hk]
    rw [Rat.natCast_mul, Rat.natCast_add] at h1
    rw [hk, Nat.add_sub_cancel]
    rw [e1] at h1
    grind
  generalize ((2 ^ 64 : Nat) : Rat) = U at *
  obtain ⟨g, m, x⟩ := d
  simp only at *
  unfold besD
  rw [if_neg (by decide), if_neg (by simpa using hm), if_neg (by decide), if_neg (by simpa using hm)]
  cases g
  · have b1 : besM false m 1 = m * 2 ^ 64 + 1 := by unfold besM; rw [if_pos (by decide)]
    have b2 : besM false m (-1) = m * 2 ^ 64 - 1 := by unfold besM; rw [if_neg (by decide)]
    simp only [b1, b2]
    rw [rv_pos, rv_pos, rv_pos, c1, c2, e]
    generalize tw (x - 64) = t at *
    grind
  · have b1 : besM true m 1 = m * 2 ^ 64 - 1 := by unfold besM; rw [if_neg (by decide)]
    have b2 : besM true m (-1) = m * 2 ^ 64 + 1 := by unfold besM; rw [if_pos (by decide)]
    simp only [b1, b2]
    rw [rv_neg, rv_neg, rv_neg, c1, c2, e]
    generalize tw (x - 64) = t at *
    grind
theorem bes_close {d : D} (hm : d.m ≠ 0) : tw (d.e - 64) * 2 ^ 56 ≤ (rv d).abs := by
  rw [abs_rv, tw_56, ← Ea.tw_add]
  have h1 := Ea.tw_le (show d.e - 64 + ((56 : Nat) : Int) ≤ d.e by omega)
  have hm1 : (1 : Rat) ≤ (d.m : Rat) := Rat.natCast_le_natCast.2 (show 1 ≤ d.m by omega)
  have h2 := Rat.mul_le_mul_of_nonneg_right hm1 (Rat.le_of_lt (Ea.tw_pos d.e))
  grind
theorem bes_abv {d : D} (hm : d.m ≠ 0) : Abv (rv d) (besD d 1) := by
  have h1 := (rv_bes hm).1
  have h2 := bes_close hm
  have h3 := Ea.tw_pos (d.e - 64)
  unfold Abv
  rw [h1]
  have e : rv d + tw (d.e - 64) - rv d = tw (d.e - 64) := by grind
  rw [e]
  exact ⟨by grind, h2⟩
theorem bes_bel {d : D} (hm : d.m ≠ 0) : Bel (rv d) (besD d (-1)) := by
  have h1 := (rv_bes hm).2
  have h2 := bes_close hm
  have h3 := Ea.tw_pos (d.e - 64)
  unfold Bel
  rw [h1]
  have e : rv d - (rv d - tw (d.e - 64)) = tw (d.e - 64) := by grind
  rw [e]
  exact ⟨by grind, h2⟩
theorem lo_sq {x : Rat} (h : -1 ≤ x) : Lo x (1 + x + x * x / 4) := by
  have h1 := Ea.lo_line (x / 2)
  have hx : x / 2 * 2 = x := Rat.div_mul_cancel (by decide)
  have hq : x * x / 4 * 4 = x * x := Rat.div_mul_cancel (by decide)
  have h2 : 0 ≤ 1 + x / 2 := by
    generalize x / 2 = y at *
    grind
  have h3 := Ea.lo_mul (a := 1 + x / 2) (b := 1 + x / 2) h2 h2 (h1.le (by grind)) (h1.le (by grind))
  have e1 : x / 2 + x / 2 = x := by generalize x / 2 = y at *; grind
  rw [e1] at h3
  refine h3.le ?_
  generalize x * x / 4 = z at *
  generalize x / 2 = y at *
  subst hx
  have hz : z = y * y := by grind
  rw [hz]
  grind
theorem hi_sq {x : Rat} (h0 : -1 ≤ x) (h1 : 4 * x ≤ 1) : Hi x (1 + x + x * x) := by
  have hx : x / 2 * 2 = x := Rat.div_mul_cancel (by decide)
  generalize hy : x / 2 = y at *
  have p : 0 < 1 - y := by grind
  have h2 := Ea.hi_recip (x := y) (by grind)
  have h3 := Ea.hi_mul h2 h2
  have e1 : y + y = x := by grind
  rw [e1] at h3
  refine h3.le ?_
  have hu := Ea.one_div_mul p
  generalize 1 / (1 - y) = u at *
  have pp : 0 < (1 - y) * (1 - y) := Rat.mul_pos p p
  refine Rat.le_of_mul_le_mul_right (c := (1 - y) * (1 - y)) ?_ pp
  have e2 : u * u * ((1 - y) * (1 - y)) = (u * (1 - y)) * (u * (1 - y)) := by grind
  rw [e2, hu]
  have ex : x = 2 * y := by grind
  subst ex
  have q1 := Rat.mul_nonneg (show 0 ≤ y * y by rcases Rat.le_total (a := 0) (b := y) with h | h
                                               · exact Rat.mul_nonneg h h
                                               · have := Rat.mul_nonneg (show 0 ≤ -y by grind) (show 0 ≤ -y by grind)
                                                 grind) (show 0 ≤ 1 - 6 * y + 4 * (y * y) by
    rcases Rat.le_total (a := 0) (b := y) with h | h
    · have := Rat.mul_nonneg h h
      have := Rat.mul_nonneg (show 0 ≤ 1 - 8 * y by grind) h
      grind
    · have := Rat.mul_nonneg (show 0 ≤ -y by grind) (show 0 ≤ -y by grind)
      grind)
  grind
end Go.Proofs.YtmpdbmaokbhcjaaDoor

/-
  PLAIN: the ways of expo that ask no bounds.
-/
namespace Go.Proofs.YtmpdbmaokbhcjaaDoor
open Go.RowKit Nt Fm Fl
open Ea (tw PB Lo Hi)

theorem val_one : valD 4607182418800017408 = norm false 1 0 := by kernel_rfl
theorem val_mone : valD 13830554455654793216 = opp (norm false 1 0) := by kernel_rfl
theorem sign_f {d : D} (hm : d.m ≠ 0) (h : d.neg = false) : sign d = 1 := by unfold sign; rw [if_neg hm, h]; rfl
theorem sign_t {d : D} (hm : d.m ≠ 0) (h : d.neg = true) : sign d = -1 := by unfold sign; rw [if_neg hm, h]; rfl
theorem tw_60 : tw (-60) * 2 ^ 60 = 1 := by
  have e : (2 : Rat) ^ 60 = tw ((60 : Nat) : Int) := (Ea.tw_nat 60).symm
  rw [e, Rat.mul_comm]; exact Ea.one_tw ((60 : Nat) : Int)
/-- the absolute value of what is small -/
theorem small_abs {d : D} (hm : d.m ≠ 0) (ht : topD d < -60) : 0 < (d.m : Rat) * tw d.e ∧ (d.m : Rat) * tw d.e * 2 ^ 60 ≤ 1 := by
  obtain ⟨h1, h2⟩ := top_bd hm
  have h3 := Ea.tw_le (show topD d + 1 ≤ -60 by omega)
  have h4 := Ea.tw_pos (topD d)
  refine ⟨by grind, ?_⟩
  rw [← tw_60]
  exact Rat.mul_le_mul_of_nonneg_right (by grind) (by decide +kernel)
theorem p60 : (2 : Rat) ^ 60 = 2 ^ 56 * 16 := by decide +kernel
theorem wayE_small {d : D} (hm : d.m ≠ 0) (ht : topD d < -60) (mode : Int) : Rn (cutE (rv d)) mode (numR (besD (norm false 1 0) (sign d)) mode) ∧ numC (besD (norm false 1 0) (sign d)) = true := by
  obtain ⟨x0, x1⟩ := small_abs hm ht
  rw [p60] at x1
  have c56 : (0 : Rat) < 2 ^ 56 := by decide +kernel
  have k56 : (16 : Rat) < 2 ^ 56 := by decide +kernel
  have hO : (norm false 1 0).m ≠ 0 := by decide +kernel
  have ab1 : (1 : Rat).abs = 1 := Rat.abs_of_nonneg (by decide)
  have hr := rv_oneD
  have vv := val_one
  generalize hU : (2 : Rat) ^ 56 = U at *
  have x2 : 256 * ((d.m : Rat) * tw d.e) ≤ 1 := by
    have := Rat.mul_lt_mul_of_pos_left k56 x0
    grind
  cases hg : d.neg
  · have hv := (rv_abs (d := d)).1 hg
    rw [sign_f hm hg]
    have z := bes_abv hO
    rw [hr] at z
    have L : Abv 1 (plus (norm false 1 0) d) := by
      unfold Abv
      rw [hU, rv_plus, hr, ab1, hv]
      grind
    have H : Abv 1 (plus (norm false 1 0) (shD d 1)) := by
      unfold Abv
      rw [hU, rv_plus, hr, ab1, rv_shD, hv]
      have : tw 1 = 2 := by have := Ea.tw_nat 1; rw [Rat.pow_one] at this; exact this
      rw [this]
      grind
    have a := abv_same (x := 4607182418800017408) (by decide) (by decide) (by decide) mode (by rw [vv, hr]; exact L) (by rw [vv, hr]; exact z)
    have b := abv_same (x := 4607182418800017408) (by decide) (by decide) (by decide) mode (by rw [vv, hr]; exact H) (by rw [vv, hr]; exact z)
    refine Rn.mk3 (L := plus (norm false 1 0) d) (H := plus (norm false 1 0) (shD d 1)) ?_ ?_ a b
    · show Lo (rv d) _
      rw [rv_plus, hr]; exact Ea.lo_line _
    · show Hi (rv d) _
      rw [rv_plus, hr, rv_shD, hv]
      have t1 : tw 1 = 2 := by have := Ea.tw_nat 1; rw [Rat.pow_one] at this; exact this
      rw [t1]
      generalize (d.m : Rat) * tw d.e = x at *
      have hx : 2 * x ≤ 1 := by grind
      refine (Ea.hi_recip (x := x) (by grind)).le ?_
      rw [Ea.div_le (by grind)]
      have := Rat.mul_nonneg (Rat.le_of_lt x0) (show 0 ≤ 1 - 2 * x by grind)
      grind
  · have hv := (rv_abs (d := d)).2 hg
    rw [sign_t hm hg]
    have z := bes_bel hO
    rw [hr] at z
    have th : tw (-1) * 2 = 1 := by have := Ea.tw_half 0; rw [Ea.tw_zero] at this; exact this
    have L : Bel 1 (plus (norm false 1 0) d) := by
      unfold Bel
      rw [hU, rv_plus, hr, ab1, hv]
      grind
    have H : Bel 1 (plus (norm false 1 0) (shD d (-1))) := by
      unfold Bel
      rw [hU, rv_plus, hr, ab1, rv_shD, hv]
      generalize (d.m : Rat) * tw d.e = x at *
      generalize tw (-1) = h at *
      have : h = 1 / 2 := by grind
      have e2 : -x * h * 2 = -x := by grind
      generalize hy : -x * h = y at *
      constructor
      · grind
      · have : (1 - (1 + y)) * U * 2 = x * U := by grind
        grind
    have a := bel_same (x := 4607182418800017408) (by decide) (by decide) (by decide) mode (by rw [vv, hr]; exact L) (by rw [vv, hr]; exact z)
    have b := bel_same (x := 4607182418800017408) (by decide) (by decide) (by decide) mode (by rw [vv, hr]; exact H) (by rw [vv, hr]; exact z)
    refine Rn.mk3 (L := plus (norm false 1 0) d) (H := plus (norm false 1 0) (shD d (-1))) ?_ ?_ a b
    · show Lo (rv d) _
      rw [rv_plus, hr]; exact Ea.lo_line _
    · show Hi (rv d) _
      rw [rv_plus, hr, rv_shD, hv]
      generalize (d.m : Rat) * tw d.e = x at *
      have hx : 2 * x ≤ 1 := by grind
      have h1 := Ea.hi_neg (show 0 < 1 + x by grind) (Ea.lo_line x)
      refine h1.le ?_
      rw [Ea.div_le (by grind)]
      generalize tw (-1) = h at *
      have e2 : -x * h * 2 = -x := by grind
      generalize -x * h = y at *
      have hxy : x = -(2 * y) := by grind
      rw [hxy] at x0 hx ⊢
      have := Rat.mul_nonneg (Rat.le_of_lt x0) (show 0 ≤ 1 - 2 * -(2 * y) by grind)
      have := Rat.mul_nonneg (show 0 ≤ -y by grind) (show 0 ≤ -y by grind)
      grind
/-- great ones -/
theorem lo_1024 {x : Rat} (h : 1024 ≤ x) : Lo x (tw ((1190 : Nat) : Int)) := by
  have h1 := Ea.lo_powN (x := 6) (y := 128) (by decide +kernel) Ea.lo_six 170
  have e1 : ((170 : Nat) : Rat) * 6 = 1020 := by decide +kernel
  have e2 : (128 : Rat) ^ 170 = tw ((1190 : Nat) : Int) := by
    rw [Ea.tw_nat]
    have : (128 : Rat) = 2 ^ 7 := by decide +kernel
    rw [this, Ea.pow_pow]
  rw [e1, e2] at h1
  exact Ea.lo_mono h1 (by grind)
theorem hi_1024 {x : Rat} (h : x ≤ -1024) : Hi x (tw (-((1190 : Nat) : Int))) := by
  have h1 := Ea.hi_neg (Ea.tw_pos _) (lo_1024 (x := -x) (by grind))
  rw [Ea.tw_inv, Rat.neg_neg] at h1
  exact h1
theorem great_abs {d : D} (hm : d.m ≠ 0) (k : Nat) (ht : (k : Int) ≤ topD d) : 2 ^ k ≤ (d.m : Rat) * tw d.e := by
  obtain ⟨h1, h2⟩ := top_bd hm
  have h3 := Ea.tw_le ht
  rw [Ea.tw_nat] at h3
  exact Rat.le_trans h3 h1
theorem wayE_tiny {d : D} (hm : d.m ≠ 0) (hg : d.neg = true) (ht : 10 ≤ topD d) (mode : Int) : Rn (cutE (rv d)) mode (numR ⟨false, 1, -2000⟩ mode) ∧ numC ⟨false, 1, -2000⟩ = true := by
  have h1 := great_abs hm 10 ht
  have e10 : (2 : Rat) ^ 10 = 1024 := by decide +kernel
  rw [e10] at h1
  have hv := (rv_abs (d := d)).2 hg
  obtain ⟨n, hn⟩ := Ea.nat_above ((d.m : Rat) * tw d.e)
  have n1 : 1024 ≤ n := by
    have : ((1024 : Nat) : Rat) ≤ (n : Rat) := by
      have e : ((1024 : Nat) : Rat) = 1024 := rfl
      rw [e]; grind
    exact Rat.natCast_le_natCast.1 this
  have q : ∀ k : Int, k ≤ -1076 → 0 < rv (p2D k) ∧ rv (p2D k) < tw (-1075) := fun k hk => by
    rw [rv_p2D]
    refine ⟨Ea.tw_pos _, ?_⟩
    have a := Ea.tw_le hk
    have b := Ea.tw_half (-1075)
    rw [show (-1075 : Int) - 1 = -1076 by decide] at b
    have c := Ea.tw_pos (-1076)
    grind
  obtain ⟨z1, z2⟩ := q (-2000) (by decide)
  obtain ⟨l1, l2⟩ := q (-((2 * n : Nat) : Int)) (by omega)
  obtain ⟨u1, u2⟩ := q (-((1190 : Nat) : Int)) (by omega)
  refine Rn.mk3 (z := p2D (-2000)) (L := p2D (-((2 * n : Nat) : Int))) (H := p2D (-((1190 : Nat) : Int))) ?_ ?_ (small_same mode l1 l2 z1 z2) (small_same mode u1 u2 z1 z2)
  · show Lo (rv d) _
    rw [rv_p2D]
    exact Ea.lo_any (by rw [hv]; grind)
  · show Hi (rv d) _
    rw [rv_p2D]
    exact hi_1024 (by rw [hv]; grind)
theorem wayE_huge {d : D} (hm : d.m ≠ 0) (hg : d.neg = false) (ht : 10 ≤ topD d) (mode : Int) : (Rn (cutE (rv d)) mode (numR ⟨false, 1, 2000⟩ mode) ∧ numC ⟨false, 1, 2000⟩ = true) ∧ Rn (cutX (rv d)) mode (numR ⟨false, 1, 2000⟩ mode) := by
  have h1 := great_abs hm 10 ht
  have e10 : (2 : Rat) ^ 10 = 1024 := by decide +kernel
  rw [e10] at h1
  have hv := (rv_abs (d := d)).1 hg
  obtain ⟨n, hn⟩ := Ea.nat_above ((d.m : Rat) * tw d.e)
  have n1 : 1024 ≤ n := by
    have : ((1024 : Nat) : Rat) ≤ (n : Rat) := by
      have e : ((1024 : Nat) : Rat) = 1024 := rfl
      rw [e]; grind
    exact Rat.natCast_le_natCast.1 this
  have q : ∀ k : Int, 1024 ≤ k → tw ((1024 : Nat) : Int) ≤ rv (p2D k) := fun k hk => by
    rw [rv_p2D]; exact Ea.tw_le (by omega)
  have z1 := q 2000 (by decide)
  have l1 := q ((1189 : Nat) : Int) (by omega)
  have u1 := q ((2 * n : Nat) : Int) (by omega)
  have hlo : Lo (rv d) (tw ((1190 : Nat) : Int)) := lo_1024 (by rw [hv]; exact h1)
  have hhi : Hi (rv d) (tw ((2 * n : Nat) : Int)) := Ea.hi_any (by rw [hv]; exact hn)
  have h2 := Ea.tw_succ ((1189 : Nat) : Int)
  have h3 := Ea.tw_le (show (0 : Int) ≤ ((1189 : Nat) : Int) by omega)
  rw [Ea.tw_zero] at h3
  rw [show ((1189 : Nat) : Int) + 1 = ((1190 : Nat) : Int) by omega] at h2
  have r1 := rv_p2D ((1189 : Nat) : Int)
  have r2 := rv_p2D ((2 * n : Nat) : Int)
  refine ⟨Rn.mk3 (z := p2D 2000) (L := p2D ((1189 : Nat) : Int)) (H := p2D ((2 * n : Nat) : Int)) ?_ ?_ (big_same mode l1 z1) (big_same mode u1 z1), (Rn.mk3 (z := p2D 2000) (L := p2D ((1189 : Nat) : Int)) (H := p2D ((2 * n : Nat) : Int)) ?_ ?_ (big_same mode l1 z1) (big_same mode u1 z1)).1⟩
  · show Lo (rv d) _
    rw [r1]; exact hlo.le (by grind)
  · show Hi (rv d) _
    rw [r2]; exact hhi
  · show Lo (rv d) (_ + 1)
    rw [r1]; exact hlo.le (by grind)
  · show Hi (rv d) (_ + 1)
    rw [r2]; exact hhi.le (by grind)
end Go.Proofs.YtmpdbmaokbhcjaaDoor

/-
  PLAIN: the ways of expo.Expm1 and Log1p that ask no bounds; that there is always an answer; the values of expo.
-/
namespace Go.Proofs.YtmpdbmaokbhcjaaDoor
open Go.RowKit Nt Fm Fl
open Ea (tw PB Lo Hi)

theorem tw_m2 : tw (-2) * 4 = 1 := by
  have a := Ea.tw_half 0
  have b := Ea.tw_half (-1)
  rw [Ea.tw_zero] at a
  rw [show (0 : Int) - 1 = -1 by decide] at a
  rw [show (-1 : Int) - 1 = -2 by decide] at b
  grind
theorem tw_m3 : tw (-3) * 8 = 1 := by
  have a := tw_m2
  have b := Ea.tw_half (-2)
  rw [show (-2 : Int) - 1 = -3 by decide] at b
  grind
theorem tw_p1 : tw 1 = 2 := by have := Ea.tw_nat 1; rw [Rat.pow_one] at this; exact this
theorem rv_sq (d : D) : rv (times d d) = rv d * rv d := rv_times d d
/-- a small square -/
theorem sq_small {x a U : Rat} (hx : x = a ∨ x = -a) (a0 : 0 < a) (h : a * (U * 16) ≤ 1) (hU : 0 < U) : 0 < x * x ∧ x * x * (U * 16) ≤ a := by
  have e : x * x = a * a := by rcases hx with h | h <;> rw [h] <;> grind
  rw [e]
  refine ⟨Rat.mul_pos a0 a0, ?_⟩
  have := Rat.mul_le_mul_of_nonneg_left h (Rat.le_of_lt a0)
  grind
theorem rv_cases (d : D) : rv d = (d.m : Rat) * tw d.e ∨ rv d = -((d.m : Rat) * tw d.e) := by
  cases hg : d.neg
  · exact Or.inl ((rv_abs (d := d)).1 hg)
  · exact Or.inr ((rv_abs (d := d)).2 hg)
theorem wayM_small {x : Int} (x0 : 0 ≤ x) (x1 : x ≤ 18446744073709551615) (hx : fabs x < 9218868437227405312) (hm : (valD x).m ≠ 0) (ht : topD (valD x) < -60) (mode : Int) :
    Rn (cutX (rv (valD x))) mode (numR (besD (valD x) 1) mode) ∧ numC (besD (valD x) 1) = true := by
  obtain ⟨a0, a1⟩ := small_abs hm ht
  rw [p60] at a1
  have hc := rv_cases (valD x)
  have hab := abs_rv (valD x)
  have z := bes_abv hm
  have key := fun y h => abv_same (z := y) x0 x1 hx mode h z
  have k56 : (16 : Rat) < 2 ^ 56 := by decide +kernel
  generalize valD x = d at *
  have rL : rv (plus d (shD (times d d) (-2))) = rv d + rv d * rv d * tw (-2) := by rw [rv_plus, rv_shD, rv_sq]
  have rH : rv (plus d (times d d)) = rv d + rv d * rv d := by rw [rv_plus, rv_sq]
  have t2 := tw_m2
  have hk := sq_small hc a0 a1 (by grind)
  have x2 : 256 * ((d.m : Rat) * tw d.e) ≤ 1 := by
    have := Rat.mul_lt_mul_of_pos_left k56 a0
    grind
  have bd : -1 ≤ rv d ∧ 4 * rv d ≤ 1 := by rcases hc with h | h <;> rw [h] <;> constructor <;> grind
  have L : Abv (rv d) (plus d (shD (times d d) (-2))) := by
    unfold Abv
    rw [rL, hab]
    generalize (d.m : Rat) * tw d.e = a at *
    generalize rv d = x at *
    generalize (2 : Rat) ^ 56 = U at *
    generalize tw (-2) = q at *
    obtain ⟨k1, k2⟩ := hk
    have hz : x * x * q * 4 = x * x := by grind
    generalize x * x = s at *
    generalize s * q = v at *
    constructor
    · grind
    · have : (x + v - x) * U * 4 = s * U := by grind
      grind
  have H : Abv (rv d) (plus d (times d d)) := by
    unfold Abv
    rw [rH, hab]
    generalize (d.m : Rat) * tw d.e = a at *
    generalize rv d = x at *
    generalize (2 : Rat) ^ 56 = U at *
    obtain ⟨k1, k2⟩ := hk
    generalize x * x = s at *
    have : 0 < s * U := Rat.mul_pos k1 (by grind)
    constructor
    · grind
    · have : (x + s - x) * U = s * U := by grind
      grind
  refine Rn.mk3 (L := plus d (shD (times d d) (-2))) (H := plus d (times d d)) ?_ ?_ (key _ L) (key _ H)
  · show Lo (rv d) (_ + 1)
    rw [rL]
    refine (lo_sq bd.1).le ?_
    have hq : rv d * rv d / 4 * 4 = rv d * rv d := Rat.div_mul_cancel (by decide)
    generalize rv d * rv d / 4 = w at *
    generalize rv d * rv d = s at *
    generalize tw (-2) = q at *
    have : s * q * 4 = s := by grind
    generalize s * q = v at *
    grind
  · show Hi (rv d) (_ + 1)
    rw [rH]
    exact (hi_sq bd.1 bd.2).le (by grind)
theorem wayL_small {x : Int} (x0 : 0 ≤ x) (x1 : x ≤ 18446744073709551615) (hx : fabs x < 9218868437227405312) (hm : (valD x).m ≠ 0) (ht : topD (valD x) < -60) (mode : Int) :
    Rn (cutL (1 + rv (valD x))) mode (numR (besD (valD x) (-1)) mode) ∧ numC (besD (valD x) (-1)) = true := by
  obtain ⟨a0, a1⟩ := small_abs hm ht
  rw [p60] at a1
  have hc := rv_cases (valD x)
  have hab := abs_rv (valD x)
  have z := bes_bel hm
  have key := fun y h => bel_same (z := y) x0 x1 hx mode h z
  have k56 : (16 : Rat) < 2 ^ 56 := by decide +kernel
  generalize valD x = d at *
  have rL : rv (plus d (opp (shD (times d d) 1))) = rv d - rv d * rv d * 2 := by rw [rv_plus, rv_opp, rv_shD, rv_sq, tw_p1]; grind
  have rH : rv (plus d (opp (shD (times d d) (-3)))) = rv d - rv d * rv d * tw (-3) := by rw [rv_plus, rv_opp, rv_shD, rv_sq]; grind
  have t3 := tw_m3
  have hk := sq_small hc a0 a1 (by grind)
  have x2 : 256 * ((d.m : Rat) * tw d.e) ≤ 1 := by
    have := Rat.mul_lt_mul_of_pos_left k56 a0
    grind
  have hsq : 256 * (rv d * rv d) ≤ (d.m : Rat) * tw d.e := by
    obtain ⟨k1, k2⟩ := hk
    have := Rat.mul_lt_mul_of_pos_left k56 k1
    generalize rv d * rv d = s at *
    grind
  have bd : -1 ≤ 256 * rv d ∧ 256 * rv d ≤ 1 := by rcases hc with h | h <;> rw [h] <;> constructor <;> grind
  have L : Bel (rv d) (plus d (opp (shD (times d d) 1))) := by
    unfold Bel
    rw [rL, hab]
    generalize (d.m : Rat) * tw d.e = a at *
    generalize rv d = x at *
    generalize (2 : Rat) ^ 56 = U at *
    obtain ⟨k1, k2⟩ := hk
    generalize x * x = s at *
    have : 0 < s * U := Rat.mul_pos k1 (by grind)
    constructor
    · grind
    · have : (x - (x - s * 2)) * U = s * U * 2 := by grind
      grind
  have H : Bel (rv d) (plus d (opp (shD (times d d) (-3)))) := by
    unfold Bel
    rw [rH, hab]
    generalize (d.m : Rat) * tw d.e = a at *
    generalize rv d = x at *
    generalize (2 : Rat) ^ 56 = U at *
    generalize tw (-3) = q at *
    obtain ⟨k1, k2⟩ := hk
    have hz : x * x * q * 8 = x * x := by grind
    generalize x * x = s at *
    generalize s * q = v at *
    have : 0 < s * U := Rat.mul_pos k1 (by grind)
    constructor
    · grind
    · have : (x - (x - v)) * U * 8 = s * U := by grind
      grind
  refine Rn.mk3 (L := plus d (opp (shD (times d d) 1))) (H := plus d (opp (shD (times d d) (-3)))) ?_ ?_ (key _ L) (key _ H)
  · show Hi _ (1 + rv d)
    rw [rL]
    obtain ⟨b1, b2⟩ := bd
    generalize (d.m : Rat) * tw d.e = a at *
    generalize rv d = x at *
    have s0 := hk.1
    have s1 : 256 * (x * x) ≤ 1 := by grind
    refine (hi_sq (x := x - x * x * 2) ?_ ?_).le ?_
    · grind
    · grind
    · -- (x - 2s)^2 is no more than 2s
      have h1 := Rat.mul_nonneg (Rat.le_of_lt s0) (show 0 ≤ 1 + 4 * x - 4 * (x * x) by grind)
      grind
  · show Lo _ (1 + rv d)
    rw [rH]
    obtain ⟨b1, b2⟩ := bd
    generalize (d.m : Rat) * tw d.e = a at *
    generalize rv d = x at *
    generalize tw (-3) = q at *
    have s0 := hk.1
    have s1 : 256 * (x * x) ≤ 1 := by grind
    have hz : x * x * q * 8 = x * x := by grind
    have hu : ∀ y : Rat, y / 4 * 4 = y := fun y => Rat.div_mul_cancel (by decide)
    have hq := hu ((x - x * x * q) * (x - x * x * q))
    refine (lo_sq (x := x - x * x * q) ?_).le ?_
    · grind
    · generalize (x - x * x * q) * (x - x * x * q) / 4 = w at *
      have hv : x * x * q = x * x * (1 / 8) := by grind
      have h8 : (1 : Rat) / 8 * 8 = 1 := Rat.div_mul_cancel (by decide)
      generalize (1 : Rat) / 8 = e at *
      have he : x * x * q = x * x * e := hv
      have h1 := Rat.mul_nonneg (Rat.le_of_lt s0) (show 0 ≤ 1 - x by grind)
      have h2 := Rat.mul_nonneg (Rat.le_of_lt s0) (Rat.le_of_lt s0)
      generalize hV : x * x * q = V at *
      have e3 : V * 8 = x * x := hz
      -- (x - V)^2 = x^2 - 2 x V + V^2, V = x^2/8
      have e4 : w * 4 = x * x - 2 * (x * V) + V * V := by grind
      have e5 : x * V * 8 = x * (x * x) := by grind
      have h3 : 0 ≤ V * V := by
        have : 0 < V := by grind
        exact Rat.mul_nonneg (Rat.le_of_lt this) (Rat.le_of_lt this)
      have h4 : x * (x * x) ≤ x * x := by grind
      grind
theorem wayM_one {d : D} (hm : d.m ≠ 0) (hg : d.neg = true) (ht : 6 ≤ topD d) (mode : Int) : Rn (cutX (rv d)) mode (numR (besD (opp (norm false 1 0)) 1) mode) ∧ numC (besD (opp (norm false 1 0)) 1) = true := by
  have h1 := great_abs hm 6 ht
  have e6 : (2 : Rat) ^ 6 = 64 := by decide +kernel
  rw [e6] at h1
  have hv := (rv_abs (d := d)).2 hg
  obtain ⟨n, hn⟩ := Ea.nat_above ((d.m : Rat) * tw d.e)
  have n1 : 64 ≤ n := by
    have : ((64 : Nat) : Rat) ≤ (n : Rat) := by
      have e : ((64 : Nat) : Rat) = 64 := rfl
      rw [e]; grind
    exact Rat.natCast_le_natCast.1 this
  have hO : (opp (norm false 1 0)).m ≠ 0 := by decide +kernel
  have hr := rv_mone
  have vv := val_mone
  have z := bes_abv hO
  rw [hr] at z
  have ab1 : (-1 : Rat).abs = 1 := by rw [Rat.abs_neg]; exact Rat.abs_of_nonneg (by decide)
  have q : ∀ k : Int, k ≤ -56 → Abv (-1) (plus (opp (norm false 1 0)) (p2D k)) := fun k hk => by
    unfold Abv
    rw [rv_plus, hr, rv_p2D, ab1, tw_56]
    have a := Ea.tw_pos k
    have b := Ea.tw_le (show k + ((56 : Nat) : Int) ≤ 0 by omega)
    rw [Ea.tw_zero, Ea.tw_add] at b
    constructor <;> grind
  have key := fun y h => abv_same (x := 13830554455654793216) (z := y) (y := besD (opp (norm false 1 0)) 1) (by decide) (by decide) (by decide) mode (by rw [vv, hr]; exact h) (by rw [vv, hr]; exact z)
  have l60 : Lo 60 (tw ((70 : Nat) : Int)) := by
    have h1 := Ea.lo_powN (x := 6) (y := 128) (by decide +kernel) Ea.lo_six 10
    have e1 : ((10 : Nat) : Rat) * 6 = 60 := by decide +kernel
    have e2 : (128 : Rat) ^ 10 = tw ((70 : Nat) : Int) := by
      rw [Ea.tw_nat]
      have : (128 : Rat) = 2 ^ 7 := by decide +kernel
      rw [this, Ea.pow_pow]
    rw [e1, e2] at h1
    exact h1
  have h60 : Hi (rv d) (tw (-((70 : Nat) : Int))) := by
    have h2 := Ea.hi_neg (Ea.tw_pos _) l60
    rw [Ea.tw_inv] at h2
    exact Ea.hi_mono h2 (by rw [hv]; grind)
  refine Rn.mk3 (L := plus (opp (norm false 1 0)) (p2D (-((2 * n : Nat) : Int)))) (H := plus (opp (norm false 1 0)) (p2D (-((70 : Nat) : Int)))) ?_ ?_ (key _ (q _ (by omega))) (key _ (q _ (by omega)))
  · show Lo (rv d) (_ + 1)
    rw [rv_plus, hr, rv_p2D]
    exact (Ea.lo_any (x := rv d) (n := n) (by rw [hv]; grind)).le (by grind)
  · show Hi (rv d) (_ + 1)
    rw [rv_plus, hr, rv_p2D]
    exact h60.le (by grind)
end Go.Proofs.YtmpdbmaokbhcjaaDoor

/-
  PLAIN: there is always an answer; the values of expo.
-/
namespace Go.Proofs.YtmpdbmaokbhcjaaDoor
open Go.RowKit Nt Fm Fl
open Ea (tw PB Lo Hi)

theorem br_ex {c : Cut} {p : Nat} {C E : D} (h : BR c p C E) (hp : PB ≤ p) (mode : Int) : ∃ r, Rn c mode r := by
  obtain ⟨K, k1, k2, k3, k4, k5, k6, k7, k8, k9, k10, k11, k12⟩ := h
  obtain ⟨a, b, e⟩ := k12 hp mode
  exact ⟨numR C mode, C, E, k10, k11, rfl, a.symm, b, e⟩
theorem s_ex (d : D) (h : topD d < 10) : ∃ s : Nat, (s : Int) = max 0 ((blen d.m : Int) + d.e + 16) ∧ s ≤ 27 := by
  refine ⟨(max 0 ((blen d.m : Int) + d.e + 16)).toNat, by omega, ?_⟩
  unfold topD at h
  omega
theorem abs_2048 {d : D} (hm : d.m ≠ 0) (h : topD d < 10) : (d.m : Rat) * tw d.e ≤ 2048 := by
  obtain ⟨-, h2⟩ := top_bd hm
  have h3 := Ea.tw_le (show topD d + 1 ≤ ((10 : Nat) : Int) by omega)
  rw [Ea.tw_nat] at h3
  have e : (2 : Rat) ^ 10 ≤ 2048 := by decide +kernel
  grind
theorem exE_ex {d : D} (hm0 : d.m ≠ 0) (hm : d.m < 2 ^ 1280) (he : -19000 ≤ d.e) (ht : topD d < 10) (mode : Int) : (∃ r, Rn (cutE (rv d)) mode r) ∧ ∃ r, Rn (cutX (rv d)) mode r := by
  obtain ⟨s, hs, hs1⟩ := s_ex d ht
  have hx := abs_2048 hm0 ht
  have hPB : PB = 4398500000000 := rfl
  have hend : (Ea.tmP (Ea.fixedP d.m (d.e - s) PB) PB PB).h ≤ 1 := by
    have h1 := (Ea.fixed_small (p := PB) (e := d.e - s) (blen_lt2 d.m) (show ((blen d.m : Nat) : Int) + (d.e - s) ≤ -16 by omega) (by omega)).1
    have h2 : 2 * 2 ^ (PB - 16) ≤ 2 ^ PB := by
      have : 2 ^ PB = 2 ^ (PB - 16) * 2 ^ 16 := by rw [← Nat.pow_add, Nat.sub_add_cancel (by omega)]
      rw [this]
      have := Nat.two_pow_pos (PB - 16)
      omega
    have h3 := Ea.tm_fall (t := Ea.fixedP d.m (d.e - s) PB) (p := PB) (by omega) PB (Nat.le_refl _)
    rw [Nat.sub_self, Nat.pow_zero] at h3
    exact h3
  exact ⟨br_ex (brE (p := PB) (Q := PB) hm0 hm he hx hs hs1 (by omega) (by omega) (Nat.le_refl _) (Nat.le_refl _) hend) (Nat.le_refl _) mode,
    br_ex (brM (p := PB) hm0 hm he hx hs hs1 (by omega) (by omega) (Nat.le_refl _) hend) (Nat.le_refl _) mode⟩
theorem exL_ex {d : D} (h0 : 0 < rv d) (hm : d.m < 2 ^ 1280) (he : -3000 ≤ d.e) (he1 : d.e ≤ 3000) (h1 : rv d ≠ 1) (mode : Int) : ∃ r, Rn (cutL (rv d)) mode r := by
  have hPB : PB = 4398500000000 := rfl
  obtain ⟨-, hm0⟩ := rv_gt h0
  obtain ⟨O0, O3, -, -, -⟩ := lg_facts hm0
  have fall : ∀ num den, 0 < den → 3 * num ≤ den → (Ea.pwP (Ea.qP num den PB) PB PB).h ≤ 1 := fun num den hd h => by
    have h3 := Ea.pw_fall (p := PB) (Ea.q_size (p := PB) hd h (by omega)).1 PB (Nat.le_refl _)
    rw [Nat.sub_self, Nat.pow_zero] at h3
    exact h3
  exact br_ex (brL (p := PB) h0 hm he he1 h1 (by omega) (by omega) (Nat.le_refl _) (Nat.le_refl _) (fall _ _ (by omega) O3) (fall 1 3 (by decide) (by decide))) (Nat.le_refl _) mode
/-- a number with a value that is not 0 -/
def Fin0 (x : Int) : Prop := 0 ≤ x ∧ x ≤ 18446744073709551615 ∧ fabs x < 9218868437227405312 ∧ fabs x ≠ 0
theorem Fin0.m {x : Int} (h : Fin0 x) : (valD x).m ≠ 0 := by
  obtain ⟨x0, x1, h2, h3⟩ := h
  have hb := fabs_bd x
  obtain ⟨t, g1, -⟩ := exT ((valD x).e + 1074) ((valD x).e + 1074)
  intro e
  have h4 : tt t (valD x).m (valD x).e = mag (fabs x).toNat * 2 ^ t := by
    rcases valD_tt x x0 x1 t with h | h
    · exact h
    · omega
  have h5 : tt t (valD x).m (valD x).e = 0 := by unfold tt; rw [e, Nat.zero_mul]
  rw [h5] at h4
  have h6 := mag_lt (show 0 < (fabs x).toNat by omega)
  rw [mag_zero] at h6
  have := Nat.mul_pos h6 (Nat.two_pow_pos t)
  omega
theorem Fin0.neg {x : Int} (h : Fin0 x) : (valD x).neg = fng x := (valD_facts x h.1 h.2.1).2.2.2.2 h.m
theorem Fin0.bd {x : Int} (h : Fin0 x) : (valD x).m < 2 ^ 1280 ∧ -1074 ≤ (valD x).e ∧ (valD x).e ≤ 1100 ∧ (valD x).m < 2 ^ 53 := by
  obtain ⟨a, b, c, d, -⟩ := valD_facts x h.1 h.2.1
  exact ⟨@lt_pow _ 53 1280 b (by decide), c, d, b⟩
theorem exp_ex {x : Int} (h : Fin0 x) (mode : Int) : ∃ r, Rn (cutE (rv (valD x))) mode r := by
  have hm := h.m
  obtain ⟨b1, b2, b3, -⟩ := h.bd
  rcases Int.lt_or_le (topD (valD x)) 10 with ht | ht
  · exact (exE_ex hm b1 (by omega) ht mode).1
  · cases hg : (valD x).neg
    · exact ⟨_, (wayE_huge hm hg ht mode).1.1⟩
    · exact ⟨_, (wayE_tiny hm hg ht mode).1⟩
theorem expm1_ex {x : Int} (h : Fin0 x) (mode : Int) : ∃ r, Rn (cutX (rv (valD x))) mode r := by
  have hm := h.m
  obtain ⟨b1, b2, b3, -⟩ := h.bd
  rcases Int.lt_or_le (topD (valD x)) 10 with ht | ht
  · exact (exE_ex hm b1 (by omega) ht mode).2
  · cases hg : (valD x).neg
    · exact ⟨_, (wayE_huge hm hg ht mode).2⟩
    · exact ⟨_, (wayM_one hm hg (by omega) mode).1⟩
theorem log_ex {x : Int} (h : Fin0 x) (h0 : 0 < rv (valD x)) (h1 : rv (valD x) ≠ 1) (mode : Int) : ∃ r, Rn (cutL (rv (valD x))) mode r := by
  obtain ⟨b1, b2, b3, -⟩ := h.bd
  exact exL_ex h0 b1 (by omega) (by omega) h1 mode
theorem u_mono (k l : Nat) (h : k ≤ l) : 2 ^ k ≤ 2 ^ l := Nat.pow_le_pow_right (by decide) h
/-- one more -/
def incD (x : Int) : D := plus (valD x) (norm false 1 0)
theorem rv_incD (x : Int) : rv (incD x) = 1 + rv (valD x) := by unfold incD; rw [rv_plus, rv_oneD]; grind
theorem incD_bd {x : Int} (h : Fin0 x) (ht : -60 ≤ topD (valD x)) : (incD x).m < 2 ^ 1280 ∧ -3000 ≤ (incD x).e ∧ (incD x).e ≤ 3000 ∧ (incD x).Nf := by
  obtain ⟨b1, b2, b3, b4⟩ := h.bd
  have hbl : blen (valD x).m ≤ 53 := blen_le2 b4
  have he : -112 ≤ (valD x).e := by unfold topD at ht; omega
  have e1 : (norm false 1 0).e = 0 := by decide +kernel
  have hv : ((valD x).vl 112).natAbs < 2 ^ 1265 := by
    rw [vl_natAbs]
    have h1 : 2 ^ ((valD x).e + ((112 : Nat) : Int)).toNat ≤ 2 ^ 1212 := u_mono _ 1212 (by omega)
    have h2 := Nat.mul_lt_mul_of_lt_of_le b4 h1 (Nat.two_pow_pos 1212)
    rw [← Nat.pow_add 2 53 1212, show 53 + 1212 = 1265 from rfl] at h2
    exact h2
  have v1 : (norm false 1 0).vl 112 = ((2 ^ 112 : Nat) : Int) := by
    rw [norm_vl _ _ _ _ (by omega)]
    unfold D.vl D.sm
    simp
  have hp : ((incD x).vl 112).natAbs < 2 ^ 1266 := by
    unfold incD
    rw [plus_vl _ _ _ (by omega) (by omega), v1]
    have h3 := u_mono 112 1265 (by decide)
    have h4 : 2 ^ 1266 = 2 * 2 ^ 1265 := by have := Nat.pow_succ (n := 2) (m := 1265); omega
    generalize 2 ^ 1265 = A at *
    generalize 2 ^ 1266 = B at *
    generalize 2 ^ 112 = C at *
    omega
  have := bd_of_vl (d := incD x) (p := 112) (K := 1266) (plus_Nf _ _) (plus_eP (by omega) (by omega)) hp
  exact ⟨@lt_pow _ 1266 1280 this.1 (by decide), by omega, by omega, plus_Nf _ _⟩
theorem log1p_ex {x : Int} (h : Fin0 x) (h0 : -1 < rv (valD x)) (mode : Int) : ∃ r, Rn (cutL (1 + rv (valD x))) mode r := by
  rcases Int.lt_or_le (topD (valD x)) (-60) with ht | ht
  · exact ⟨_, (wayL_small h.1 h.2.1 h.2.2.1 h.m ht mode).1⟩
  · obtain ⟨b1, b2, b3, -⟩ := incD_bd h ht
    rw [← rv_incD]
    refine exL_ex (by rw [rv_incD]; grind) b1 b2 b3 ?_ mode
    rw [rv_incD]
    intro e
    have hz : rv (valD x) = 0 := by grind
    have hab := abs_rv (valD x)
    rw [hz] at hab
    have := (top_bd h.m).1
    have := Ea.tw_pos (topD (valD x))
    have a0 : (0 : Rat).abs = 0 := Rat.abs_of_nonneg (by decide)
    grind
/-- what is told of a cut -/
noncomputable def rnV (c : Cut) (mode : Int) : Int := Classical.epsilon fun r => Rn c mode r
theorem rnV_is {c : Cut} {mode r : Int} (h : Rn c mode r) : rnV c mode = r := (Classical.epsilon_spec (p := fun r => Rn c mode r) ⟨r, h⟩).uniq h
theorem rnV_rn {c : Cut} {mode : Int} (h : ∃ r, Rn c mode r) : Rn c mode (rnV c mode) := Classical.epsilon_spec (p := fun r => Rn c mode r) h
theorem Rn.bd {c : Cut} {mode r : Int} (h : Rn c mode r) : 0 ≤ r ∧ r ≤ 18446744073709551615 ∧ frerr r = 0 := by
  obtain ⟨L, H, a1, a2, a3, a4, a5, a6⟩ := h
  rw [← a3]
  have h := numk_le_MR (kd L.neg mode) L.m L.e
  have hMR : MR = 9218868437227405312 := rfl
  refine ⟨?_, ?_, (rank_numR L mode).2⟩
  · unfold numR; split <;> omega
  · unfold numR; split <;> omega
end Go.Proofs.YtmpdbmaokbhcjaaDoor
