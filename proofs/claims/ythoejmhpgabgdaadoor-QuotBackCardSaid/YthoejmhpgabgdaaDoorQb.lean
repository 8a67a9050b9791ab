/-
  PLAIN: what is left of a quotient. No Go here.
-/
import Derived.Test.YthoejmhpgabgdaaDoorQx
import Derived.Test.YthoejmhpgabgdaaDoorBq
import Derived.Test.YthoejmhpgabgdaaDoorBp
set_option linter.unusedVariables false
set_option linter.unusedSimpArgs false
namespace Go.Proofs.YthoejmhpgabgdaaDoor
open Go.RowKit Nt Fm Fl

/-- the quotient's cut, in whole numbers -/
theorem dv_cross {x y : Int} (x0 : 0 ≤ x) (x1 : x ≤ 18446744073709551615) (y0 : 0 ≤ y) (y1 : y ≤ 18446744073709551615) (hx : fabs x < 9218868437227405312) (hy : fabs y < 9218868437227405312) {K : Nat} (hK : K = 1074) :
    ∃ t U : Nat, 0 ≤ (valD x).e - (valD y).e - qk (valD x).m (valD y).m - 2 + 1074 + t ∧ 0 < U ∧
      (∀ M, M * 2 ^ t * (valD y).m * U = M * mag (fabs y).toNat * 2 ^ t) ∧ (valD x).m * 2 ^ ((valD x).e - (valD y).e + 1074 + t).toNat * U = mag (fabs x).toNat * 2 ^ K * 2 ^ t := by
  obtain ⟨t, ht⟩ := exTq ((valD x).e - (valD y).e - qk (valD x).m (valD y).m - 2 + 1074)
  obtain ⟨f1, f2, f3, f4, -⟩ := valD_facts x x0 x1
  obtain ⟨g1, g2, g3, g4, -⟩ := valD_facts y y0 y1
  have tx := (valD_tt x x0 x1 0).resolve_right (by omega)
  have ty := (valD_tt y y0 y1 0).resolve_right (by omega)
  unfold tt at tx ty
  rw [Nat.pow_zero, Nat.mul_one] at tx ty
  refine ⟨t, 2 ^ ((valD y).e + 1074 + ((0 : Nat) : Int)).toNat, ht, Nat.two_pow_pos _, fun M => ?_, ?_⟩
  · rw [Nat.mul_assoc (M * 2 ^ t), ty, Nat.mul_right_comm]
  · rw [← tx, Nat.mul_assoc, Nat.mul_assoc, Nat.mul_assoc, ← Nat.pow_add, ← Nat.pow_add, ← Nat.pow_add]
    congr 2; omega
theorem lt_conv {a b A B U V : Nat} (h1 : a * U = A * V) (h2 : b * U = B * V) (hU : 0 < U) (hV : 0 < V) : a < b ↔ A < B := by
  constructor
  · intro h
    have := Nat.mul_lt_mul_of_pos_right h hU
    rw [h1, h2] at this
    exact Nat.lt_of_mul_lt_mul_right this
  · intro h
    have := Nat.mul_lt_mul_of_pos_right h hV
    rw [← h1, ← h2] at this
    exact Nat.lt_of_mul_lt_mul_right this
theorem eq_conv {a b A B U V : Nat} (h1 : a * U = A * V) (h2 : b * U = B * V) (hU : 0 < U) (hV : 0 < V) : a = b ↔ A = B := by
  constructor
  · intro h; rw [h, h2] at h1; exact Nat.eq_of_mul_eq_mul_right hV h1.symm
  · intro h; rw [h, ← h2] at h1; exact Nat.eq_of_mul_eq_mul_right hU h1
theorem dv_bounds {x y : Int} (mode : Int) (x0 : 0 ≤ x) (x1 : x ≤ 18446744073709551615) (y0 : 0 ≤ y) (y1 : y ≤ 18446744073709551615) (hx : fabs x < 9218868437227405312) (hy : fabs y < 9218868437227405312)
    (hxm : (valD x).m ≠ 0) (hym : (valD y).m ≠ 0) {K : Nat} (hK : K = 1074) {n : Nat} (hn : n = numk (kd (dvD x y).neg mode) (dvD x y).m (dvD x y).e) (n0 : n ≠ 0) (n1 : n + 1 < MR) :
    mag (n - 1) * mag (fabs y).toNat < mag (fabs x).toNat * 2 ^ K ∧ mag (fabs x).toNat * 2 ^ K < mag (n + 1) * mag (fabs y).toNat := by
  obtain ⟨t, U, ht, hU, c1, c2⟩ := dv_cross x0 x1 y0 y1 hx hy hK
  rw [← lt_conv (c1 _) c2 hU (Nat.two_pow_pos t), ← lt_conv c2 (c1 _) hU (Nat.two_pow_pos t)]
  clear c1 c2
  have a := (ratio_num hxm hym ht ((valD x).neg != (valD y).neg) (kd (dvD x y).neg mode) n).1.1 (by rw [hn]; exact Nat.le_refl _)
  have b : ¬ PkC (kd (dvD x y).neg mode) (2 ^ t) (fun M => M * (valD y).m ≤ 2 * ((valD x).m * 2 ^ ((valD x).e - (valD y).e + 1074 + (t : Int)).toNat)) (fun M => M * (valD y).m < 2 * ((valD x).m * 2 ^ ((valD x).e - (valD y).e + 1074 + (t : Int)).toNat)) (n + 1) := fun h => by
    have := (ratio_num hxm hym ht ((valD x).neg != (valD y).neg) (kd (dvD x y).neg mode) (n + 1)).1.2 h
    have e : numk (kd (dvD x y).neg mode) (dvD x y).m (dvD x y).e = numk (kd (dvD x y).neg mode) (ratD ((valD x).neg != (valD y).neg) (valD x).m (valD y).m ((valD x).e - (valD y).e)).m (ratD ((valD x).neg != (valD y).neg) (valD x).m (valD y).m ((valD x).e - (valD y).e)).e := rfl
    omega
  generalize kd (dvD x y).neg mode = k at *
  generalize (valD x).m * 2 ^ ((valD x).e - (valD y).e + 1074 + (t : Int)).toNat = T at *
  have e1 : ∀ r, 2 * (mag r * 2 ^ t) * (valD y).m = 2 * (mag r * 2 ^ t * (valD y).m) := fun r => Nat.mul_assoc _ _ _
  have e2 : ∀ p r, (mag p + mag r) * 2 ^ t * (valD y).m = mag p * 2 ^ t * (valD y).m + mag r * 2 ^ t * (valD y).m := fun p r => by rw [Nat.add_mul, Nat.add_mul]
  have mono : ∀ p r, p < r → mag p * 2 ^ t * (valD y).m < mag r * 2 ^ t * (valD y).m := fun p r h => Nat.mul_lt_mul_of_pos_right (Nat.mul_lt_mul_of_pos_right (mag_lt h) (Nat.two_pow_pos t)) (by omega)
  have m1 := mono (n - 1) n (by omega)
  have m2 := mono n (n + 1) (by omega)
  have e3 : n + 1 - 1 = n := rfl
  rcases k with _ | _ | _ | k
  · have a2 := a.2
    have b2 : ¬ _ := fun h => b ⟨by omega, h⟩
    simp only [e1] at a2 b2
    omega
  · have a2 := a.2.resolve_left n0
    have b2 : ¬ _ := fun h => b ⟨by omega, Or.inr h⟩
    simp only [e1, e3] at a2 b2
    omega
  · have a2 := a.2.resolve_left n0
    have b2 : ¬ _ := fun h => b ⟨by omega, Or.inr (Or.inl h)⟩
    simp only [e2, e3] at a2 b2
    omega
  · have a2 := a.2.resolve_left n0
    have b2 : ¬ _ := fun h => b ⟨by omega, Or.inr h⟩
    simp only [e2, e3] at a2 b2
    omega
theorem dv_exact {x y : Int} (mode : Int) (x0 : 0 ≤ x) (x1 : x ≤ 18446744073709551615) (y0 : 0 ≤ y) (y1 : y ≤ 18446744073709551615) (hx : fabs x < 9218868437227405312) (hy : fabs y < 9218868437227405312)
    (hxm : (valD x).m ≠ 0) (hym : (valD y).m ≠ 0) {K : Nat} (hK : K = 1074) {n : Nat} (hn : n = numk (kd (dvD x y).neg mode) (dvD x y).m (dvD x y).e) (n1 : n < MR) :
    numC (dvD x y) = false ↔ mag n * mag (fabs y).toNat = mag (fabs x).toNat * 2 ^ K := by
  obtain ⟨t, U, ht, hU, c1, c2⟩ := dv_cross x0 x1 y0 y1 hx hy hK
  have key := (ratio_num hxm hym ht ((valD x).neg != (valD y).neg) 0 0).2
  rw [← eq_conv (c1 _) c2 hU (Nat.two_pow_pos t)]
  refine (show numC (dvD x y) = false ↔ _ from key).trans ⟨?_, fun h => ⟨n, n1, h⟩⟩
  rintro ⟨r, hr, h⟩
  have := (ratio_exact hxm hym ((valD x).neg != (valD y).neg) ((valD x).e - (valD y).e) ht hr h (kd (dvD x y).neg mode)).1
  have e : n = r := by rw [hn]; exact this
  rw [e]; exact h
/-- what is left is a number -/
theorem back_rep {mx my mq Qx jx Qy jy Qq jq J K : Nat} (hx : mx = Qx * 2 ^ jx) (hQx : Qx < 9007199254740992) (hy : my = Qy * 2 ^ jy) (hQy : Qy < 9007199254740992) (hq : mq = Qq * 2 ^ jq) (hQq : 4503599627370496 ≤ Qq)
    (hJ : jq + jy = K + J) (lo : (mq - 2 ^ jq) * my < mx * 2 ^ K) (hi : mx * 2 ^ K < (mq + 2 ^ jq) * my) :
    Ep.Rep ((mx : Int) - Qq * Qy * 2 ^ J) ∧ ((mx : Int) - Qq * Qy * 2 ^ J).natAbs < 2 ^ (53 + jx) ∧ ((mx : Int) - Qq * Qy * 2 ^ J) * 2 ^ K = (mx : Int) * 2 ^ K - mq * my := by
  have e0 : mq * my = Qq * Qy * 2 ^ J * 2 ^ K := by
    rw [hq, hy, Nat.mul_mul_mul_comm, ← Nat.pow_add, hJ, Nat.add_comm K J, Nat.pow_add]; simp only [Nat.mul_assoc]
  have e1 : 2 ^ jq * my = Qy * 2 ^ J * 2 ^ K := by
    rw [hy, Nat.mul_left_comm, ← Nat.pow_add, hJ, Nat.add_comm K J, Nat.pow_add, Nat.mul_assoc]
  have hK0 := Nat.two_pow_pos K
  have lo2 : Qq * Qy * 2 ^ J < mx + Qy * 2 ^ J := by
    refine Nat.lt_of_mul_lt_mul_right (a := 2 ^ K) ?_
    rw [Nat.add_mul, ← e0, ← e1]
    rw [Nat.sub_mul] at lo
    omega
  have hi2 : mx < Qq * Qy * 2 ^ J + Qy * 2 ^ J := by
    refine Nat.lt_of_mul_lt_mul_right (a := 2 ^ K) ?_
    rw [Nat.add_mul, ← e0, ← e1]
    rw [Nat.add_mul] at hi
    omega
  have e2 : ((mx : Int) - Qq * Qy * 2 ^ J) * 2 ^ K = (mx : Int) * 2 ^ K - mq * my := by
    have this : (mq : Int) * my = (Qq : Int) * Qy * 2 ^ J * 2 ^ K := by
      have h := congrArg (fun n : Nat => (n : Int)) e0
      simpa using h
    rw [Int.sub_mul, this]
  have e3 : ((mx : Int) - Qq * Qy * 2 ^ J) = ((mx : Nat) : Int) - ((Qq * Qy * 2 ^ J : Nat) : Int) := by simp
  have habs : ((mx : Int) - Qq * Qy * 2 ^ J).natAbs < Qy * 2 ^ J := by rw [e3]; omega
  have hP : ∀ n, Ep.P n = 2 ^ n := fun n => rfl
  rcases Nat.lt_or_ge jx J with h | h
  · have h1 : Qy * 2 ^ J * 2251799813685248 < 2 ^ jx * 9007199254740992 := by
      have h2 : Qy * 2 ^ J * 2251799813685248 + Qy * 2 ^ J ≤ Qq * Qy * 2 ^ J := by
        rw [Nat.mul_assoc Qq, Nat.mul_comm Qq]
        have := Nat.mul_le_mul_left (Qy * 2 ^ J) (show 2251799813685248 + 1 ≤ Qq by omega)
        rw [Nat.mul_add] at this; omega
      have h3 : mx ≤ 2 ^ jx * 9007199254740992 := by
        rw [hx, Nat.mul_comm]; exact Nat.mul_le_mul_left _ (by omega)
      omega
    have h4 : ((mx : Int) - Qq * Qy * 2 ^ J).natAbs < 2 ^ (53 + jx) := by
      rw [Nat.pow_add, show (2 : Nat) ^ 53 = 9007199254740992 by decide]; omega
    refine ⟨⟨jx, ?_, by rw [hP]; exact Nat.le_of_lt h4⟩, h4, e2⟩
    rw [e3, hP]
    refine Int.dvd_sub (Int.natCast_dvd_natCast.2 ⟨Qx, by rw [hx, Nat.mul_comm]⟩) (Int.natCast_dvd_natCast.2 ?_)
    exact Nat.dvd_trans (Nat.pow_dvd_pow 2 (Nat.le_of_lt h)) ⟨Qq * Qy, Nat.mul_comm _ _⟩
  · have h4 : ((mx : Int) - Qq * Qy * 2 ^ J).natAbs < 2 ^ (53 + J) := by
      refine Nat.lt_of_lt_of_le habs ?_
      rw [Nat.pow_add, show (2 : Nat) ^ 53 = 9007199254740992 by decide]
      exact Nat.mul_le_mul_right _ (by omega)
    refine ⟨⟨J, ?_, by rw [hP]; exact Nat.le_of_lt h4⟩, Nat.lt_of_lt_of_le h4 (Nat.pow_le_pow_right (by decide) (by omega)), e2⟩
    rw [e3, hP]
    refine Int.dvd_sub (Int.natCast_dvd_natCast.2 ?_) (Int.natCast_dvd_natCast.2 ⟨Qq * Qy, Nat.mul_comm _ _⟩)
    rw [hx]
    exact Nat.dvd_trans (Nat.pow_dvd_pow 2 h) ⟨Qx, Nat.mul_comm _ _⟩
end Go.Proofs.YthoejmhpgabgdaaDoor
