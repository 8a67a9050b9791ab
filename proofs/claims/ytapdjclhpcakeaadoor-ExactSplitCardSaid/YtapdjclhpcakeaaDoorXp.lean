/-
  PLAIN: sums and products that are rounded to the nearest, as whole numbers; what TwoSum, FastSum, TwoProd tell is all there is. No Go function here.
-/
import Derived.Test.YtapdjclhpcakeaaDoorBq
import Derived.Test.YtapdjclhpcakeaaDoorBp
import Derived.Test.YtapdjclhpcakeaaDoorXt
set_option linter.unusedVariables false
set_option linter.unusedSimpArgs false
namespace Go.Proofs.YtapdjclhpcakeaaDoor
open Go.RowKit Nt Fm Fl

theorem rep_smag (x : Int) : Ep.Rep (smag x) := (rep_iff _).2 ⟨_, smag_abs x⟩
theorem smag_fneg {x : Int} (x0 : 0 ≤ x) (x1 : x ≤ 18446744073709551615) : smag (fneg x) = -smag x := by
  unfold smag
  rw [fabs_fneg, fng_fneg x0 x1]
  cases fng x <;> simp
theorem smag_z {x : Int} (h : fabs x = 0) : smag x = 0 := by
  have := smag_abs x
  rw [h] at this
  have e : mag (0 : Int).toNat = 0 := mag_zero
  rw [e] at this; omega
theorem fin_numR (d : D) (mode : Int) (h : fabs (numR d mode) < 9218868437227405312) : numk (kd d.neg mode) d.m d.e < MR := by
  have h1 := (fng_numR d mode).1
  have h2 := fabs_bd (numR d mode)
  have hMR : MR = 9218868437227405312 := rfl
  omega
/-- rounded to the nearest -/
theorem near_numR {d : D} {t : Nat} (ht : 0 ≤ d.e + ((1074 + t : Nat) : Int)) {z : Int} (hz : d.vl (1074 + t) = z * ((2 ^ t : Nat) : Int)) (h : fabs (numR d 0) < 9218868437227405312) : Ep.Nr z (smag (numR d 0)) := by
  have hf := fin_numR d 0 h
  have e2 : kd d.neg 0 = 2 := by unfold kd; cases d.neg <;> rfl
  obtain ⟨h1, h2⟩ := fng_numR d 0
  rw [e2] at h1 hf
  have ht' : 0 ≤ d.e + 1074 + (t : Int) := by omega
  have hp := Nat.two_pow_pos t
  have hT : tt t d.m d.e = z.natAbs * 2 ^ t := by rw [tt_vl, hz, Int.natAbs_mul, Int.natAbs_natCast]
  have ha : (smag (numR d 0)).natAbs = mag (numk 2 d.m d.e) := by rw [smag_abs, h1]
  refine ⟨(rep_iff _).2 ⟨_, ha⟩, fun f hf2 => ?_⟩
  obtain ⟨r, hr⟩ := (rep_iff f).1 hf2
  have hn := numk_nearest ht' hf r
  rw [hT] at hn
  have key : ((z.natAbs : Int) - (mag (numk 2 d.m d.e) : Int)).natAbs ≤ ((z.natAbs : Int) - (mag r : Int)).natAbs := by
    have a : ∀ u v : Nat, (((u * 2 ^ t : Nat) : Int) - ((v * 2 ^ t : Nat) : Int)).natAbs = ((u : Int) - (v : Int)).natAbs * 2 ^ t := by
      intro u v
      rw [Int.natCast_mul, Int.natCast_mul, ← Int.sub_mul, Int.natAbs_mul, Int.natAbs_natCast]
    rw [a, a] at hn
    exact Nat.le_of_mul_le_mul_right hn hp
  have hs : (0 ≤ z ∧ 0 ≤ smag (numR d 0)) ∨ (z ≤ 0 ∧ smag (numR d 0) ≤ 0) := by
    have hzs : z * ((2 ^ t : Nat) : Int) = d.sm * 2 ^ (d.e + ((1074 + t : Nat) : Int)).toNat := hz.symm
    have hpp : (0 : Int) < ((2 ^ t : Nat) : Int) := by omega
    have hq : (0 : Int) ≤ 2 ^ (d.e + ((1074 + t : Nat) : Int)).toNat := Int.le_of_lt (Int.pow_pos (by decide))
    unfold smag
    rw [h2]
    unfold D.sm at hzs
    cases hng : d.neg <;> rw [hng] at hzs <;> simp only [Bool.false_eq_true, if_false, if_true] at hzs ⊢
    · left
      refine ⟨?_, by omega⟩
      apply Int.le_of_mul_le_mul_right (a := ((2 ^ t : Nat) : Int)) _ hpp
      rw [Int.zero_mul, hzs]; exact Int.mul_nonneg (by omega) hq
    · right
      refine ⟨?_, by omega⟩
      apply Int.le_of_mul_le_mul_right (a := ((2 ^ t : Nat) : Int)) _ hpp
      rw [Int.zero_mul, hzs]; exact Int.mul_nonpos_of_nonpos_of_nonneg (by omega) hq
  omega
/-- no end is met -/
theorem fin_of_le {d : D} {t : Nat} (ht : 0 ≤ d.e + ((1074 + t : Nat) : Int)) {z : Int} (hz : d.vl (1074 + t) = z * ((2 ^ t : Nat) : Int)) {n : Nat} (n0 : 52 ≤ n) (n1 : n ≤ 2097) (h : z.natAbs ≤ Ep.P n) (mode : Int) : fabs (numR d mode) < 9218868437227405312 := by
  have ht' : 0 ≤ d.e + 1074 + (t : Int) := by omega
  have hMR : MR = 9218868437227405312 := rfl
  have hm := mag_of 4503599627370496 (n - 52) (by omega) (by omega)
  have e : 4503599627370496 * 2 ^ (n - 52) = Ep.P n := by
    rw [show n = 52 + (n - 52) by omega, Ep.P_add, show 52 + (n - 52) - 52 = n - 52 by omega]; rfl
  rw [e] at hm
  have hT : tt t d.m d.e = z.natAbs * 2 ^ t := by rw [tt_vl, hz, Int.natAbs_mul, Int.natAbs_natCast]
  have := numk_le ht' (kd d.neg mode) (r := 4503599627370496 + (n - 52) * 4503599627370496) (by omega) (by rw [hT, hm]; exact Nat.mul_le_mul_right _ h)
  have h1 := (fng_numR d mode).1
  have h2 := fabs_bd (numR d mode)
  omega
/-- a rounded sum -/
theorem sum_nr {x y : Int} (x0 : 0 ≤ x) (x1 : x ≤ 18446744073709551615) (y0 : 0 ≤ y) (y1 : y ≤ 18446744073709551615) (hx : fabs x < 9218868437227405312) (hy : fabs y < 9218868437227405312) (h : fabs (plV x y) < 9218868437227405312) :
    Ep.Nr (smag x + smag y) (smag (plV x y)) := by
  obtain ⟨-, -, -, a, b⟩ := allV_fin [x, y] (by simp [hx, hy]) 0
  obtain ⟨v1, v2⟩ := sumD_two_vl x0 x1 y0 y1 hx hy
  unfold plV at h ⊢
  by_cases hz : (sumD [x, y]).m = 0
  · have e := b hz
    rw [vl_zero hz] at v1
    rw [← v1, smag_z e]
    exact ⟨Ep.Rep.zero, fun f _ => by omega⟩
  · rw [a hz] at h ⊢
    exact near_numR (t := 0) v2 (by rw [show 1074 + 0 = 1074 from rfl, v1]; simp) h
theorem sum_fin {x y : Int} (x0 : 0 ≤ x) (x1 : x ≤ 18446744073709551615) (y0 : 0 ≤ y) (y1 : y ≤ 18446744073709551615) (hx : fabs x < 9218868437227405312) (hy : fabs y < 9218868437227405312) {n : Nat} (n0 : 52 ≤ n) (n1 : n ≤ 2097) (h : (smag x + smag y).natAbs ≤ Ep.P n) :
    fabs (plV x y) < 9218868437227405312 ∧ (smag (plV x y)).natAbs ≤ Ep.P n ∧ Ep.Nr (smag x + smag y) (smag (plV x y)) := by
  have hf : fabs (plV x y) < 9218868437227405312 := by
    obtain ⟨-, -, -, a, b⟩ := allV_fin [x, y] (by simp [hx, hy]) 0
    obtain ⟨v1, v2⟩ := sumD_two_vl x0 x1 y0 y1 hx hy
    unfold plV
    by_cases hz : (sumD [x, y]).m = 0
    · rw [b hz]; decide
    · rw [a hz]
      exact fin_of_le (t := 0) v2 (z := smag x + smag y) (by rw [show 1074 + 0 = 1074 from rfl, v1]; simp) n0 n1 h 0
  have hn := sum_nr x0 x1 y0 y1 hx hy hf
  refine ⟨hf, ?_, hn⟩
  have a1 := hn.ge (Ep.Rep.pow n).neg
  have a2 := hn.le (Ep.Rep.pow n)
  omega
theorem diff_fin {x y : Int} (x0 : 0 ≤ x) (x1 : x ≤ 18446744073709551615) (y0 : 0 ≤ y) (y1 : y ≤ 18446744073709551615) (hx : fabs x < 9218868437227405312) (hy : fabs y < 9218868437227405312) {n : Nat} (n0 : 52 ≤ n) (n1 : n ≤ 2097) (h : (smag x - smag y).natAbs ≤ Ep.P n) :
    fabs (miV x y) < 9218868437227405312 ∧ (smag (miV x y)).natAbs ≤ Ep.P n ∧ Ep.Nr (smag x - smag y) (smag (miV x y)) := by
  obtain ⟨n0', n1'⟩ := fneg_bd y0 y1
  have e : smag x - smag y = smag x + smag (fneg y) := by rw [smag_fneg y0 y1]; omega
  rw [e] at h ⊢
  exact sum_fin x0 x1 n0' n1' hx (by rw [fabs_fneg]; exact hy) n0 n1 h
/-- the law of TwoSum -/
theorem two_law {x y : Int} (x0 : 0 ≤ x) (x1 : x ≤ 18446744073709551615) (y0 : 0 ≤ y) (y1 : y ≤ 18446744073709551615) (hx : fabs x < 9218868437227405312) (hy : fabs y < 9218868437227405312) {N : Nat} (n0 : 52 ≤ N) (n1 : N ≤ 2080)
    (bx : (smag x).natAbs ≤ Ep.P N) (by' : (smag y).natAbs ≤ Ep.P N) :
    fabs (plV x y) < 9218868437227405312 ∧ fabs (plV (tsP x y) (tsQ x y)) < 9218868437227405312 ∧ smag (plV (tsP x y) (tsQ x y)) = smag x + smag y - smag (plV x y) ∧ Ep.Nr (smag x + smag y) (smag (plV x y)) := by
  have p1 : Ep.P (N + 1) = 2 * Ep.P N := Ep.P_succ _
  have p2 : Ep.P (N + 2) = 2 * Ep.P (N + 1) := Ep.P_succ _
  have p3 : Ep.P (N + 3) = 2 * Ep.P (N + 2) := Ep.P_succ _
  have p4 : Ep.P (N + 4) = 2 * Ep.P (N + 3) := Ep.P_succ _
  have p5 : Ep.P (N + 5) = 2 * Ep.P (N + 4) := Ep.P_succ _
  obtain ⟨s1, s2, s3⟩ := sum_fin x0 x1 y0 y1 hx hy (n := N + 1) (by omega) (by omega) (by omega)
  obtain ⟨sb0, sb1⟩ := plV_bd x0 x1 y0 y1
  obtain ⟨a1, a2, a3⟩ := diff_fin sb0 sb1 y0 y1 s1 hy (n := N + 2) (by omega) (by omega) (by omega)
  obtain ⟨ab0, ab1⟩ := miV_bd sb0 sb1 y0 y1
  obtain ⟨b1, b2, b3⟩ := diff_fin sb0 sb1 ab0 ab1 s1 a1 (n := N + 3) (by omega) (by omega) (by omega)
  obtain ⟨bb0, bb1⟩ := miV_bd sb0 sb1 ab0 ab1
  obtain ⟨c1, c2, c3⟩ := diff_fin x0 x1 ab0 ab1 hx a1 (n := N + 3) (by omega) (by omega) (by omega)
  obtain ⟨cb0, cb1⟩ := miV_bd x0 x1 ab0 ab1
  obtain ⟨d1, d2, d3⟩ := diff_fin y0 y1 bb0 bb1 hy b1 (n := N + 4) (by omega) (by omega) (by omega)
  obtain ⟨db0, db1⟩ := miV_bd y0 y1 bb0 bb1
  obtain ⟨e1, e2, e3⟩ := sum_fin cb0 cb1 db0 db1 c1 d1 (n := N + 5) (by omega) (by omega) (by omega)
  exact ⟨s1, e1, Ep.twoSum (rep_smag x) (rep_smag y) s3 a3 b3 c3 d3 e3, s3⟩
/-- the law of FastSum -/
theorem fast_law {x y : Int} (x0 : 0 ≤ x) (x1 : x ≤ 18446744073709551615) (y0 : 0 ≤ y) (y1 : y ≤ 18446744073709551615) (hx : fabs x < 9218868437227405312) (hy : fabs y < 9218868437227405312) {N : Nat} (n0 : 52 ≤ N) (n1 : N ≤ 2080)
    (bx : (smag x).natAbs ≤ Ep.P N) (by' : (smag y).natAbs ≤ Ep.P N) (hxy : fabs y ≤ fabs x) :
    fabs (miV y (miV (plV x y) x)) < 9218868437227405312 ∧ smag (miV y (miV (plV x y) x)) = smag x + smag y - smag (plV x y) := by
  have p1 : Ep.P (N + 1) = 2 * Ep.P N := Ep.P_succ _
  have p2 : Ep.P (N + 2) = 2 * Ep.P (N + 1) := Ep.P_succ _
  have p3 : Ep.P (N + 3) = 2 * Ep.P (N + 2) := Ep.P_succ _
  obtain ⟨s1, s2, s3⟩ := sum_fin x0 x1 y0 y1 hx hy (n := N + 1) (by omega) (by omega) (by omega)
  obtain ⟨sb0, sb1⟩ := plV_bd x0 x1 y0 y1
  obtain ⟨a1, a2, a3⟩ := diff_fin sb0 sb1 x0 x1 s1 hx (n := N + 2) (by omega) (by omega) (by omega)
  obtain ⟨ab0, ab1⟩ := miV_bd sb0 sb1 x0 x1
  obtain ⟨b1, b2, b3⟩ := diff_fin y0 y1 ab0 ab1 hy a1 (n := N + 3) (by omega) (by omega) (by omega)
  have hmag : (smag y).natAbs ≤ (smag x).natAbs := by
    rw [smag_abs, smag_abs]; exact mag_mono (by omega)
  exact ⟨b1, Ep.fastSum (rep_smag x) (rep_smag y) hmag s3 a3 b3⟩
/-- half of the last place -/
theorem half_law {x y : Int} (hs : fabs (plV x y) < 9218868437227405312) (h : Ep.Nr (smag x + smag y) (smag (plV x y))) : 2 * (smag x + smag y - smag (plV x y)).natAbs ≤ 2 ^ (ulE (plV x y) + 1074).toNat := by
  have hb := fabs_bd (plV x y)
  have be := fexp_bd (plV x y)
  have hlt : (smag (plV x y)).natAbs < Ep.P (53 + (ulE (plV x y) + 1074).toNat) := by
    rw [smag_abs]
    have hfe : fabs (plV x y) = fexp (plV x y) * 4503599627370496 + ffr (plV x y) := by unfold fabs fexp ffr; omega
    have bf := ffr_bd (plV x y)
    have e : (ulE (plV x y) + 1074).toNat = (fabs (plV x y)).toNat / 4503599627370496 - 1 := by
      unfold ulE; omega
    rw [e]
    obtain ⟨p, q1, q2⟩ := mag_part (fabs (plV x y)).toNat
    have hm := mag_lt_succ (fabs (plV x y)).toNat
    rw [mag_succ] at hm
    unfold mag
    split
    · rename_i hlt
      have : Ep.P 53 ≤ Ep.P (53 + ((fabs (plV x y)).toNat / 4503599627370496 - 1)) := Ep.P_le (by omega)
      have e53 : Ep.P 53 = 9007199254740992 := by decide
      omega
    · rw [Ep.P_add]
      have e53 : Ep.P 53 = 9007199254740992 := by decide
      rw [e53]
      exact Nat.mul_lt_mul_of_pos_right (by omega) (Ep.P_pos _)
  have hz : (smag x + smag y).natAbs ≤ Ep.P (53 + (ulE (plV x y) + 1074).toNat) := by
    have r := Ep.Rep.pow (53 + (ulE (plV x y) + 1074).toNat)
    have a1 := h.ge r
    have a2 := h.le r.neg
    omega
  exact Ep.half h hz
/-- of a product: what is lost is a number -/
theorem prod_rest {X Y Z s : Int} {q1 q2 : Int} {J : Nat} (hq1 : q1.natAbs < 9007199254740992) (hq2 : q2.natAbs < 9007199254740992) (hZ : Z = q1 * q2 * (Ep.P J : Int)) (h : Ep.Nr Z s) : Ep.Rep (Z - s) ∧ (Z - s).natAbs ≤ Ep.P (53 + J) := by
  have hd : (Ep.P J : Int) ∣ Z := ⟨q1 * q2, by rw [hZ, Int.mul_comm]⟩
  have hZ2 : Z.natAbs ≤ Ep.P (53 + (53 + J)) := by
    rw [hZ, Int.natAbs_mul, Int.natAbs_mul, Int.natAbs_natCast, Ep.P_add, Ep.P_add, ← Nat.mul_assoc]
    have e53 : Ep.P 53 = 9007199254740992 := by decide
    rw [e53]
    exact Nat.mul_le_mul_right _ (Nat.mul_le_mul (by omega) (by omega))
  have hh := Ep.half h hZ2
  refine ⟨⟨J, Int.dvd_sub hd (h.dvd hd), by omega⟩, by omega⟩
end Go.Proofs.YtapdjclhpcakeaaDoor
