/-
  PLAIN: what round.Number computes is the rounding of Fm.
-/
import Derived.Test.YtapdjclhpcakeaaDoorRd1
set_option linter.unusedVariables false
set_option linter.unusedSimpArgs false
namespace Go.Proofs.YtapdjclhpcakeaaDoor
open Go.RowKit Nt Fm

def awayB (neg : Bool) (mode : Int) : Bool := decide (mode = 0) || (decide (mode = 4) || ((decide (mode = 1) && !neg) || (decide (mode = 2) && neg)))
/-- the last steps of round.Number -/
def finN (n : Nat) : Nat := if n = 9007199254740992 then 4503599627370496 else n
def finK (n : Nat) (k : Int) : Int := if n = 9007199254740992 then k + 1 else k
def finR (neg : Bool) (n : Nat) (k mode : Int) : Int :=
  (if 971 < finK n k then (if awayB neg mode then 9218868437227405312 else 9218868437227405311)
   else if finN n < 4503599627370496 then (finN n : Int) else (finK n k + 1075) * 4503599627370496 + (finN n : Int) % 4503599627370496) + if neg then 9223372036854775808 else 0
def finC (n : Nat) (k : Int) (c : Bool) : Bool := decide (971 < finK n k) || c

def numR (d : D) (mode : Int) : Int := (numk (kd d.neg mode) d.m d.e : Int) + if d.neg then 9223372036854775808 else 0
def numC (d : D) : Bool := chg d.m d.e

theorem blen_eq (m : Nat) : blen m = bl m := rfl

theorem upB_upk (neg : Bool) (m : Nat) (e mode : Int) (h0 : 0 ≤ mode) (h1 : mode ≤ 4) (hs : 0 < ss m e) :
    upB neg (decide (m / 2 ^ (ss m e).toNat % 2 = 1)) (sgn2 ((m % 2 ^ (ss m e).toNat : Nat) : Int) ((2 ^ ((ss m e).toNat - 1) : Nat) : Int)) mode = upk (kd neg mode) m e := by
  have eq1 : m / 2 ^ (ss m e).toNat = qq m e := by unfold qq; rw [if_neg (by omega)]
  have eq2 : m % 2 ^ (ss m e).toNat = rr m e := by unfold rr; rw [if_neg (by omega)]
  have ep : 2 ^ (ss m e).toNat = 2 * 2 ^ ((ss m e).toNat - 1) := by rw [← Nat.pow_succ']; congr 1; omega
  rw [eq1, eq2]
  have eh : sgn2 ((rr m e : Nat) : Int) ((2 ^ ((ss m e).toNat - 1) : Nat) : Int) = hh m e := by
    unfold sgn2 hh; rw [ep]
    generalize 2 ^ ((ss m e).toNat - 1) = P
    split <;> split <;> (try split) <;> omega
  rw [eh]
  have hm : mode = 0 ∨ mode = 1 ∨ mode = 2 ∨ mode = 3 ∨ mode = 4 := by omega
  rcases hm with rfl | rfl | rfl | rfl | rfl <;> cases neg <;> simp [upB, upk, kd]

theorem cutM_r1 (neg : Bool) (m : Nat) (e mode : Int) (h0 : 0 ≤ mode) (h1 : mode ≤ 4) :
    cutM neg m (ss m e) mode + jj m e * 4503599627370496 = r1 (kd neg mode) m e ∧ qq m e ≤ cutM neg m (ss m e) mode ∧ cutM neg m (ss m e) mode ≤ qq m e + 1 := by
  unfold cutM r1 r0
  by_cases hs : ss m e ≤ 0
  · rw [if_pos hs]
    have e1 : m * 2 ^ (-ss m e).toNat = qq m e := by unfold qq; rw [if_pos hs]
    have e2 : rr m e = 0 := by unfold rr; rw [if_pos hs]
    rw [e1, e2]; simp
  · rw [if_neg hs]
    have eq1 : m / 2 ^ (ss m e).toNat = qq m e := by unfold qq; rw [if_neg (by omega)]
    have eq2 : m % 2 ^ (ss m e).toNat = rr m e := by unfold rr; rw [if_neg (by omega)]
    have hu := upB_upk neg m e mode h0 h1 (by omega)
    rw [eq1, eq2] at hu
    rw [eq1, eq2]
    by_cases hr : rr m e = 0
    · rw [if_pos hr]; simp [hr]
    · rw [if_neg hr, hu]
      cases upk (kd neg mode) m e
      · simp [hr]
      · simp [hr]; omega

theorem cutC_rr (m : Nat) (e : Int) : cutC m (ss m e) = decide (rr m e ≠ 0) := by
  unfold cutC lostB rr
  by_cases hs : ss m e ≤ 0
  · simp [hs]; omega
  · simp [hs]; omega

theorem kd_zero (neg : Bool) (mode : Int) (h0 : 0 ≤ mode) (h1 : mode ≤ 4) : (kd neg mode = 0) ↔ (awayB neg mode = false) := by
  have hm : mode = 0 ∨ mode = 1 ∨ mode = 2 ∨ mode = 3 ∨ mode = 4 := by omega
  rcases hm with rfl | rfl | rfl | rfl | rfl <;> cases neg <;> simp [awayB, kd]

theorem fin_num {d : D} {mode : Int} (h0 : 0 ≤ mode) (h1 : mode ≤ 4) (hz : d.m = 0 → d.e ≤ 1000) :
    finR d.neg (cutM d.neg d.m (ss d.m d.e) mode) (kk d.m d.e) mode = numR d mode ∧ finC (cutM d.neg d.m (ss d.m d.e) mode) (kk d.m d.e) (cutC d.m (ss d.m d.e)) = numC d ∧ cutM d.neg d.m (ss d.m d.e) mode ≤ 9007199254740992 := by
  obtain ⟨a, b, c⟩ := cutM_r1 d.neg d.m d.e mode h0 h1
  have hq := qq_lt d.m d.e
  have hj := jj_eq d.m d.e
  have hk := kk_ge d.m d.e
  by_cases hm : d.m = 0
  · have hk2 : kk d.m d.e ≤ 971 := by unfold kk; rw [hm]; have := hz hm; simp [bl]; omega
    have e1 : cutM d.neg d.m (ss d.m d.e) mode = 0 := by
      unfold cutM; rw [hm]; split
      · simp
      · simp
    have e2 : cutC d.m (ss d.m d.e) = false := by unfold cutC lostB; rw [hm]; simp
    rw [e1, e2]
    refine ⟨?_, ?_, by omega⟩
    · have en : numk (kd d.neg mode) d.m d.e = 0 := by unfold numk; rw [if_pos hm]
      unfold finR finK finN numR; rw [en, if_neg (by omega)]; simp
    · have en : chg d.m d.e = false := by unfold chg; simp [hm]
      unfold finC finK numC; rw [en]; simp; omega
  · have hg := qq_ge hm d.e
    refine ⟨?_, ?_, by omega⟩
    · unfold finR numR numk
      congr 1
      rw [if_neg hm]
      have hkz := kd_zero d.neg mode h0 h1
      unfold finK finN
      have hMR : MR = 9218868437227405312 := rfl
      rw [hMR]
      generalize cutM d.neg d.m (ss d.m d.e) mode = n at *
      generalize r1 (kd d.neg mode) d.m d.e = r at *
      generalize kk d.m d.e = k at *
      generalize jj d.m d.e = j at *
      generalize qq d.m d.e = q at *
      generalize kd d.neg mode = kz at *
      by_cases haw : awayB d.neg mode = true
      · have hk0 : ¬ kz = 0 := fun h => by have := hkz.1 h; rw [haw] at this; cases this
        simp only [haw, hk0, if_true, if_false]
        (repeat' split) <;> omega
      · have hk0 : kz = 0 := hkz.2 (by simpa using haw)
        simp only [haw, hk0, if_true, Bool.false_eq_true, if_false]
        (repeat' split) <;> omega
    · rw [cutC_rr]
      unfold finC numC chg
      have hMR : MR = 9218868437227405312 := rfl
      have hr0 : r0 d.m d.e = qq d.m d.e + jj d.m d.e * 4503599627370496 := rfl
      have hr1 : r1 (kd d.neg mode) d.m d.e = if rr d.m d.e ≠ 0 ∧ upk (kd d.neg mode) d.m d.e = true then r0 d.m d.e + 1 else r0 d.m d.e := rfl
      have key : (971 < finK (cutM d.neg d.m (ss d.m d.e) mode) (kk d.m d.e)) ↔ MR ≤ r1 (kd d.neg mode) d.m d.e := by
        rw [hMR]; unfold finK; split <;> omega
      have hne : (decide (d.m ≠ 0)) = true := by simp [hm]
      rw [hne, Bool.true_and]
      by_cases hr : rr d.m d.e = 0
      · rw [hr1] at key
        simp only [hr, ne_eq, not_true_eq_false, false_and, if_false] at key
        simp [hr, key]
      · simp [hr]
end Go.Proofs.YtapdjclhpcakeaaDoor
