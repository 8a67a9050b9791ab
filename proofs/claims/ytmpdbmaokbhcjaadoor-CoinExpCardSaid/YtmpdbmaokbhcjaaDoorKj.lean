/-
  PLAIN: the law of CoinExp.
-/
import Derived.Test.YtmpdbmaokbhcjaaDoorKh
set_option linter.unusedVariables false
set_option linter.unusedSimpArgs false
namespace Go.Proofs.YtmpdbmaokbhcjaaDoor
open Go.RowKit Nt Fm Kn
open Ea (IsFl tw Lo Hi)

theorem rv_small_neg (a J : Nat) : rv (norm true a (-(J : Int))) = -((a : Rat) * tw (-(J : Int))) := by
  by_cases h : a = 0
  · subst h
    show rv nz = _
    have : ((0 : Nat) : Rat) = 0 := rfl
    rw [this, Rat.zero_mul]
    unfold rv nz D.sm
    show ((0 : Int) : Rat) * _ = _
    have : ((0 : Int) : Rat) = 0 := rfl
    rw [this, Rat.zero_mul]; rfl
  · rw [ofInt_negn _ _ h, rv_ofInt, Rat.intCast_neg, Rat.neg_mul]; rfl
theorem tw_two (J : Nat) : tw (-(J : Int)) * ((2 ^ J : Nat) : Rat) = 1 := by
  have := Ea.tw_neg (J : Int)
  rw [Ea.tw_nat] at this
  rw [← this, Rat.natCast_pow]; rfl
theorem small_rv {a J : Nat} (ha : a ≤ 3 * 2 ^ J) : (a : Rat) * tw (-(J : Int)) ≤ 3 ∧ 0 ≤ (a : Rat) * tw (-(J : Int)) := by
  have h0 := Ea.tw_pos (-(J : Int))
  have h1 : (a : Rat) ≤ 3 * ((2 ^ J : Nat) : Rat) := by
    have := Rat.natCast_le_natCast.2 ha
    rw [Rat.natCast_mul] at this
    exact this
  have h2 := tw_two J
  have h3 := Rat.mul_le_mul_of_nonneg_right h1 (Rat.le_of_lt h0)
  exact ⟨by grind, Rat.mul_nonneg Rat.natCast_nonneg (Rat.le_of_lt h0)⟩
theorem sex_small {a J : Nat} (hJ : J ≤ 6) (ha : a ≤ 3 * 2 ^ J) : sexE 0 (norm true a (-(J : Int))) 40 = 0 := by
  have h64 : 2 ^ J ≤ 64 := Nat.pow_le_pow_right (n := 2) (by decide) hJ
  obtain ⟨K, hK⟩ : ∃ K : Nat, K = 1280 := ⟨_, rfl⟩
  have hm := norm_m_le true a (-(J : Int))
  have hp : 2 ^ 8 ≤ 2 ^ K := Nat.pow_le_pow_right (by decide) (by omega)
  have s0 : sckE 0 (norm true a (-(J : Int))) 40 = 0 := by
    unfold sckE
    rw [← hK, if_neg (by omega), if_neg (by omega), if_neg (by omega)]
  unfold sexE
  rw [if_neg (by rw [s0]; decide), if_neg]
  have h1 : cmp (absN (norm true a (-(J : Int)))) d800 ≤ 0 := by
    rw [rv_le, rv_800]
    have e : absN (norm true a (-(J : Int))) = norm false a (-(J : Int)) := by
      unfold absN norm
      split <;> rfl
    rw [e, ofInt_pos, rv_ofInt]
    have := (small_rv ha).1
    show (a : Rat) * _ ≤ 800
    exact Rat.le_trans this (by decide)
  omega
theorem ofInt_step (e : Int) : (⟨false, 1, e⟩ : D) = ofInt 1 e := (ofInt_one e).symm
theorem coin_law {a J k : Nat} (hJ : J ≤ 6) (ha : a ≤ 3 * 2 ^ J) (hk : k ≤ 10) {Y O : Nat} (hY : Y = cntR (2 ^ k) (hitE a (2 ^ J) k true)) (hO : O = cntR (2 ^ k) (hitO a (2 ^ J) k)) {q : Int} (hq : IsFl (rv (norm true a (-(J : Int)))) q 40) :
    Fit (ofInt q (-40)) ∧ Fit (ofInt q (-40 + k)) ∧ Fit (plus (ofInt q (-40 + k)) ⟨false, 1, (k : Int) - 40⟩) ∧ Fit (⟨false, 1, (k : Int) - 40⟩ : D) ∧
    cmp (norm false Y 0) (plus (ofInt q (-40 + k)) ⟨false, 1, (k : Int) - 40⟩) ≤ 0 ∧ cmp (ofInt q (-40 + k)) (norm false (Y + O) 0) ≤ 0 := by
  have h64 : 2 ^ J ≤ 64 := Nat.pow_le_pow_right (n := 2) (by decide) hJ
  have hJ0 := Nat.two_pow_pos J
  have hall := hit_all a (2 ^ J) k (2 ^ k)
  rw [← hY, ← hO, hit_exp] at hall
  rw [hit_exp] at hY
  have hx : rv (norm true a (-(J : Int))) ≤ 800 := by
    rw [rv_small_neg]
    have := (small_rv ha).2
    grind
  obtain ⟨q0, q1⟩ := fl_bd hq hx (by omega)
  have one_bd : (1 : Int).natAbs < 2 ^ 2901 := pow_le2 (k := 1) (l := 2901) (by decide) (by decide)
  have s1 := natAbs_add_lt q1 one_bd (l := 2902) rfl
  have ek : (k : Int) - 40 = -40 + k := by omega
  rw [ek, ofInt_step, ofInt_plus]
  refine ⟨ofInt_bd q1 (by omega) (by omega) (by omega), ofInt_bd q1 (by omega) (by omega) (by omega), ofInt_bd s1 (by omega) (by omega) (by omega), ofInt_bd (k := 1) (by decide) (by omega) (by omega) (by omega), ?_, ?_⟩
  all_goals
    have N0 : (0 : Rat) ≤ ((2 ^ k : Nat) : Rat) := Rat.natCast_nonneg
    obtain ⟨L, H, hL, hH, hy, hn⟩ := expN_law (a := a) (b := 2 ^ J) hJ0 (by omega) (y := (a : Rat) * tw (-(J : Int))) (by rw [Rat.mul_assoc, tw_two, Rat.mul_one]) k
    obtain ⟨h1, h, h2, h3⟩ := hq
    rw [rv_small_neg] at h1 h2
    have etw : tw (-40 + (k : Int)) = tw (-((40 : Nat) : Int)) * ((2 ^ k : Nat) : Rat) := by
      rw [Ea.tw_add, Ea.tw_nat, Rat.natCast_pow]; rfl
    rw [rv_le, rv_ofInt, ofInt_pos, rv_ofInt, Ea.tw_zero, Rat.mul_one, etw]
    generalize tw (-((40 : Nat) : Int)) = δ at *
    generalize hN : ((2 ^ k : Nat) : Rat) = N at *
  · rw [← hY] at hy
    have g1 := Ea.lo_hi hL h2
    have g2 := Rat.mul_le_mul_of_nonneg_left g1 N0
    have g3 := Rat.mul_le_mul_of_nonneg_left (Rat.le_of_lt h3) N0
    rw [Rat.intCast_add]
    have e1 : ((1 : Int) : Rat) = 1 := rfl
    rw [e1]
    show (Y : Rat) ≤ _
    grind
  · have g1 := Ea.lo_hi h1 hH
    have g2 := Rat.mul_le_mul_of_nonneg_left g1 N0
    have e2 : ((Y + O : Nat) : Rat) + ((expN a (2 ^ J) k false : Nat) : Rat) = N := by
      rw [← Rat.natCast_add, show Y + O + expN a (2 ^ J) k false = 2 ^ k by omega]
      exact hN
    show _ ≤ ((Y + O : Nat) : Rat)
    grind
end Go.Proofs.YtmpdbmaokbhcjaaDoor
