/-
  PLAIN: the nearest number is no farther than any other one. No Go function here.
-/
import Derived.Test.YtapdjclhpcakeaaDoorToR
import Derived.Test.YtapdjclhpcakeaaDoorValP
set_option linter.unusedVariables false
set_option linter.unusedSimpArgs false
namespace Go.Proofs.YtapdjclhpcakeaaDoor
open Go.RowKit Nt Fm Fl

def absD (d : D) : D := ⟨false, d.m, d.e⟩
theorem absD_fit {d : D} (h : Fit d) : Fit (absD d) := by
  obtain ⟨h1, h2, h3, h4⟩ := h
  refine ⟨?_, h2, h3, h4⟩
  rcases h1 with h1 | h1
  · left; rw [h1]; rfl
  · right; exact h1
theorem absD_vl (d : D) (T : Nat) : (absD d).vl T = ((d.vl T).natAbs : Int) := by
  rw [vl_natAbs]; unfold absD D.vl D.sm; simp
theorem cmp_abs {p q : D} {T : Nat} (h1 : 0 ≤ p.e + T) (h2 : 0 ≤ q.e + T) (h : (p.vl T).natAbs ≤ (q.vl T).natAbs) : cmp (absD p) (absD q) ≤ 0 := by
  have k1 : 0 ≤ (absD p).e + T := h1
  have k2 : 0 ≤ (absD q).e + T := h2
  rw [cmp_le k1 k2, absD_vl, absD_vl]; omega
/-- the value of a float, counted -/
theorem valD_vl (x : Int) (h0 : 0 ≤ x) (h1 : x ≤ 18446744073709551615) (hv : fabs x < 9218868437227405312) (t : Nat) :
    (valD x).vl (1074 + t) = if fng x then -((mag (fabs x).toNat * 2 ^ t : Nat) : Int) else ((mag (fabs x).toNat * 2 ^ t : Nat) : Int) := by
  have hb := valD_facts x h0 h1
  have ht : tt t (valD x).m (valD x).e = mag (fabs x).toNat * 2 ^ t := by
    rcases valD_tt x h0 h1 t with h | h
    · exact h
    · omega
  rw [← ht, ← sg_vl]
  unfold sg
  by_cases hm : (valD x).m = 0
  · have : tt t (valD x).m (valD x).e = 0 := by unfold tt; rw [hm]; simp
    rw [this]; simp
  · rw [hb.2.2.2.2 hm]
theorem near_arith {A Mn Mp Mr M1 : Nat} (h1 : Mp + Mn ≤ 2 * A ∨ Mn = 0) (h2 : 2 * A ≤ Mn + M1) (hr : Mr = Mn ∨ (Mr ≤ Mp ∧ Mp ≤ Mn) ∨ M1 ≤ Mr) (hmp : Mp ≤ Mn) (hm1 : Mn ≤ M1) (s s2 : Bool) :
    ((if s then -(A : Int) else A) - (if s then -(Mn : Int) else Mn)).natAbs ≤ ((if s then -(A : Int) else A) - (if s2 then -(Mr : Int) else Mr)).natAbs := by
  cases s <;> cases s2 <;> simp only [Bool.false_eq_true, if_false, if_true] <;> omega
theorem numk_near {m : Nat} {e : Int} {t k : Nat} (ht : 0 ≤ e + 1074 + t) (hk : k = 2 ∨ k = 3) (hn : numk k m e < MR) (r : Nat) (s s2 : Bool) :
    ((if s then -((tt t m e : Nat) : Int) else ((tt t m e : Nat) : Int)) - (if s then -((mag (numk k m e) * 2 ^ t : Nat) : Int) else ((mag (numk k m e) * 2 ^ t : Nat) : Int))).natAbs ≤
    ((if s then -((tt t m e : Nat) : Int) else ((tt t m e : Nat) : Int)) - (if s2 then -((mag r * 2 ^ t : Nat) : Int) else ((mag r * 2 ^ t : Nat) : Int))).natAbs := by
  have a1 := (numk_iff ht k _).1 (Nat.le_refl (numk k m e))
  have a2 : ¬ Pk k t (tt t m e) (numk k m e + 1) := fun h => by have := (numk_iff ht k _).2 h; omega
  generalize numk k m e = n at *
  have hw := Nat.two_pow_pos t
  have up : 2 * tt t m e ≤ mag n * 2 ^ t + mag (n + 1) * 2 ^ t := by
    rw [← Nat.add_mul]
    rcases hk with rfl | rfl
    · simp only [Pk, Nat.add_sub_cancel] at a2; omega
    · simp only [Pk, Nat.add_sub_cancel] at a2; omega
  have lo : mag (n - 1) * 2 ^ t + mag n * 2 ^ t ≤ 2 * tt t m e ∨ mag n * 2 ^ t = 0 := by
    rw [← Nat.add_mul]
    rcases Nat.eq_zero_or_pos n with h0 | h0
    · right; subst h0; rw [mag_zero]; simp
    · left
      rcases hk with rfl | rfl
      · simp only [Pk] at a1; omega
      · simp only [Pk] at a1; omega
  have mono : ∀ {i j : Nat}, i ≤ j → mag i * 2 ^ t ≤ mag j * 2 ^ t := fun h => Nat.mul_le_mul_right _ (mag_mono h)
  refine near_arith lo up ?_ (mono (by omega)) (mono (by omega)) s s2
  rcases Nat.lt_trichotomy r n with h | h | h
  · right; left; exact ⟨mono (by omega), mono (by omega)⟩
  · left; rw [h]
  · right; right; exact mono (by omega)
theorem fng_numR (d : D) (mode : Int) : (fabs (numR d mode)).toNat = numk (kd d.neg mode) d.m d.e ∧ (fng (numR d mode) = d.neg) := by
  have h := numk_le_MR (kd d.neg mode) d.m d.e
  have hMR : MR = 9218868437227405312 := rfl
  unfold numR fabs fng
  generalize numk (kd d.neg mode) d.m d.e = n at *
  cases d.neg <;> simp <;> omega
/-- the law of the nearest one -/
theorem near_law (d : D) (y mode : Int) (hm : mode = 0 ∨ mode = 4) (y0 : 0 ≤ y) (y1 : y ≤ 18446744073709551615) (hx : hasV (numR d mode) = true) (hy : hasV y = true) :
    cmp (absD (plus d (opp (valD (numR d mode))))) (absD (plus d (opp (valD y)))) ≤ 0 := by
  have hMR : MR = 9218868437227405312 := rfl
  have hb := numk_le_MR (kd d.neg mode) d.m d.e
  have xb : 0 ≤ numR d mode ∧ numR d mode ≤ 18446744073709551615 := by unfold numR; split <;> omega
  have hx' : fabs (numR d mode) < 9218868437227405312 := by unfold hasV at hx; simpa using hx
  have hy' : fabs y < 9218868437227405312 := by unfold hasV at hy; simpa using hy
  obtain ⟨f1, f2⟩ := fng_numR d mode
  have e1 := (valD_facts _ xb.1 xb.2).2.2.1
  have e2 := (valD_facts _ y0 y1).2.2.1
  obtain ⟨t, ht⟩ : ∃ t : Nat, 0 ≤ d.e + 1074 + t := ⟨(-(d.e + 1074)).toNat, by omega⟩
  have hd : 0 ≤ d.e + ((1074 + t : Nat) : Int) := by omega
  have hc : 0 ≤ (opp (valD (numR d mode))).e + ((1074 + t : Nat) : Int) := by show 0 ≤ (valD (numR d mode)).e + _; omega
  have ho : 0 ≤ (opp (valD y)).e + ((1074 + t : Nat) : Int) := by show 0 ≤ (valD y).e + _; omega
  refine cmp_abs (T := 1074 + t) (plus_eT hd hc) (plus_eT hd ho) ?_
  rw [plus_vl _ _ _ hd hc, plus_vl _ _ _ hd ho, opp_vl, opp_vl, valD_vl _ xb.1 xb.2 hx', valD_vl _ y0 y1 hy', f1, f2, ← sg_vl]
  have hk : kd d.neg mode = 2 ∨ kd d.neg mode = 3 := by
    unfold kd
    rcases hm with rfl | rfl
    · left; simp
    · right; simp
  have hlt : numk (kd d.neg mode) d.m d.e < MR := by
    rw [← f1]; have := fabs_bd (numR d mode); omega
  have := numk_near ht hk hlt (fabs y).toNat d.neg (fng y)
  unfold sg
  rw [← Int.sub_eq_add_neg, ← Int.sub_eq_add_neg]
  exact this
end Go.Proofs.YtapdjclhpcakeaaDoor
