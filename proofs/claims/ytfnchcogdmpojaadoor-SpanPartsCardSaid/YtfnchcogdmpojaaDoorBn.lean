/-
  SOME OF MY TEXTS in one: SmP Near. Each says what it proves.
-/
import Derived.Test.YtfnchcogdmpojaaDoorBg
import Derived.Test.YtfnchcogdmpojaaDoorBh
set_option linter.unusedVariables false
set_option linter.unusedSimpArgs false
/-
  PLAIN: what sum.all adds up. No Go function here.
-/
namespace Go.Proofs.YtfnchcogdmpojaaDoor
open Go.RowKit Nt Fm Fl

structure St where
  inf : Int
  clash : Bool
  nan : Bool
  ng : Nat
  ps : Nat
  s : D
def st0 : St := ⟨0, false, false, 0, 0, nz⟩
def stp (st : St) (x : Int) : St :=
  if fcls x = 5 then ⟨st.inf, st.clash, true, st.ng, st.ps, st.s⟩
  else if fcls x = 4 then ⟨x, st.clash || (decide (st.inf ≠ 0) && decide (st.inf ≠ x)), st.nan, st.ng, st.ps, st.s⟩
  else if fcls x = 1 then (if x = 0 then ⟨st.inf, st.clash, st.nan, st.ng, st.ps + 1, st.s⟩ else ⟨st.inf, st.clash, st.nan, st.ng + 1, st.ps, st.s⟩)
  else ⟨st.inf, st.clash, st.nan, st.ng, st.ps, plus st.s (valD x)⟩
def stL (l : List Int) : St := l.foldl stp st0
theorem stL_snoc (l : List Int) (x : Int) : stL (l ++ [x]) = stp (stL l) x := by unfold stL; rw [List.foldl_append]; rfl
theorem stL_take (l : List Int) (k : Nat) (h : k < l.length) : stL (l.take (k + 1)) = stp (stL (l.take k)) (l.getD k 0) := by
  rw [List.take_succ_eq_append_getElem h, stL_snoc]
  congr 1; simp [List.getD, h]
/-- a power of two that nothing works out -/
def Pw (n : Nat) : Nat := 2 ^ n
theorem Pw_pos (n : Nat) : 0 < Pw n := Nat.two_pow_pos _
theorem Pw_add (a b : Nat) : Pw (a + b) = Pw a * Pw b := Nat.pow_add _ _ _
theorem Pw_le {a b : Nat} (h : a ≤ b) : Pw a ≤ Pw b := Nat.pow_le_pow_right (by decide) h
/-- how great a sum of so many can be -/
def Sml (k : Nat) (d : D) : Prop := d.Nf ∧ -1074 ≤ d.e ∧ (d.vl 1074).natAbs ≤ k * Pw 2227
theorem Sml.zero (k : Nat) : Sml k nz := ⟨Or.inl rfl, by decide, by rw [vl_zero (d := nz) rfl]; exact Nat.zero_le _⟩
theorem Sml.mono {j k : Nat} {d : D} (h : Sml j d) (hk : j ≤ k) : Sml k d := ⟨h.1, h.2.1, Nat.le_trans h.2.2 (Nat.mul_le_mul_right _ hk)⟩
theorem valD_sml (x : Int) (h0 : 0 ≤ x) (h1 : x ≤ 18446744073709551615) : Sml 1 (valD x) := by
  obtain ⟨f1, f2, f3, f4, -⟩ := valD_facts x h0 h1
  refine ⟨f1, f3, ?_⟩
  rw [vl_natAbs, Nat.one_mul]
  have a : Pw ((valD x).e + ((1074 : Nat) : Int)).toNat ≤ Pw 2174 := Pw_le (by omega)
  have b : (valD x).m ≤ Pw 53 := Nat.le_of_lt f2
  rw [show (2227 : Nat) = 53 + 2174 from rfl, Pw_add]
  exact Nat.mul_le_mul b a
theorem Sml.plus {j k : Nat} {c d : D} (h1 : Sml j c) (h2 : Sml k d) : Sml (j + k) (plus c d) := by
  have e1 : 0 ≤ c.e + ((1074 : Nat) : Int) := by have := h1.2.1; omega
  have e2 : 0 ≤ d.e + ((1074 : Nat) : Int) := by have := h2.2.1; omega
  refine ⟨plus_Nf _ _, by have := plus_eT e1 e2; omega, ?_⟩
  rw [plus_vl _ _ _ e1 e2, Nat.add_mul]
  have a := h1.2.2; have b := h2.2.2
  omega
theorem Sml.bds {k : Nat} {d : D} (h : Sml k d) (hk : k ≤ 10000) : (∃ q, q ≤ 3000 ∧ d.m < 2 ^ q) ∧ -1074 ≤ d.e ∧ d.e ≤ 2000 := by
  obtain ⟨h1, h2, h3⟩ := h
  rw [vl_natAbs] at h3
  obtain ⟨p, hp0⟩ : ∃ p : Nat, p = 2227 := ⟨_, rfl⟩
  rw [← hp0] at h3
  obtain ⟨q, hq, hlt⟩ : ∃ q, q = p + 14 ∧ k * Pw p < 2 ^ q := by
    refine ⟨p + 14, rfl, ?_⟩
    have e : (2 : Nat) ^ (p + 14) = Pw p * 16384 := by unfold Pw; rw [Nat.pow_add]
    rw [e]
    have := Pw_pos p
    generalize Pw p = X at *
    have : k * X ≤ 10000 * X := Nat.mul_le_mul_right _ hk
    omega
  have hp := Nat.two_pow_pos (d.e + ((1074 : Nat) : Int)).toNat
  have hm : d.m * 1 ≤ d.m * 2 ^ (d.e + ((1074 : Nat) : Int)).toNat := Nat.mul_le_mul_left _ hp
  refine ⟨⟨q, by omega, by omega⟩, h2, ?_⟩
  by_cases hz : d.m = 0
  · rcases h1 with h1 | h1
    · rw [h1]; decide
    · omega
  · have : 1 * 2 ^ (d.e + ((1074 : Nat) : Int)).toNat ≤ d.m * 2 ^ (d.e + ((1074 : Nat) : Int)).toNat := Nat.mul_le_mul_right _ (by omega)
    rw [Nat.one_mul] at this
    have h5 := (Nat.pow_lt_pow_iff_right (by decide : 1 < 2)).1 (Nat.lt_of_le_of_lt (Nat.le_trans this h3) hlt)
    omega
theorem stp_sml {k : Nat} {st : St} (x : Int) (h0 : 0 ≤ x) (h1 : x ≤ 18446744073709551615) (h : Sml k st.s) : Sml (k + 1) (stp st x).s := by
  unfold stp
  split
  · exact h.mono (by omega)
  · split
    · exact h.mono (by omega)
    · split
      · split <;> exact h.mono (by omega)
      · exact h.plus (valD_sml x h0 h1)
theorem stL_sml : ∀ (l : List Int), (∀ x ∈ l, 0 ≤ x ∧ x ≤ 18446744073709551615) → ∀ k, k ≤ l.length → Sml k (stL (l.take k)).s
  | l, h, 0, _ => by simp [stL, st0]; exact Sml.zero 0
  | l, h, k + 1, hk => by
    rw [stL_take l k (by omega)]
    have e : l.getD k 0 = l[k]'(by omega) := by simp [List.getD, show k < l.length by omega]
    have hm := h _ (List.getElem_mem (show k < l.length by omega))
    rw [e]
    exact stp_sml _ hm.1 hm.2 (stL_sml l h k (by omega))
theorem stL_inf : ∀ (l : List Int), (∀ x ∈ l, 0 ≤ x ∧ x ≤ 18446744073709551615) → ∀ k, k ≤ l.length → 0 ≤ (stL (l.take k)).inf ∧ (stL (l.take k)).inf ≤ 18446744073709551615 ∧ (stL (l.take k)).ng ≤ k ∧ (stL (l.take k)).ps ≤ k
  | l, h, 0, _ => by simp [stL, st0]
  | l, h, k + 1, hk => by
    rw [stL_take l k (by omega)]
    have e : l.getD k 0 = l[k]'(by omega) := by simp [List.getD, show k < l.length by omega]
    have hm := h _ (List.getElem_mem (show k < l.length by omega))
    rw [e]
    have ih := stL_inf l h k (by omega)
    generalize stL (l.take k) = st at *
    unfold stp
    split
    · exact ⟨ih.1, ih.2.1, by simp only; omega, by simp only; omega⟩
    · split
      · exact ⟨hm.1, hm.2, by simp only; omega, by simp only; omega⟩
      · split
        · split
          · exact ⟨ih.1, ih.2.1, by simp only; omega, by simp only; omega⟩
          · exact ⟨ih.1, ih.2.1, by simp only; omega, by simp only; omega⟩
        · exact ⟨ih.1, ih.2.1, by simp only; omega, by simp only; omega⟩

/-- what is told of all -/
def allV (l : List Int) (mode : Int) : Int :=
  if ((stL l).nan || (stL l).clash) = true then 9221120237041090560 else if (stL l).inf ≠ 0 then (stL l).inf else if (stL l).s.m ≠ 0 then numR (stL l).s mode
  else if (stL l).ps = l.length then 0 else if (stL l).ng = l.length then 9223372036854775808 else if mode = 2 then 9223372036854775808 else 0
def allC (l : List Int) : Bool :=
  if ((stL l).nan || (stL l).clash) = true then false else if (stL l).inf ≠ 0 then false else if (stL l).s.m ≠ 0 then numC (stL l).s else false
end Go.Proofs.YtfnchcogdmpojaaDoor

/-
  PLAIN: the nearest number is no farther than any other one. No Go function here.
-/
namespace Go.Proofs.YtfnchcogdmpojaaDoor
open Go.RowKit Nt Fm Fl

def absD (d : D) : D := ⟨false, d.m, d.e⟩
theorem absD_fit {d : D} (h : Fit d) : Fit (absD d) := by
  obtain ⟨h1, h2, h3, h4⟩ := h
  refine ⟨?_, h2, h3, h4⟩
  rcases h1 with h1 | h1
  · left; rw [h1]; rfl
  · right; exact h1
theorem absD_vl (d : D) (T : Nat) : (absD d).vl T = ((d.vl T).natAbs : Int) := by
  rw [vl_natAbs]; unfold absD D.vl D.sm; simp
theorem cmp_abs {p q : D} {T : Nat} (h1 : 0 ≤ p.e + T) (h2 : 0 ≤ q.e + T) (h : (p.vl T).natAbs ≤ (q.vl T).natAbs) : cmp (absD p) (absD q) ≤ 0 := by
  have k1 : 0 ≤ (absD p).e + T := h1
  have k2 : 0 ≤ (absD q).e + T := h2
  rw [cmp_le k1 k2, absD_vl, absD_vl]; omega
/-- the value of a float, counted -/
theorem valD_vl (x : Int) (h0 : 0 ≤ x) (h1 : x ≤ 18446744073709551615) (hv : fabs x < 9218868437227405312) (t : Nat) :
    (valD x).vl (1074 + t) = if fng x then -((mag (fabs x).toNat * 2 ^ t : Nat) : Int) else ((mag (fabs x).toNat * 2 ^ t : Nat) : Int) := by
  have hb := valD_facts x h0 h1
  have ht : tt t (valD x).m (valD x).e = mag (fabs x).toNat * 2 ^ t := by
    rcases valD_tt x h0 h1 t with h | h
    · exact h
    · omega
  rw [← ht, ← sg_vl]
  unfold sg
  by_cases hm : (valD x).m = 0
  · have : tt t (valD x).m (valD x).e = 0 := by unfold tt; rw [hm]; simp
    rw [this]; simp
  · rw [hb.2.2.2.2 hm]
theorem near_arith {A Mn Mp Mr M1 : Nat} (h1 : Mp + Mn ≤ 2 * A ∨ Mn = 0) (h2 : 2 * A ≤ Mn + M1) (hr : Mr = Mn ∨ (Mr ≤ Mp ∧ Mp ≤ Mn) ∨ M1 ≤ Mr) (hmp : Mp ≤ Mn) (hm1 : Mn ≤ M1) (s s2 : Bool) :
    ((if s then -(A : Int) else A) - (if s then -(Mn : Int) else Mn)).natAbs ≤ ((if s then -(A : Int) else A) - (if s2 then -(Mr : Int) else Mr)).natAbs := by
  cases s <;> cases s2 <;> simp only [Bool.false_eq_true, if_false, if_true] <;> omega
theorem numk_near {m : Nat} {e : Int} {t k : Nat} (ht : 0 ≤ e + 1074 + t) (hk : k = 2 ∨ k = 3) (hn : numk k m e < MR) (r : Nat) (s s2 : Bool) :
    ((if s then -((tt t m e : Nat) : Int) else ((tt t m e : Nat) : Int)) - (if s then -((mag (numk k m e) * 2 ^ t : Nat) : Int) else ((mag (numk k m e) * 2 ^ t : Nat) : Int))).natAbs ≤
    ((if s then -((tt t m e : Nat) : Int) else ((tt t m e : Nat) : Int)) - (if s2 then -((mag r * 2 ^ t : Nat) : Int) else ((mag r * 2 ^ t : Nat) : Int))).natAbs := by
  have a1 := (numk_iff ht k _).1 (Nat.le_refl (numk k m e))
  have a2 : ¬ Pk k t (tt t m e) (numk k m e + 1) := fun h => by have := (numk_iff ht k _).2 h; omega
  generalize numk k m e = n at *
  have hw := Nat.two_pow_pos t
  have up : 2 * tt t m e ≤ mag n * 2 ^ t + mag (n + 1) * 2 ^ t := by
    rw [← Nat.add_mul]
    rcases hk with rfl | rfl
    · simp only [Pk, Nat.add_sub_cancel] at a2; omega
    · simp only [Pk, Nat.add_sub_cancel] at a2; omega
  have lo : mag (n - 1) * 2 ^ t + mag n * 2 ^ t ≤ 2 * tt t m e ∨ mag n * 2 ^ t = 0 := by
    rw [← Nat.add_mul]
    rcases Nat.eq_zero_or_pos n with h0 | h0
    · right; subst h0; rw [mag_zero]; simp
    · left
      rcases hk with rfl | rfl
      · simp only [Pk] at a1; omega
      · simp only [Pk] at a1; omega
  have mono : ∀ {i j : Nat}, i ≤ j → mag i * 2 ^ t ≤ mag j * 2 ^ t := fun h => Nat.mul_le_mul_right _ (mag_mono h)
  refine near_arith lo up ?_ (mono (by omega)) (mono (by omega)) s s2
  rcases Nat.lt_trichotomy r n with h | h | h
  · right; left; exact ⟨mono (by omega), mono (by omega)⟩
  · left; rw [h]
  · right; right; exact mono (by omega)
theorem fng_numR (d : D) (mode : Int) : (fabs (numR d mode)).toNat = numk (kd d.neg mode) d.m d.e ∧ (fng (numR d mode) = d.neg) := by
  have h := numk_le_MR (kd d.neg mode) d.m d.e
  have hMR : MR = 9218868437227405312 := rfl
  unfold numR fabs fng
  generalize numk (kd d.neg mode) d.m d.e = n at *
  cases d.neg <;> simp <;> omega
/-- the law of the nearest one -/
theorem near_law (d : D) (y mode : Int) (hm : mode = 0 ∨ mode = 4) (y0 : 0 ≤ y) (y1 : y ≤ 18446744073709551615) (hx : hasV (numR d mode) = true) (hy : hasV y = true) :
    cmp (absD (plus d (opp (valD (numR d mode))))) (absD (plus d (opp (valD y)))) ≤ 0 := by
  have hMR : MR = 9218868437227405312 := rfl
  have hb := numk_le_MR (kd d.neg mode) d.m d.e
  have xb : 0 ≤ numR d mode ∧ numR d mode ≤ 18446744073709551615 := by unfold numR; split <;> omega
  have hx' : fabs (numR d mode) < 9218868437227405312 := by unfold hasV at hx; simpa using hx
  have hy' : fabs y < 9218868437227405312 := by unfold hasV at hy; simpa using hy
  obtain ⟨f1, f2⟩ := fng_numR d mode
  have e1 := (valD_facts _ xb.1 xb.2).2.2.1
  have e2 := (valD_facts _ y0 y1).2.2.1
  obtain ⟨t, ht⟩ : ∃ t : Nat, 0 ≤ d.e + 1074 + t := ⟨(-(d.e + 1074)).toNat, by omega⟩
  have hd : 0 ≤ d.e + ((1074 + t : Nat) : Int) := by omega
  have hc : 0 ≤ (opp (valD (numR d mode))).e + ((1074 + t : Nat) : Int) := by show 0 ≤ (valD (numR d mode)).e + _; omega
  have ho : 0 ≤ (opp (valD y)).e + ((1074 + t : Nat) : Int) := by show 0 ≤ (valD y).e + _; omega
  refine cmp_abs (T := 1074 + t) (plus_eT hd hc) (plus_eT hd ho) ?_
  rw [plus_vl _ _ _ hd hc, plus_vl _ _ _ hd ho, opp_vl, opp_vl, valD_vl _ xb.1 xb.2 hx', valD_vl _ y0 y1 hy', f1, f2, ← sg_vl]
  have hk : kd d.neg mode = 2 ∨ kd d.neg mode = 3 := by
    unfold kd
    rcases hm with rfl | rfl
    · left; simp
    · right; simp
  have hlt : numk (kd d.neg mode) d.m d.e < MR := by
    rw [← f1]; have := fabs_bd (numR d mode); omega
  have := numk_near ht hk hlt (fabs y).toNat d.neg (fng y)
  unfold sg
  rw [← Int.sub_eq_add_neg, ← Int.sub_eq_add_neg]
  exact this
end Go.Proofs.YtfnchcogdmpojaaDoor
