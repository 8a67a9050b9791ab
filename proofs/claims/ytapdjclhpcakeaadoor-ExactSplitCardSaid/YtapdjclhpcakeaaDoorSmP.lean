/-
  PLAIN: what sum.all adds up. No Go function here.
-/
import Derived.Test.YtapdjclhpcakeaaDoorToR
import Derived.Test.YtapdjclhpcakeaaDoorValP
set_option linter.unusedVariables false
set_option linter.unusedSimpArgs false
namespace Go.Proofs.YtapdjclhpcakeaaDoor
open Go.RowKit Nt Fm Fl

structure St where
  inf : Int
  clash : Bool
  nan : Bool
  ng : Nat
  ps : Nat
  s : D
def st0 : St := ⟨0, false, false, 0, 0, nz⟩
def stp (st : St) (x : Int) : St :=
  if fcls x = 5 then ⟨st.inf, st.clash, true, st.ng, st.ps, st.s⟩
  else if fcls x = 4 then ⟨x, st.clash || (decide (st.inf ≠ 0) && decide (st.inf ≠ x)), st.nan, st.ng, st.ps, st.s⟩
  else if fcls x = 1 then (if x = 0 then ⟨st.inf, st.clash, st.nan, st.ng, st.ps + 1, st.s⟩ else ⟨st.inf, st.clash, st.nan, st.ng + 1, st.ps, st.s⟩)
  else ⟨st.inf, st.clash, st.nan, st.ng, st.ps, plus st.s (valD x)⟩
def stL (l : List Int) : St := l.foldl stp st0
theorem stL_snoc (l : List Int) (x : Int) : stL (l ++ [x]) = stp (stL l) x := by unfold stL; rw [List.foldl_append]; rfl
theorem stL_take (l : List Int) (k : Nat) (h : k < l.length) : stL (l.take (k + 1)) = stp (stL (l.take k)) (l.getD k 0) := by
  rw [List.take_succ_eq_append_getElem h, stL_snoc]
  congr 1; simp [List.getD, h]
/-- a power of two that nothing works out -/
def Pw (n : Nat) : Nat := 2 ^ n
theorem Pw_pos (n : Nat) : 0 < Pw n := Nat.two_pow_pos _
theorem Pw_add (a b : Nat) : Pw (a + b) = Pw a * Pw b := Nat.pow_add _ _ _
theorem Pw_le {a b : Nat} (h : a ≤ b) : Pw a ≤ Pw b := Nat.pow_le_pow_right (by decide) h
/-- how great a sum of so many can be -/
def Sml (k : Nat) (d : D) : Prop := d.Nf ∧ -1074 ≤ d.e ∧ (d.vl 1074).natAbs ≤ k * Pw 2227
theorem Sml.zero (k : Nat) : Sml k nz := ⟨Or.inl rfl, by decide, by rw [vl_zero (d := nz) rfl]; exact Nat.zero_le _⟩
theorem Sml.mono {j k : Nat} {d : D} (h : Sml j d) (hk : j ≤ k) : Sml k d := ⟨h.1, h.2.1, Nat.le_trans h.2.2 (Nat.mul_le_mul_right _ hk)⟩
theorem valD_sml (x : Int) (h0 : 0 ≤ x) (h1 : x ≤ 18446744073709551615) : Sml 1 (valD x) := by
  obtain ⟨f1, f2, f3, f4, -⟩ := valD_facts x h0 h1
  refine ⟨f1, f3, ?_⟩
  rw [vl_natAbs, Nat.one_mul]
  have a : Pw ((valD x).e + ((1074 : Nat) : Int)).toNat ≤ Pw 2174 := Pw_le (by omega)
  have b : (valD x).m ≤ Pw 53 := Nat.le_of_lt f2
  rw [show (2227 : Nat) = 53 + 2174 from rfl, Pw_add]
  exact Nat.mul_le_mul b a
theorem Sml.plus {j k : Nat} {c d : D} (h1 : Sml j c) (h2 : Sml k d) : Sml (j + k) (plus c d) := by
  have e1 : 0 ≤ c.e + ((1074 : Nat) : Int) := by have := h1.2.1; omega
  have e2 : 0 ≤ d.e + ((1074 : Nat) : Int) := by have := h2.2.1; omega
  refine ⟨plus_Nf _ _, by have := plus_eT e1 e2; omega, ?_⟩
  rw [plus_vl _ _ _ e1 e2, Nat.add_mul]
  have a := h1.2.2; have b := h2.2.2
  omega
theorem Sml.bds {k : Nat} {d : D} (h : Sml k d) (hk : k ≤ 10000) : (∃ q, q ≤ 3000 ∧ d.m < 2 ^ q) ∧ -1074 ≤ d.e ∧ d.e ≤ 2000 := by
  obtain ⟨h1, h2, h3⟩ := h
  rw [vl_natAbs] at h3
  obtain ⟨p, hp0⟩ : ∃ p : Nat, p = 2227 := ⟨_, rfl⟩
  rw [← hp0] at h3
  obtain ⟨q, hq, hlt⟩ : ∃ q, q = p + 14 ∧ k * Pw p < 2 ^ q := by
    refine ⟨p + 14, rfl, ?_⟩
    have e : (2 : Nat) ^ (p + 14) = Pw p * 16384 := by unfold Pw; rw [Nat.pow_add]
    rw [e]
    have := Pw_pos p
    generalize Pw p = X at *
    have : k * X ≤ 10000 * X := Nat.mul_le_mul_right _ hk
    omega
  have hp := Nat.two_pow_pos (d.e + ((1074 : Nat) : Int)).toNat
  have hm : d.m * 1 ≤ d.m * 2 ^ (d.e + ((1074 : Nat) : Int)).toNat := Nat.mul_le_mul_left _ hp
  refine ⟨⟨q, by omega, by omega⟩, h2, ?_⟩
  by_cases hz : d.m = 0
  · rcases h1 with h1 | h1
    · rw [h1]; decide
    · omega
  · have : 1 * 2 ^ (d.e + ((1074 : Nat) : Int)).toNat ≤ d.m * 2 ^ (d.e + ((1074 : Nat) : Int)).toNat := Nat.mul_le_mul_right _ (by omega)
    rw [Nat.one_mul] at this
    have h5 := (Nat.pow_lt_pow_iff_right (by decide : 1 < 2)).1 (Nat.lt_of_le_of_lt (Nat.le_trans this h3) hlt)
    omega
theorem stp_sml {k : Nat} {st : St} (x : Int) (h0 : 0 ≤ x) (h1 : x ≤ 18446744073709551615) (h : Sml k st.s) : Sml (k + 1) (stp st x).s := by
  unfold stp
  split
  · exact h.mono (by omega)
  · split
    · exact h.mono (by omega)
    · split
      · split <;> exact h.mono (by omega)
      · exact h.plus (valD_sml x h0 h1)
theorem stL_sml : ∀ (l : List Int), (∀ x ∈ l, 0 ≤ x ∧ x ≤ 18446744073709551615) → ∀ k, k ≤ l.length → Sml k (stL (l.take k)).s
  | l, h, 0, _ => by simp [stL, st0]; exact Sml.zero 0
  | l, h, k + 1, hk => by
    rw [stL_take l k (by omega)]
    have e : l.getD k 0 = l[k]'(by omega) := by simp [List.getD, show k < l.length by omega]
    have hm := h _ (List.getElem_mem (show k < l.length by omega))
    rw [e]
    exact stp_sml _ hm.1 hm.2 (stL_sml l h k (by omega))
theorem stL_inf : ∀ (l : List Int), (∀ x ∈ l, 0 ≤ x ∧ x ≤ 18446744073709551615) → ∀ k, k ≤ l.length → 0 ≤ (stL (l.take k)).inf ∧ (stL (l.take k)).inf ≤ 18446744073709551615 ∧ (stL (l.take k)).ng ≤ k ∧ (stL (l.take k)).ps ≤ k
  | l, h, 0, _ => by simp [stL, st0]
  | l, h, k + 1, hk => by
    rw [stL_take l k (by omega)]
    have e : l.getD k 0 = l[k]'(by omega) := by simp [List.getD, show k < l.length by omega]
    have hm := h _ (List.getElem_mem (show k < l.length by omega))
    rw [e]
    have ih := stL_inf l h k (by omega)
    generalize stL (l.take k) = st at *
    unfold stp
    split
    · exact ⟨ih.1, ih.2.1, by simp only; omega, by simp only; omega⟩
    · split
      · exact ⟨hm.1, hm.2, by simp only; omega, by simp only; omega⟩
      · split
        · split
          · exact ⟨ih.1, ih.2.1, by simp only; omega, by simp only; omega⟩
          · exact ⟨ih.1, ih.2.1, by simp only; omega, by simp only; omega⟩
        · exact ⟨ih.1, ih.2.1, by simp only; omega, by simp only; omega⟩

/-- what is told of all -/
def allV (l : List Int) (mode : Int) : Int :=
  if ((stL l).nan || (stL l).clash) = true then 9221120237041090560 else if (stL l).inf ≠ 0 then (stL l).inf else if (stL l).s.m ≠ 0 then numR (stL l).s mode
  else if (stL l).ps = l.length then 0 else if (stL l).ng = l.length then 9223372036854775808 else if mode = 2 then 9223372036854775808 else 0
def allC (l : List Int) : Bool :=
  if ((stL l).nan || (stL l).clash) = true then false else if (stL l).inf ≠ 0 then false else if (stL l).s.m ≠ 0 then numC (stL l).s else false
end Go.Proofs.YtapdjclhpcakeaaDoor
