/-
  PLAIN: sums, products and the order of exact numbers. No Go function here.
-/
import Derived.Test.YtdknfdncgmeimaaDoorPlP
set_option linter.unusedVariables false
set_option linter.unusedSimpArgs false
namespace Go.Proofs.YtdknfdncgmeimaaDoor.Fm

theorem plus_Nf (c d : D) : (plus c d).Nf := ofInt_nf _ _
theorem times_Nf (c d : D) : (times c d).Nf := ofInt_nf _ _
theorem plus_comm (a b : D) : plus a b = plus b a := by
  obtain ⟨T, h1, h2⟩ := exT a.e b.e
  exact (plus_of (plus_Nf _ _) h1 h2 (plus_eT h2 h1) (by rw [plus_vl _ _ _ h2 h1, Int.add_comm])).symm
theorem times_eT {c d : D} {T U : Nat} (h1 : 0 ≤ c.e + T) (h2 : 0 ≤ d.e + U) : 0 ≤ (times c d).e + ((T + U : Nat) : Int) := ofInt_eT (by omega)
theorem times_comm (a b : D) : times a b = times b a := by
  obtain ⟨T, h1, h2⟩ := exT a.e b.e
  exact (times_of (times_Nf _ _) h1 h2 (times_eT h2 h1) (by rw [times_vl _ _ _ _ h2 h1, Int.mul_comm])).symm
theorem exT3 (x y z : Int) : ∃ T : Nat, 0 ≤ x + T ∧ 0 ≤ y + T ∧ 0 ≤ z + T := ⟨((-x).toNat + (-y).toNat + (-z).toNat), by omega, by omega, by omega⟩
theorem plus_assoc (a b c : D) : plus (plus a b) c = plus a (plus b c) := by
  obtain ⟨T, h1, h2, h3⟩ := exT3 a.e b.e c.e
  have k1 := plus_eT h1 h2
  have k2 := plus_eT h2 h3
  exact plus_of (plus_Nf _ _) h1 k2 (plus_eT k1 h3) (by rw [plus_vl _ _ _ k1 h3, plus_vl _ _ _ h1 h2, plus_vl _ _ _ h2 h3, Int.add_assoc])
theorem times_plus (a b c : D) : times a (plus b c) = plus (times a b) (times a c) := by
  obtain ⟨T, h1, h2, h3⟩ := exT3 a.e b.e c.e
  have k2 := plus_eT h2 h3
  have k3 := times_eT h1 h2
  have k4 := times_eT h1 h3
  exact plus_of (times_Nf _ _) k3 k4 (times_eT h1 k2) (by rw [times_vl _ _ _ _ h1 k2, plus_vl _ _ _ h2 h3, times_vl _ _ _ _ h1 h2, times_vl _ _ _ _ h1 h3, Int.mul_add])
theorem times_assoc (a b c : D) : times (times a b) c = times a (times b c) := by
  obtain ⟨T, h1, h2, h3⟩ := exT3 a.e b.e c.e
  have k1 := times_eT h1 h2
  have k2 := times_eT h2 h3
  have k3 := times_eT k1 h3
  refine times_of (T := T) (U := T + T) (times_Nf _ _) h1 k2 (by rw [← Nat.add_assoc]; exact k3) ?_
  rw [← Nat.add_assoc, times_vl _ _ _ _ k1 h3, times_vl _ _ _ _ h1 h2, times_vl _ _ _ _ h2 h3, Int.mul_assoc]
theorem plus_opp_cancel (a b : D) (ha : a.Nf) : plus (plus a b) (opp b) = a := by
  obtain ⟨T, h1, h2⟩ := exT a.e b.e
  have k1 := plus_eT h1 h2
  have h3 : 0 ≤ (opp b).e + T := h2
  exact (plus_of ha k1 h3 h1 (by rw [plus_vl _ _ _ h1 h2, opp_vl]; omega)).symm
theorem plus_opp_self (a : D) : plus a (opp a) = nz := by
  have h1 : 0 ≤ a.e + (((-a.e).toNat : Nat) : Int) := by omega
  generalize (-a.e).toNat = T at *
  have h3 : 0 ≤ (opp a).e + T := h1
  exact (plus_of (x := nz) (Or.inl rfl) h1 h3 (by unfold nz; simp only; omega) (by rw [vl_zero (d := nz) rfl, opp_vl]; omega)).symm
/-- the order -/
theorem cmp_neg (a b : D) : cmp a b = -cmp b a := by
  obtain ⟨T, h1, h2⟩ := exT a.e b.e
  rw [cmp_vl _ _ T h1 h2, cmp_vl _ _ T h2 h1, ← Int.sign_neg]; congr 1; omega
theorem cmp_zero {a b : D} (ha : a.Nf) (hb : b.Nf) : cmp a b = 0 ↔ a = b := by
  obtain ⟨T, h1, h2⟩ := exT a.e b.e
  rw [cmp_vl _ _ T h1 h2, Int.sign_eq_zero_iff_zero]
  constructor
  · intro h; exact nf_inj ha hb h1 h2 (by omega)
  · intro h; rw [h]; omega
theorem cmp_le {a b : D} {T : Nat} (h1 : 0 ≤ a.e + T) (h2 : 0 ≤ b.e + T) : cmp a b ≤ 0 ↔ a.vl T ≤ b.vl T := by
  rw [cmp_vl _ _ T h1 h2]
  constructor
  · intro h
    have : ¬ 0 < a.vl T - b.vl T := fun h3 => by rw [Int.sign_eq_one_of_pos h3] at h; omega
    omega
  · intro h
    rcases Int.lt_or_le (a.vl T - b.vl T) 0 with h3 | h3
    · rw [Int.sign_eq_neg_one_of_neg h3]; omega
    · have : a.vl T - b.vl T = 0 := by omega
      rw [this]; simp
theorem cmp_trans {a b c : D} (h1 : cmp a b ≤ 0) (h2 : cmp b c ≤ 0) : cmp a c ≤ 0 := by
  obtain ⟨T, k1, k2, k3⟩ := exT3 a.e b.e c.e
  rw [cmp_le (T := T) k1 k2] at h1
  rw [cmp_le (T := T) k2 k3] at h2
  rw [cmp_le (T := T) k1 k3]; omega
theorem cmp_plus (a b c : D) : cmp (plus a c) (plus b c) = cmp a b := by
  obtain ⟨T, k1, k2, k3⟩ := exT3 a.e b.e c.e
  rw [cmp_vl _ _ T (plus_eT k1 k3) (plus_eT k2 k3), cmp_vl _ _ T k1 k2, plus_vl _ _ _ k1 k3, plus_vl _ _ _ k2 k3]
  congr 1; omega
theorem cmp_bd (a b : D) : -1 ≤ cmp a b ∧ cmp a b ≤ 1 := by unfold cmp sign; split <;> (try split) <;> omega
theorem norm_self {d : D} (h : d.Nf) : norm d.neg d.m d.e = d := by
  have h1 : 0 ≤ d.e + (((-d.e).toNat : Nat) : Int) := by omega
  exact nf_inj (norm_nf _ _ _) h (norm_eT h1) h1 (norm_vl _ _ _ _ h1)
theorem norm_shift {d : D} (n : Int) (h : d.Nf) : norm (norm d.neg d.m (d.e + n)).neg (norm d.neg d.m (d.e + n)).m ((norm d.neg d.m (d.e + n)).e + -n) = d := by
  rcases h with h | h
  · rw [h]; unfold norm nz; simp
  · have hz : d.m ≠ 0 := by omega
    have hc : ctz d.m = 0 := by
      obtain ⟨q, h1, h2⟩ := ctz_spec hz
      rcases Nat.eq_zero_or_pos (ctz d.m) with h3 | h3
      · exact h3
      · obtain ⟨k, hk⟩ : ∃ k, ctz d.m = k + 1 := ⟨ctz d.m - 1, by omega⟩
        rw [hk, Nat.pow_succ, ← Nat.mul_assoc] at h1; omega
    have e1 : ∀ x, norm d.neg d.m x = ⟨d.neg, d.m, x⟩ := fun x => by unfold norm; rw [if_neg hz, hc]; simp
    rw [e1]; simp only; rw [e1]
    cases d; simp only [D.mk.injEq, true_and]; omega
end Go.Proofs.YtdknfdncgmeimaaDoor.Fm
