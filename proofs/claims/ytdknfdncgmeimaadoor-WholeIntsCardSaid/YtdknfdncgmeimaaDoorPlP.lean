/-
  PLAIN: sums and products of exact numbers, as the code makes them. No Go function here.
-/
import Derived.Test.YtdknfdncgmeimaaDoorFm
set_option linter.unusedVariables false
set_option linter.unusedSimpArgs false
namespace Go.Proofs.YtdknfdncgmeimaaDoor.Fm

theorem plus_of {x c d : D} {T : Nat} (hx : x.Nf) (h1 : 0 ≤ c.e + T) (h2 : 0 ≤ d.e + T) (h3 : 0 ≤ x.e + T) (hv : x.vl T = c.vl T + d.vl T) : x = plus c d :=
  nf_inj hx (ofInt_nf _ _) h3 (plus_eT h1 h2) (by rw [hv, plus_vl _ _ _ h1 h2])
theorem times_of {x c d : D} {T U : Nat} (hx : x.Nf) (h1 : 0 ≤ c.e + T) (h2 : 0 ≤ d.e + U) (h3 : 0 ≤ x.e + ((T + U : Nat) : Int)) (hv : x.vl (T + U) = c.vl T * d.vl U) : x = times c d :=
  nf_inj hx (ofInt_nf _ _) h3 (ofInt_eT (by omega)) (by rw [hv, times_vl _ _ _ _ h1 h2])
theorem vl_zero {d : D} (h : d.m = 0) (T : Nat) : d.vl T = 0 := by unfold D.vl D.sm; rw [h]; simp
theorem exT (x y : Int) : ∃ T : Nat, 0 ≤ x + T ∧ 0 ≤ y + T := ⟨((-x).toNat + (-y).toNat), by omega, by omega⟩
theorem plus_zero_left {c d : D} (hc : c.m = 0) : norm d.neg d.m d.e = plus c d := by
  obtain ⟨T, h1, h2⟩ := exT c.e d.e
  exact plus_of (norm_nf _ _ _) h1 h2 (norm_eT h2) (by rw [norm_vl _ _ _ _ h2, vl_zero hc, Int.zero_add])
theorem plus_zero_right {c d : D} (hd : d.m = 0) : norm c.neg c.m c.e = plus c d := by
  obtain ⟨T, h1, h2⟩ := exT c.e d.e
  exact plus_of (norm_nf _ _ _) h1 h2 (norm_eT h1) (by rw [norm_vl _ _ _ _ h1, vl_zero hd, Int.add_zero])
/-- counted in a smaller power -/
theorem vl_down {d : D} {x : Int} {T : Nat} (hx : x ≤ d.e) (hT : 0 ≤ x + T) : d.vl T = (if d.neg then -((d.m * 2 ^ (d.e - x).toNat : Nat) : Int) else ((d.m * 2 ^ (d.e - x).toNat : Nat) : Int)) * 2 ^ (x + T).toNat := by
  unfold D.vl D.sm
  rw [show (d.e + (T : Int)).toNat = (d.e - x).toNat + (x + T).toNat by omega, Int.pow_add, ← Int.mul_assoc]
  congr 1
  cases d.neg <;> simp [Int.neg_mul]
theorem plus_same {c d : D} {a b : Nat} {x : Int} (hx : x = min c.e d.e) (ha : a = c.m * 2 ^ (c.e - x).toNat) (hb : b = d.m * 2 ^ (d.e - x).toNat) (h : c.neg = d.neg) : norm c.neg (a + b) x = plus c d := by
  obtain ⟨T, h1, h2⟩ := exT c.e d.e
  have h3 : 0 ≤ x + T := by omega
  refine plus_of (norm_nf _ _ _) h1 h2 (norm_eT h3) ?_
  rw [norm_vl _ _ _ _ h3, vl_down (d := c) (x := x) (by omega) h3, vl_down (d := d) (x := x) (by omega) h3, ← ha, ← hb, ← Int.add_mul, ← h]
  unfold D.vl D.sm
  congr 1
  cases c.neg <;> simp <;> omega
theorem plus_more {c d : D} {a b : Nat} {x : Int} (hx : x = min c.e d.e) (ha : a = c.m * 2 ^ (c.e - x).toNat) (hb : b = d.m * 2 ^ (d.e - x).toNat) (h : c.neg ≠ d.neg) (hle : b ≤ a) : norm c.neg (a - b) x = plus c d := by
  obtain ⟨T, h1, h2⟩ := exT c.e d.e
  have h3 : 0 ≤ x + T := by omega
  refine plus_of (norm_nf _ _ _) h1 h2 (norm_eT h3) ?_
  rw [norm_vl _ _ _ _ h3, vl_down (d := c) (x := x) (by omega) h3, vl_down (d := d) (x := x) (by omega) h3, ← ha, ← hb, ← Int.add_mul]
  unfold D.vl D.sm
  congr 1
  cases hc : c.neg <;> cases hd : d.neg <;> simp [hc, hd] at h ⊢ <;> omega
theorem plus_less {c d : D} {a b : Nat} {x : Int} (hx : x = min c.e d.e) (ha : a = c.m * 2 ^ (c.e - x).toNat) (hb : b = d.m * 2 ^ (d.e - x).toNat) (h : c.neg ≠ d.neg) (hle : a ≤ b) : norm d.neg (b - a) x = plus c d := by
  obtain ⟨T, h1, h2⟩ := exT c.e d.e
  have h3 : 0 ≤ x + T := by omega
  refine plus_of (norm_nf _ _ _) h1 h2 (norm_eT h3) ?_
  rw [norm_vl _ _ _ _ h3, vl_down (d := c) (x := x) (by omega) h3, vl_down (d := d) (x := x) (by omega) h3, ← ha, ← hb, ← Int.add_mul]
  unfold D.vl D.sm
  congr 1
  cases hc : c.neg <;> cases hd : d.neg <;> simp [hc, hd] at h ⊢ <;> omega
theorem times_norm (c d : D) : norm (c.neg != d.neg) (c.m * d.m) (c.e + d.e) = times c d := by
  have h1 : 0 ≤ c.e + (((-c.e).toNat : Nat) : Int) := by omega
  have h2 : 0 ≤ d.e + (((-d.e).toNat : Nat) : Int) := by omega
  generalize (-c.e).toNat = T at *
  generalize (-d.e).toNat = U at *
  refine times_of (norm_nf _ _ _) h1 h2 (norm_eT (by omega)) ?_
  rw [norm_vl _ _ _ _ (by omega)]
  unfold D.vl D.sm
  simp only
  rw [show (c.e + d.e + ((T + U : Nat) : Int)).toNat = (c.e + T).toNat + (d.e + U).toNat by omega, Int.pow_add]
  cases c.neg <;> cases d.neg <;> simp [Int.neg_mul, Int.mul_neg, Int.mul_assoc, Int.mul_left_comm]
/-- how long a sum, or a product, can be -/
theorem norm_m_le (neg : Bool) (m : Nat) (e : Int) : (norm neg m e).m ≤ m := by
  unfold norm; split
  · exact Nat.zero_le _
  · exact Nat.div_le_self _ _
theorem ctz_le {m k : Nat} (h : m ≠ 0) (hk : m < 2 ^ k) : ctz m < k := by
  obtain ⟨q, h1, h2⟩ := ctz_spec h
  have h3 : 2 ^ ctz m ≤ m := by
    have : 1 * 2 ^ ctz m ≤ q * 2 ^ ctz m := Nat.mul_le_mul_right _ (by omega)
    omega
  exact (Nat.pow_lt_pow_iff_right (by decide : 1 < 2)).1 (Nat.lt_of_le_of_lt h3 hk)
theorem norm_e_bd (neg : Bool) {m k : Nat} {e : Int} (h : m < 2 ^ k) : (norm neg m e = nz) ∨ (e ≤ (norm neg m e).e ∧ (norm neg m e).e ≤ e + k) := by
  unfold norm; split
  · exact Or.inl rfl
  · rename_i h0
    have := ctz_le h0 h
    right; simp only; omega
end Go.Proofs.YtdknfdncgmeimaaDoor.Fm
