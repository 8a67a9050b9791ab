/-
  PLAIN: one digit of a long division (Knuth's D): the guess by the two highest limbs, and what is subtracted. No Go here.
-/
set_option linter.unusedVariables false
namespace Go.Proofs.YtofdjfdnckmmmaaGreatDoor.Qd

/-- the number that is divided, and the one that divides, by their highest limbs -/
structure Dat (P ul vl u0 T v0 v1 U V : Nat) : Prop where
  hP : 0 < P
  h_ul : ul < P
  h_vl : vl < P
  h_u0 : u0 < 4294967296
  h_v0 : v0 < 4294967296
  h_v1 : 2147483648 ≤ v1
  h_v1' : v1 < 4294967296
  h_U : U = ul + P * (u0 + 4294967296 * T)
  h_V : V = vl + P * (v0 + 4294967296 * v1)
  h_lt : U < V * 4294967296
/-- the guess, and what is left of the two highest limbs -/
def GRel (T v1 U V g r : Nat) : Prop := g * v1 + r = T ∧ g < 4294967296 ∧ U < (g + 1) * V
def Fin (U V g : Nat) : Prop := g < 4294967296 ∧ U < (g + 1) * V ∧ g * V ≤ U + V
variable {P ul vl u0 T v0 v1 U V : Nat}
theorem Dat.U_lt (D : Dat P ul vl u0 T v0 v1 U V) : U < P * (4294967296 * (T + 1)) := by
  have h1 := D.h_ul; have h2 := D.h_u0
  have h3 := D.h_U
  have h4 : 4294967296 * (T + 1) = (u0 + 4294967296 * T) + (4294967296 - u0) := by omega
  rw [h4, Nat.mul_add, h3]
  have : P * 1 ≤ P * (4294967296 - u0) := Nat.mul_le_mul_left _ (by omega)
  omega
theorem Dat.V_ge (D : Dat P ul vl u0 T v0 v1 U V) : P * (4294967296 * v1) ≤ V := by
  rw [D.h_V, Nat.mul_add]; omega
theorem start (D : Dat P ul vl u0 T v0 v1 U V) : GRel T v1 U V (min (T / v1) 4294967295) (T - min (T / v1) 4294967295 * v1) ∧ min (T / v1) 4294967295 * v1 ≤ T := by
  have h1 := D.h_v1
  have hd := Nat.div_mul_le_self T v1
  have hle : min (T / v1) 4294967295 * v1 ≤ T := Nat.le_trans (Nat.mul_le_mul_right _ (Nat.min_le_left _ _)) hd
  refine ⟨⟨by omega, by omega, ?_⟩, hle⟩
  rcases Nat.le_total (T / v1) 4294967295 with h | h
  · rw [Nat.min_eq_left h]
    have h2 : T + 1 ≤ (T / v1 + 1) * v1 := by
      have := Nat.div_add_mod T v1
      have := Nat.mod_lt T (show 0 < v1 by omega)
      rw [Nat.add_mul, Nat.mul_comm (T / v1)]; omega
    calc U < P * (4294967296 * (T + 1)) := D.U_lt
      _ ≤ P * (4294967296 * ((T / v1 + 1) * v1)) := Nat.mul_le_mul_left _ (Nat.mul_le_mul_left _ h2)
      _ = (T / v1 + 1) * (P * (4294967296 * v1)) := by rw [← Nat.mul_assoc 4294967296, Nat.mul_comm 4294967296, Nat.mul_assoc, Nat.mul_left_comm]
      _ ≤ (T / v1 + 1) * V := Nat.mul_le_mul_left _ D.V_ge
  · rw [Nat.min_eq_right h, show 4294967295 + 1 = 4294967296 by decide, Nat.mul_comm]; exact D.h_lt
theorem step (D : Dat P ul vl u0 T v0 v1 U V) {g r : Nat} (h : GRel T v1 U V (g + 1) r) (hc : r * 4294967296 + u0 < (g + 1) * v0) : GRel T v1 U V g (r + v1) := by
  obtain ⟨h1, h2, h3⟩ := h
  rw [Nat.add_mul] at h1
  refine ⟨by omega, by omega, ?_⟩
  have h4 : u0 + 4294967296 * T + 1 ≤ (g + 1) * (v0 + 4294967296 * v1) := by
    rw [Nat.mul_add, Nat.mul_left_comm (g + 1), Nat.add_mul g 1 v1, ← h1]; omega
  have h5 := Nat.mul_le_mul_left P h4
  have h6 : P * ((g + 1) * (v0 + 4294967296 * v1)) ≤ (g + 1) * V := by
    rw [Nat.mul_left_comm, D.h_V]; exact Nat.mul_le_mul_left _ (by omega)
  have hu := D.h_ul
  rw [D.h_U]
  rw [Nat.mul_add P (u0 + 4294967296 * T) 1] at h5
  omega
theorem exit (D : Dat P ul vl u0 T v0 v1 U V) {g r : Nat} (h : GRel T v1 U V g r) (hc : 4294967296 ≤ r ∨ g * v0 ≤ r * 4294967296 + u0) : Fin U V g := by
  obtain ⟨h1, h2, h3⟩ := h
  refine ⟨h2, h3, ?_⟩
  have hc2 : g * v0 ≤ r * 4294967296 + u0 := by
    rcases hc with hc | hc
    · have := D.h_v0
      have a : g * v0 ≤ 4294967296 * 4294967296 := Nat.mul_le_mul (by omega) (by omega)
      have b : 4294967296 * 4294967296 ≤ r * 4294967296 := Nat.mul_le_mul_right _ hc
      omega
    · exact hc
  have h4 : g * (v0 + 4294967296 * v1) ≤ u0 + 4294967296 * T := by
    rw [Nat.mul_add, Nat.mul_left_comm, ← h1]; omega
  have h5 := Nat.mul_le_mul_left P h4
  have h6 : g * V = g * vl + P * (g * (v0 + 4294967296 * v1)) := by rw [D.h_V, Nat.mul_add, Nat.mul_left_comm]
  have hvl := D.h_vl
  have h7 : g * vl ≤ 4294967296 * P := Nat.mul_le_mul (by omega) (by omega)
  have h8 : 4294967296 * P ≤ V := by
    refine Nat.le_trans ?_ D.V_ge
    have hv1 := D.h_v1
    rw [Nat.mul_comm]
    exact Nat.mul_le_mul_left _ (by omega)
  have hU := D.h_U
  omega
/-- what is subtracted, limb by limb: one limb -/
theorem sub_limb {c g vi ui bo C p c' ui' bo' : Nat} (hC : C = c + g * vi) (hp : p = C % 4294967296) (hc' : c' = C / 4294967296) (h : ui' + p + bo = ui + 4294967296 * bo') : bo + c + (ui' + g * vi) = ui + 4294967296 * (bo' + c') := by
  have := Nat.div_add_mod C 4294967296
  rw [← hp, ← hc'] at this
  omega
theorem carry_lt {c g vi C : Nat} (hC : C = c + g * vi) (hc : c < 4294967296) (hg : g < 4294967296) (hv : vi < 4294967296) : C < 18446744073709551616 ∧ C / 4294967296 < 4294967296 := by
  have : g * vi ≤ 4294967295 * 4294967295 := Nat.mul_le_mul (by omega) (by omega)
  omega
/-- nothing is borrowed: it was right -/
theorem done0 {g W : Nat} (h : Fin U V g) (hW : W + g * V = U) : g = U / V ∧ W = U % V := by
  obtain ⟨h1, h2, h3⟩ := h
  rw [Nat.add_mul] at h2
  have hV : 0 < V := by
    rcases Nat.eq_zero_or_pos V with h0 | h0
    · subst h0; omega
    · exact h0
  have hlt : W < V := by omega
  rw [← hW, Nat.add_mul_div_right _ _ hV, Nat.div_eq_of_lt hlt, Nat.add_mul_mod_self_right, Nat.mod_eq_of_lt hlt]
  omega
/-- one too many: added again -/
theorem done1 {g W W' s M : Nat} (h : Fin U V g) (hW : W + g * V = U + M) (hWM : W < M) (hV : V < M) (hW' : W' + M * s = W + V) (hW'M : W' < M) : 1 ≤ g ∧ g - 1 = U / V ∧ W' = U % V := by
  obtain ⟨h1, h2, h3⟩ := h
  have hg : 1 ≤ g := by
    rcases Nat.eq_zero_or_pos g with h0 | h0
    · subst h0; omega
    · exact h0
  obtain ⟨k, rfl⟩ : ∃ k, g = k + 1 := ⟨g - 1, by omega⟩
  rw [Nat.add_mul] at hW h3
  have hs : s = 1 := by
    rcases Nat.lt_trichotomy s 1 with h0 | h0 | h0
    · have : s = 0 := by omega
      subst this
      omega
    · exact h0
    · have : M * 2 ≤ M * s := Nat.mul_le_mul_left _ h0
      omega
  subst hs
  refine ⟨hg, ?_⟩
  have hV0 : 0 < V := by
    rcases Nat.eq_zero_or_pos V with h0 | h0
    · subst h0; omega
    · exact h0
  have hU : W' + k * V = U := by omega
  have hlt : W' < V := by omega
  rw [← hU, Nat.add_mul_div_right _ _ hV0, Nat.div_eq_of_lt hlt, Nat.add_mul_mod_self_right, Nat.mod_eq_of_lt hlt]
  omega
end Go.Proofs.YtofdjfdnckmmmaaGreatDoor.Qd
