/-
  SOME OF MY TEXTS in one: Sx Sy Swm. Each says what it proves.
-/
import Derived.Test.YtmpdbmaokbhcjaaGreatDoorSno
import Derived.Test.YtmpdbmaokbhcjaaGreatDoorBp
set_option linter.unusedVariables false
set_option linter.unusedSimpArgs false
/-
  PLAIN: spans by the ranks of their ends; sums and products by ranks.
-/
namespace Go.Proofs.YtmpdbmaokbhcjaaGreatDoor
open Go.RowKit Nt Fm Fl

theorem amB_iff {x y : Int} : amB x y = true ↔ frerr x = 0 ∧ frerr y = 0 ∧ frank x ≤ frank y := by
  unfold amB ocmp ois sgnc
  simp only [Bool.and_eq_true, beq_iff_eq, decide_eq_true_eq]
  constructor
  · rintro ⟨⟨h1, h2⟩, h3⟩
    rw [h1, h2] at h3
    simp only [and_self, if_true] at h3
    refine ⟨h1, h2, ?_⟩
    split at h3
    · omega
    · split at h3 <;> omega
  · rintro ⟨h1, h2, h3⟩
    refine ⟨⟨h1, h2⟩, ?_⟩
    rw [h1, h2]
    simp only [and_self, if_true]
    split
    · decide
    · split <;> omega
theorem amB_false {x y : Int} (hx : frerr x = 0) (hy : frerr y = 0) (h : amB x y = false) : frank y < frank x := by
  apply Classical.byContradiction; intro k
  have := amB_iff.2 ⟨hx, hy, by omega⟩
  rw [h] at this; exact absurd this (by decide)
theorem spE_zero {a b : Int} : spE a b = 0 ↔ a ≠ 9223372036854775808 ∧ b ≠ 9223372036854775808 ∧ a ≠ 9218868437227405312 ∧ b ≠ 18442240474082181120 ∧ amB a b = true := by
  unfold spE
  constructor
  · intro h
    split at h
    · exact absurd h (by decide)
    · rename_i k
      simp only [Bool.or_eq_true, beq_iff_eq, not_or, Bool.not_eq_true', Bool.not_eq_false] at k
      exact ⟨k.1, k.2.1, k.2.2.1, k.2.2.2.1, k.2.2.2.2⟩
  · rintro ⟨h1, h2, h3, h4, h5⟩
    rw [if_neg]
    simp only [Bool.or_eq_true, beq_iff_eq, not_or, Bool.not_eq_true', Bool.not_eq_false]
    exact ⟨h1, h2, h3, h4, h5⟩
theorem spE_3 (a b : Int) : spE a b = 0 ∨ spE a b = 3 := by unfold spE; split <;> simp
theorem spE2_zero {a b c d : Int} : spE2 a b c d = 0 ↔ spE a b = 0 ∧ spE c d = 0 := by
  unfold spE2; split <;> rename_i h
  · exact ⟨fun k => ⟨h, k⟩, fun k => k.2⟩
  · exact ⟨fun k => absurd k h, fun k => absurd k.1 h⟩
theorem spE2_3 (a b c d : Int) : spE2 a b c d = 0 ∨ spE2 a b c d = 3 := by unfold spE2; split <;> exact spE_3 _ _
theorem plV_facts (x : Int) : frank (plV x) = frank x ∧ frerr (plV x) = frerr x ∧ plV x ≠ 9223372036854775808 := by
  unfold plV; split <;> rename_i h
  · subst h; decide
  · exact ⟨rfl, rfl, h⟩
theorem plV_fof {x : Int} (x0 : 0 ≤ x) (x1 : x ≤ 18446744073709551615) (h : frerr x = 0) : plV x = fof (frank x) := by
  unfold frerr at h
  split at h; · omega
  unfold plV fof frank
  unfold fabs at *
  split <;> split <;> (try split) <;> (try split) <;> omega
theorem plV_eq {x y : Int} (x0 : 0 ≤ x) (x1 : x ≤ 18446744073709551615) (y0 : 0 ≤ y) (y1 : y ≤ 18446744073709551615) (hx : frerr x = 0) (hy : frerr y = 0) (h : frank x = frank y) : plV x = plV y := by
  rw [plV_fof x0 x1 hx, plV_fof y0 y1 hy, h]
/-- what a valid span's ends are -/
structure SpOK (a b : Int) : Prop where
  na : frerr a = 0
  nb : frerr b = 0
  le : frank a ≤ frank b
  lo : frank a < 9218868437227405312
  hi : -9218868437227405312 < frank b
  za : a ≠ 9223372036854775808
  zb : b ≠ 9223372036854775808
theorem inf_bits {x : Int} (x0 : 0 ≤ x) (x1 : x ≤ 18446744073709551615) (h : frerr x = 0) : (frank x = 9218868437227405312 ↔ x = 9218868437227405312) ∧ (frank x = -9218868437227405312 ↔ x = 18442240474082181120) := by
  unfold frerr at h
  split at h; · omega
  unfold frank
  rw [if_neg (by omega)]
  unfold fabs at *
  split <;> omega
theorem spE_ok {a b : Int} (a0 : 0 ≤ a) (a1 : a ≤ 18446744073709551615) (b0 : 0 ≤ b) (b1 : b ≤ 18446744073709551615) : spE a b = 0 ↔ SpOK a b := by
  rw [spE_zero, amB_iff]
  constructor
  · rintro ⟨h1, h2, h3, h4, h5, h6, h7⟩
    have e1 := (inf_bits a0 a1 h5).1
    have e2 := (inf_bits b0 b1 h6).2
    have d1 := frank_bd a
    have d2 := frank_bd b
    exact ⟨h5, h6, h7, by omega, by omega, h1, h2⟩
  · rintro ⟨h1, h2, h3, h4, h5, h6, h7⟩
    have e1 := (inf_bits a0 a1 h1).1
    have e2 := (inf_bits b0 b1 h2).2
    exact ⟨h6, h7, by omega, by omega, h1, h2, h3⟩
/-- the span of plain ends -/
theorem sp_pl {a b : Int} (na : frerr a = 0) (nb : frerr b = 0) (le : frank a ≤ frank b) (lo : frank a < 9218868437227405312) (hi : -9218868437227405312 < frank b) : SpOK (plV a) (plV b) := by
  obtain ⟨p1, p2, p3⟩ := plV_facts a
  obtain ⟨q1, q2, q3⟩ := plV_facts b
  exact ⟨by omega, by omega, by omega, by omega, by omega, p3, q3⟩
/-- modes -/
theorem numk0_lt (m : Nat) (e : Int) : numk 0 m e < MR := by
  have hMR : MR = 9218868437227405312 := rfl
  unfold numk
  split; · omega
  split
  · rw [if_pos rfl]; omega
  · omega
theorem rg_sides (neg : Bool) (m : Nat) (e mode : Int) : rg neg 2 m e ≤ rg neg mode m e ∧ rg neg mode m e ≤ rg neg 1 m e ∧ rg neg 2 m e < 9218868437227405312 ∧ -9218868437227405312 < rg neg 1 m e := by
  have hMR : MR = 9218868437227405312 := rfl
  have l := numk0_lt m e
  have n1 := numk_near01 1 m e
  unfold rg
  cases neg
  · have a := (@numk_sides m e (kd false mode)).2
    have b1 : kd false 2 = 0 := by decide
    have b2 : kd false 1 = 1 := by decide
    rw [b1, b2]
    simp only [Bool.false_eq_true, if_false]
    omega
  · have a := (@numk_sides m e (kd true mode)).2
    have b1 : kd true 2 = 1 := by decide
    have b2 : kd true 1 = 0 := by decide
    rw [b1, b2]
    simp only [if_true]
    omega
/-- a number that is one, by its rank -/
theorem fin_rank {x : Int} (h : frerr x = 0) : (fabs x < 9218868437227405312 ∧ -9218868437227405312 < frank x ∧ frank x < 9218868437227405312) ∨ (fabs x = 9218868437227405312 ∧ (frank x = 9218868437227405312 ∨ frank x = -9218868437227405312)) := by
  have := frerr_0 h
  by_cases k : fabs x = 9218868437227405312
  · exact Or.inr ⟨k, frank_inf k⟩
  · have := frank_le_fabs x
    exact Or.inl ⟨by omega, by omega, by omega⟩
/-- sums, at the ends: the lower ones (none is +Inf), the upper ones (none is -Inf) -/
theorem sum_end {x z : Int} (mode : Int) (x0 : 0 ≤ x) (x1 : x ≤ 18446744073709551615) (z0 : 0 ≤ z) (z1 : z ≤ 18446744073709551615) (nx : frerr x = 0) (nz : frerr z = 0)
    (h : (frank x < 9218868437227405312 ∧ frank z < 9218868437227405312) ∨ (-9218868437227405312 < frank x ∧ -9218868437227405312 < frank z)) :
    frerr (allV [x, z] mode) = 0 ∧ ((frank x = 9218868437227405312 ∨ frank z = 9218868437227405312) → frank (allV [x, z] mode) = 9218868437227405312) ∧ ((frank x = -9218868437227405312 ∨ frank z = -9218868437227405312) → frank (allV [x, z] mode) = -9218868437227405312) ∧
    (frank x < 9218868437227405312 → frank z < 9218868437227405312 → frank (allV [x, z] 2) < 9218868437227405312) ∧ (-9218868437227405312 < frank x → -9218868437227405312 < frank z → -9218868437227405312 < frank (allV [x, z] 1)) := by
  have key : ∀ v u : Int, frerr v = 0 → frerr u = 0 → 0 ≤ v → v ≤ 18446744073709551615 → 0 ≤ u → u ≤ 18446744073709551615 → frank v = frank u → fabs v = 9218868437227405312 → u = v := by
    intro v u nv nu v0 v1 u0 u1 h k
    have e1 := inf_bits v0 v1 nv
    have e2 := inf_bits u0 u1 nu
    rcases frank_inf k with r | r
    · rw [e1.1.1 r, e2.1.1 (by omega)]
    · rw [e1.2.1 r, e2.2.1 (by omega)]
  rcases fin_rank nx with ⟨fx, bx1, bx2⟩ | ⟨fx, bx⟩
  · rcases fin_rank nz with ⟨fz, bz1, bz2⟩ | ⟨fz, bz⟩
    · have A := fun m => allV_fin [x, z] (by simp [fx, fz]) m
      have B := rg_sides (sumD [x, z]).neg (sumD [x, z]).m (sumD [x, z]).e mode
      have e : frerr (allV [x, z] mode) = 0 := by have := (A mode).2.1; unfold frerr; rw [if_neg (by omega)]
      refine ⟨e, by omega, by omega, fun _ _ => ?_, fun _ _ => ?_⟩
      · rw [(A 2).1]; exact B.2.2.1
      · rw [(A 1).1]; exact B.2.2.2
    · have A := fun m => (two_inf' (x := x) (z := z) m fx fz).1
      rw [A mode, A 1, A 2]
      exact ⟨nz, by omega, by omega, by omega, by omega⟩
  · rcases fin_rank nz with ⟨fz, bz1, bz2⟩ | ⟨fz, bz⟩
    · have A := fun m => (two_inf (x := x) (z := z) m fx (Or.inl fz)).1
      rw [A mode, A 1, A 2]
      exact ⟨nx, by omega, by omega, by omega, by omega⟩
    · have A := fun m => (two_inf (x := x) (z := z) m fx (Or.inr (key x z nx nz x0 x1 z0 z1 (by omega) fx))).1
      rw [A mode, A 1, A 2]
      exact ⟨nx, by omega, by omega, by omega, by omega⟩
theorem sum_le {x y u v : Int} (mode : Int) (x0 : 0 ≤ x) (x1 : x ≤ 18446744073709551615) (y0 : 0 ≤ y) (y1 : y ≤ 18446744073709551615) (u0 : 0 ≤ u) (u1 : u ≤ 18446744073709551615) (v0 : 0 ≤ v) (v1 : v ≤ 18446744073709551615)
    (nx : frerr x = 0) (ny : frerr y = 0) (nu : frerr u = 0) (nv : frerr v = 0)
    (h : (frank y < 9218868437227405312 ∧ frank v < 9218868437227405312) ∨ (-9218868437227405312 < frank x ∧ -9218868437227405312 < frank u)) (hx : frank x ≤ frank y) (hu : frank u ≤ frank v) :
    frank (allV [x, u] mode) ≤ frank (allV [y, v] mode) := by
  have b1 := frank_bd x
  have b2 := frank_bd y
  have b3 := frank_bd u
  have b4 := frank_bd v
  have s1 := (sum_end mode x0 x1 u0 u1 nx nu (by omega)).1
  have s2 := (sum_end mode y0 y1 u0 u1 ny nu (by omega)).1
  have s3 := (sum_end mode y0 y1 v0 v1 ny nv (by omega)).1
  have l1 := (sumOrder_law (x := x) (y := y) (z := u) mode x0 x1 y0 y1 u0 u1 nx ny hx).1 s1 s2
  have l2 := (sumOrder_law (x := u) (y := v) (z := y) mode u0 u1 v0 v1 y0 y1 nu nv hu).1
  rw [(two_swap u y mode).1, (two_swap v y mode).1] at l2
  exact Int.le_trans l1 (l2 s2 s3)
/-- down, as it is, up -/
theorem sum_sides {x z : Int} (mode : Int) (fx : fabs x < 9218868437227405312) (fz : fabs z < 9218868437227405312) : frank (allV [x, z] 2) ≤ frank (allV [x, z] mode) ∧ frank (allV [x, z] mode) ≤ frank (allV [x, z] 1) := by
  have A := fun m => (allV_fin [x, z] (by simp [fx, fz]) m).1
  have B := rg_sides (sumD [x, z]).neg (sumD [x, z]).m (sumD [x, z]).e mode
  rw [A, A, A]; exact ⟨B.1, B.2.1⟩
theorem SpOK.sum {a b c d : Int} (a0 : 0 ≤ a) (a1 : a ≤ 18446744073709551615) (b0 : 0 ≤ b) (b1 : b ≤ 18446744073709551615) (c0 : 0 ≤ c) (c1 : c ≤ 18446744073709551615) (d0 : 0 ≤ d) (d1 : d ≤ 18446744073709551615)
    (h : SpOK a b) (k : SpOK c d) : SpOK (plV (allV [a, c] 2)) (plV (allV [b, d] 1)) := by
  obtain ⟨h1, h2, h3, h4, h5, -, -⟩ := h
  obtain ⟨k1, k2, k3, k4, k5, -, -⟩ := k
  obtain ⟨l1, l2, l3, l4, -⟩ := sum_end 2 a0 a1 c0 c1 h1 k1 (Or.inl ⟨h4, k4⟩)
  obtain ⟨u1, u2, u3, -, u5⟩ := sum_end 1 b0 b1 d0 d1 h2 k2 (Or.inr ⟨h5, k5⟩)
  refine sp_pl l1 u1 ?_ (l4 h4 k4) (u5 h5 k5)
  have B := frank_bd (allV [a, c] 2)
  have C := frank_bd (allV [b, d] 1)
  rcases fin_rank h1 with ⟨fa, -, -⟩ | ⟨-, ra⟩
  · rcases fin_rank k1 with ⟨fc, -, -⟩ | ⟨-, rc⟩
    · exact Int.le_trans (sum_sides 1 fa fc).1 (sum_le 1 a0 a1 b0 b1 c0 c1 d0 d1 h1 h2 k1 k2 (by rcases fin_rank h1 with ⟨q, r⟩ | ⟨q, r⟩ <;> rcases fin_rank k1 with ⟨q', r'⟩ | ⟨q', r'⟩ <;> omega) h3 k3)
    · rw [l3 (by omega)]; exact C.1
  · rw [l3 (by omega)]; exact C.1
end Go.Proofs.YtmpdbmaokbhcjaaGreatDoor

/-
  PLAIN: products by ranks; the corners of two spans.
-/
namespace Go.Proofs.YtmpdbmaokbhcjaaGreatDoor
open Go.RowKit Nt Fm Fl

theorem frank_fneg {x : Int} (x0 : 0 ≤ x) (x1 : x ≤ 18446744073709551615) : frank (fneg x) = -frank x ∧ frerr (fneg x) = frerr x := by
  unfold frank frerr fneg fabs
  constructor
  · split <;> split <;> (try split) <;> (try split) <;> omega
  · split <;> split <;> (try split) <;> omega
theorem fng_rank {x : Int} (h : frerr x = 0) (hp : 0 < frank x) : fng x = false := by
  have fx := frank_fng (frerr_0 h)
  have := fabs_bd x
  cases hg : fng x
  · rfl
  · rw [hg, if_pos rfl] at fx; omega
theorem fng_rank' {x : Int} (h : frerr x = 0) (hp : frank x < 0) : fng x = true := by
  have fx := frank_fng (frerr_0 h)
  have := fabs_bd x
  cases hg : fng x
  · rw [hg] at fx; simp at fx; omega
  · rfl
theorem fabs_rank {x : Int} (h : frerr x = 0) : (frank x = 0 ↔ fabs x = 0) ∧ (fabs x = frank x ∨ fabs x = -frank x) := by
  have fx := frank_fng (frerr_0 h)
  have := fabs_bd x
  split at fx <;> omega
theorem frank_nan : frank 9221120237041090560 = 0 := by decide
/-- times an end -/
theorem mu_infR {x z : Int} (mode : Int) (nx : frerr x = 0) (nz : frerr z = 0) (h : frank z = 9218868437227405312) : frank (muV0 x z mode) = if frank x = 0 then 0 else if 0 < frank x then 9218868437227405312 else -9218868437227405312 := by
  obtain ⟨e1, e2⟩ := fabs_rank nx
  obtain ⟨e3, e4⟩ := fabs_rank nz
  have bz := fabs_bd z
  rcases mu_inf' (x := x) mode (show fabs z = 9218868437227405312 by omega) (frerr_0 nx) with ⟨a, b, -⟩ | ⟨a, b, -⟩
  · rw [b, frank_nan, if_pos (e1.2 a)]
  · have a' : ¬ frank x = 0 := fun k => a (e1.1 k)
    rw [b, if_neg a', (inf_sgn x z).1, fng_rank nz (by omega)]
    by_cases hp : 0 < frank x
    · rw [fng_rank nx hp, if_pos rfl, if_pos hp]
    · rw [fng_rank' nx (by omega), if_neg hp]; rfl
theorem mu_zero {x z : Int} (mode : Int) (nx : frerr x = 0) (mz : frerr z = 0) (h : frank x = 0) : frank (muV0 x z mode) = 0 := by
  have hx := (fabs_rank nx).1.1 h
  rcases fin_rank mz with ⟨fz, -⟩ | ⟨fz, -⟩
  · obtain ⟨a1, -, a2, -⟩ := mu_fin (x := x) (y := z) (by omega) fz mode
    have : (prD x z).m = 0 := by
      unfold prD; rw [valD_z (fcls_1 hx)]; unfold times ofInt norm nz D.sm; simp
    have := a2 this
    unfold frank; rw [if_neg (by omega), this]; split <;> rfl
  · rcases mu_inf' (x := x) mode fz (frerr_0 nx) with ⟨a, b, -⟩ | ⟨a, b, -⟩
    · rw [b]; rfl
    · exact absurd hx a
theorem mu_swap (x y mode : Int) : muV0 x y mode = muV0 y x mode := by
  unfold muV0; rw [spB_comm x y, spV_comm x y, prD_comm x y, sgn_comm x y]
theorem mu_neg {x z : Int} (mode : Int) (z0 : 0 ≤ z) (z1 : z ≤ 18446744073709551615) : frank (muV0 x (fneg z) (swapM mode)) = -frank (muV0 x z mode) := by
  rw [mu_swap x (fneg z), mu_swap x z]
  rcases (mu_turned (x := z) (y := x) mode z0 z1).2 with ⟨a, b⟩ | b
  · rw [a, b, frank_nan]; rfl
  · rw [b]
    have := muV0_bd z x mode
    exact (frank_fneg this.1 this.2).1
theorem mu_fin_nn {x z : Int} (mode : Int) (nx : frerr x = 0) (fz : fabs z < 9218868437227405312) (hz : fabs z ≠ 0) : frerr (muV0 x z mode) = 0 := by
  rcases fin_rank nx with ⟨fx, -⟩ | ⟨fx, -⟩
  · have := (mu_fin fx fz mode).2.2.2.2
    unfold frerr; rw [if_neg (by omega)]
  · rcases mu_inf (y := z) mode fx (by omega) with ⟨a, -⟩ | ⟨-, b, -⟩
    · exact absurd a hz
    · rw [b]; exact (inf_sgn x z).2
theorem mu_up {x x' z : Int} (mode : Int) (x0 : 0 ≤ x) (x1 : x ≤ 18446744073709551615) (y0 : 0 ≤ x') (y1 : x' ≤ 18446744073709551615) (z0 : 0 ≤ z) (z1 : z ≤ 18446744073709551615)
    (nx : frerr x = 0) (ny : frerr x' = 0) (nz : frerr z = 0) (h : frank x ≤ frank x') (hz : 0 ≤ frank z) : frank (muV0 x z mode) ≤ frank (muV0 x' z mode) := by
  by_cases i : frank z = 9218868437227405312
  · rw [mu_infR mode nx nz i, mu_infR mode ny nz i]
    split <;> split <;> (try split) <;> (try split) <;> omega
  · by_cases zz : frank z = 0
    · rw [mu_swap x, mu_swap x', mu_zero mode nz nx zz, mu_zero mode nz ny zz]; exact Int.le_refl _
    · have fz : fabs z < 9218868437227405312 := by
        rcases fin_rank nz with ⟨q, -⟩ | ⟨-, q⟩ <;> omega
      have hz0 : fabs z ≠ 0 := fun k => zz ((fabs_rank nz).1.2 k)
      exact mu_mono mode x0 x1 y0 y1 z0 z1 nx ny nz h hz (mu_fin_nn mode nx fz hz0) (mu_fin_nn mode ny fz hz0)
theorem mu_down {x x' z : Int} (mode : Int) (x0 : 0 ≤ x) (x1 : x ≤ 18446744073709551615) (y0 : 0 ≤ x') (y1 : x' ≤ 18446744073709551615) (z0 : 0 ≤ z) (z1 : z ≤ 18446744073709551615)
    (nx : frerr x = 0) (ny : frerr x' = 0) (nz : frerr z = 0) (h : frank x ≤ frank x') (hz : frank z ≤ 0) : frank (muV0 x' z mode) ≤ frank (muV0 x z mode) := by
  obtain ⟨f1, f2⟩ := frank_fneg z0 z1
  obtain ⟨b1, b2⟩ := fneg_bd z0 z1
  have := mu_up (z := fneg z) (swapM mode) x0 x1 y0 y1 b1 b2 nx ny (by omega) h (by omega)
  rw [mu_neg mode z0 z1, mu_neg mode z0 z1] at this
  omega
/-- what goes up, or goes down, in each of both: between the corners -/
structure Bi (X Y : Int → Prop) (g : Int → Int → Int) : Prop where
  fst : ∀ y, Y y → (∀ x x', X x → X x' → frank x ≤ frank x' → g x y ≤ g x' y) ∨ (∀ x x', X x → X x' → frank x ≤ frank x' → g x' y ≤ g x y)
  snd : ∀ x, X x → (∀ y y', Y y → Y y' → frank y ≤ frank y' → g x y ≤ g x y') ∨ (∀ y y', Y y → Y y' → frank y ≤ frank y' → g x y' ≤ g x y)
theorem Bi.low {X Y : Int → Prop} {g : Int → Int → Int} (B : Bi X Y g) {a b c d x y L : Int} (ha : X a) (hb : X b) (hx : X x) (hc : Y c) (hd : Y d) (hy : Y y)
    (ax : frank a ≤ frank x) (xb : frank x ≤ frank b) (cy : frank c ≤ frank y) (yd : frank y ≤ frank d) (l1 : L ≤ g a c) (l2 : L ≤ g a d) (l3 : L ≤ g b c) (l4 : L ≤ g b d) : L ≤ g x y := by
  have A : ∀ u, X u → L ≤ g u c → L ≤ g u d → L ≤ g u y := by
    intro u hu k1 k2
    rcases B.snd u hu with h | h
    · exact Int.le_trans k1 (h c y hc hy cy)
    · exact Int.le_trans k2 (h y d hy hd yd)
  rcases B.fst y hy with h | h
  · exact Int.le_trans (A a ha l1 l2) (h a x ha hx ax)
  · exact Int.le_trans (A b hb l3 l4) (h x b hx hb xb)
theorem Bi.high {X Y : Int → Prop} {g : Int → Int → Int} (B : Bi X Y g) {a b c d x y U : Int} (ha : X a) (hb : X b) (hx : X x) (hc : Y c) (hd : Y d) (hy : Y y)
    (ax : frank a ≤ frank x) (xb : frank x ≤ frank b) (cy : frank c ≤ frank y) (yd : frank y ≤ frank d) (l1 : g a c ≤ U) (l2 : g a d ≤ U) (l3 : g b c ≤ U) (l4 : g b d ≤ U) : g x y ≤ U := by
  have A : ∀ u, X u → g u c ≤ U → g u d ≤ U → g u y ≤ U := by
    intro u hu k1 k2
    rcases B.snd u hu with h | h
    · exact Int.le_trans (h y d hy hd yd) k2
    · exact Int.le_trans (h c y hc hy cy) k1
  rcases B.fst y hy with h | h
  · exact Int.le_trans (h x b hx hb xb) (A b hb l3 l4)
  · exact Int.le_trans (h a x ha hx ax) (A a ha l1 l2)
/-- a number, or an end -/
def En (x : Int) : Prop := 0 ≤ x ∧ x ≤ 18446744073709551615 ∧ frerr x = 0
theorem mu_bi (mode : Int) : Bi En En (fun x y => frank (muV0 x y mode)) := by
  have one : ∀ y, En y → (∀ x x', En x → En x' → frank x ≤ frank x' → frank (muV0 x y mode) ≤ frank (muV0 x' y mode)) ∨ (∀ x x', En x → En x' → frank x ≤ frank x' → frank (muV0 x' y mode) ≤ frank (muV0 x y mode)) := by
    rintro y ⟨y0, y1, ny⟩
    by_cases h : 0 ≤ frank y
    · left; rintro x x' ⟨a0, a1, na⟩ ⟨b0, b1, nb⟩ k; exact mu_up mode a0 a1 b0 b1 y0 y1 na nb ny k h
    · right; rintro x x' ⟨a0, a1, na⟩ ⟨b0, b1, nb⟩ k; exact mu_down mode a0 a1 b0 b1 y0 y1 na nb ny k (by omega)
  refine ⟨one, fun x hx => ?_⟩
  rcases one x hx with h | h
  · left; intro y y' hy hy' k; show frank (muV0 x y mode) ≤ frank (muV0 x y' mode); rw [mu_swap x y, mu_swap x y']; exact h y y' hy hy' k
  · right; intro y y' hy hy' k; show frank (muV0 x y' mode) ≤ frank (muV0 x y mode); rw [mu_swap x y, mu_swap x y']; exact h y y' hy hy' k
theorem mu_sides {x z : Int} (mode : Int) (fx : fabs x < 9218868437227405312) (fz : fabs z < 9218868437227405312) :
    frank (muV0 x z 2) ≤ frank (muV0 x z mode) ∧ frank (muV0 x z mode) ≤ frank (muV0 x z 1) ∧ frank (muV0 x z 2) < 9218868437227405312 ∧ -9218868437227405312 < frank (muV0 x z 1) := by
  have A := fun m => (mu_fin fx fz m).1
  have B := rg_sides (prD x z).neg (prD x z).m (prD x z).e mode
  rw [A, A, A]; exact B
/-- one step of the corners -/
structure Cn where
  fst : Bool
  lo : Int
  hi : Int
def cnS (ok : Int → Int → Bool) (v : Int → Int → Int → Int) (s : Cn) (x y : Int) : Cn :=
  if ok x y = true then ⟨false, if (s.fst || amB (v x y 2) s.lo) = true then v x y 2 else s.lo, if (s.fst || amB s.hi (v x y 1)) = true then v x y 1 else s.hi⟩ else s
def cnF (ok : Int → Int → Bool) (v : Int → Int → Int → Int) (a b c d : Int) : Cn := cnS ok v (cnS ok v (cnS ok v (cnS ok v ⟨true, 0, 0⟩ a c) a d) b c) b d
def cnLo (ok : Int → Int → Bool) (v : Int → Int → Int → Int) (a b c d : Int) : Int := plV (cnF ok v a b c d).lo
def cnHi (ok : Int → Int → Bool) (v : Int → Int → Int → Int) (a b c d : Int) : Int := plV (cnF ok v a b c d).hi
/-- what the corners are, behind some of them -/
def CnI (ok : Int → Int → Bool) (v : Int → Int → Int → Int) (s : Cn) (l : List (Int × Int)) : Prop :=
  (∀ p ∈ l, ok p.1 p.2 = true → s.fst = false ∧ frank s.lo ≤ frank (v p.1 p.2 2) ∧ frank (v p.1 p.2 1) ≤ frank s.hi) ∧
  (s.fst = false → (∃ p ∈ l, ok p.1 p.2 = true ∧ s.lo = v p.1 p.2 2) ∧ (∃ p ∈ l, ok p.1 p.2 = true ∧ s.hi = v p.1 p.2 1))
theorem CnI.step {ok : Int → Int → Bool} {v : Int → Int → Int → Int} {s : Cn} {l : List (Int × Int)} {x y : Int} (h : CnI ok v s l)
    (hv : ∀ p ∈ l, ok p.1 p.2 = true → ∀ m, frerr (v p.1 p.2 m) = 0) (hn : ok x y = true → ∀ m, frerr (v x y m) = 0) : CnI ok v (cnS ok v s x y) (l ++ [(x, y)]) := by
  obtain ⟨h1, h2⟩ := h
  unfold cnS
  by_cases k : ok x y = true
  · rw [if_pos k]
    have hn := hn k
    cases hf : s.fst
    · obtain ⟨⟨p, hp, p1, p2⟩, ⟨q, hq, q1, q2⟩⟩ := h2 hf
      have np : frerr s.lo = 0 := by rw [p2]; exact hv p hp p1 2
      have nq : frerr s.hi = 0 := by rw [q2]; exact hv q hq q1 1
      simp only [Bool.false_or]
      have lo : ∃ z, (if amB (v x y 2) s.lo = true then v x y 2 else s.lo) = z ∧ frank z ≤ frank s.lo ∧ frank z ≤ frank (v x y 2) ∧ (z = s.lo ∨ z = v x y 2) := by
        by_cases e : amB (v x y 2) s.lo = true
        · exact ⟨_, if_pos e, (amB_iff.1 e).2.2, Int.le_refl _, Or.inr rfl⟩
        · exact ⟨_, if_neg e, Int.le_refl _, Int.le_of_lt (amB_false (hn 2) np (by simpa using e)), Or.inl rfl⟩
      have hi : ∃ z, (if amB s.hi (v x y 1) = true then v x y 1 else s.hi) = z ∧ frank s.hi ≤ frank z ∧ frank (v x y 1) ≤ frank z ∧ (z = s.hi ∨ z = v x y 1) := by
        by_cases e : amB s.hi (v x y 1) = true
        · exact ⟨_, if_pos e, (amB_iff.1 e).2.2, Int.le_refl _, Or.inr rfl⟩
        · exact ⟨_, if_neg e, Int.le_refl _, Int.le_of_lt (amB_false nq (hn 1) (by simpa using e)), Or.inl rfl⟩
      obtain ⟨zl, el, l1, l2, l3⟩ := lo
      obtain ⟨zh, eh, u1, u2, u3⟩ := hi
      rw [el, eh]
      refine ⟨?_, fun _ => ⟨?_, ?_⟩⟩
      · intro r hr hk
        rcases List.mem_append.1 hr with hr | hr
        · obtain ⟨-, t1, t2⟩ := h1 r hr hk
          exact ⟨rfl, Int.le_trans l1 t1, Int.le_trans t2 u1⟩
        · simp only [List.mem_singleton] at hr; subst hr; exact ⟨rfl, l2, u2⟩
      · rcases l3 with rfl | rfl
        · exact ⟨p, List.mem_append_left _ hp, p1, p2⟩
        · exact ⟨(x, y), by simp, k, rfl⟩
      · rcases u3 with rfl | rfl
        · exact ⟨q, List.mem_append_left _ hq, q1, q2⟩
        · exact ⟨(x, y), by simp, k, rfl⟩
    · simp only [Bool.true_or, if_true]
      refine ⟨?_, fun _ => ⟨⟨(x, y), by simp, k, rfl⟩, ⟨(x, y), by simp, k, rfl⟩⟩⟩
      intro r hr hk
      rcases List.mem_append.1 hr with hr | hr
      · have := (h1 r hr hk).1; rw [hf] at this; exact absurd this (by decide)
      · simp only [List.mem_singleton] at hr; subst hr; exact ⟨rfl, Int.le_refl _, Int.le_refl _⟩
  · rw [if_neg k]
    refine ⟨?_, fun hf => ?_⟩
    · intro r hr hk
      rcases List.mem_append.1 hr with hr | hr
      · exact h1 r hr hk
      · simp only [List.mem_singleton] at hr; subst hr; exact absurd hk k
    · obtain ⟨⟨p, hp, p1⟩, ⟨q, hq, q1⟩⟩ := h2 hf
      exact ⟨⟨p, List.mem_append_left _ hp, p1⟩, ⟨q, List.mem_append_left _ hq, q1⟩⟩
def cnL (a b c d : Int) : List (Int × Int) := [(a, c), (a, d), (b, c), (b, d)]
theorem cn_all {ok : Int → Int → Bool} {v : Int → Int → Int → Int} {a b c d : Int} (hn : ∀ p ∈ cnL a b c d, ok p.1 p.2 = true → ∀ m, frerr (v p.1 p.2 m) = 0) : CnI ok v (cnF ok v a b c d) (cnL a b c d) := by
  have h0 : CnI ok v ⟨true, 0, 0⟩ [] := ⟨fun p hp => absurd hp (by simp), fun h => absurd h (by decide)⟩
  have m1 : (a, c) ∈ cnL a b c d := by simp [cnL]
  have m2 : (a, d) ∈ cnL a b c d := by simp [cnL]
  have m3 : (b, c) ∈ cnL a b c d := by simp [cnL]
  have m4 : (b, d) ∈ cnL a b c d := by simp [cnL]
  have h1 := h0.step (x := a) (y := c) (fun p hp => absurd hp (by simp)) (hn _ m1)
  have h2 := h1.step (x := a) (y := d) (fun p hp => hn p (by simp [cnL] at hp ⊢; simp [hp])) (hn _ m2)
  have h3 := h2.step (x := b) (y := c) (fun p hp => hn p (by simp [cnL] at hp ⊢; rcases hp with e | e <;> simp [e])) (hn _ m3)
  have h4 := h3.step (x := b) (y := d) (fun p hp => hn p (by simp [cnL] at hp ⊢; rcases hp with e | e | e <;> simp [e])) (hn _ m4)
  exact h4
end Go.Proofs.YtmpdbmaokbhcjaaGreatDoor

/-
  PLAIN: products of spans, by ranks.
-/
namespace Go.Proofs.YtmpdbmaokbhcjaaGreatDoor
open Go.RowKit Nt Fm Fl

def U64 (x : Int) : Prop := 0 ≤ x ∧ x ≤ 18446744073709551615
/-- a number of it with a value -/
theorem SpOK.wit {a b : Int} (a0 : U64 a) (b0 : U64 b) (h : SpOK a b) : ∃ x, En x ∧ fabs x < 9218868437227405312 ∧ frank a ≤ frank x ∧ frank x ≤ frank b := by
  rcases fin_rank h.na with ⟨fa, -⟩ | ⟨-, ra⟩
  · exact ⟨a, ⟨a0.1, a0.2, h.na⟩, fa, Int.le_refl _, h.le⟩
  · rcases fin_rank h.nb with ⟨fb, -⟩ | ⟨-, rb⟩
    · exact ⟨b, ⟨b0.1, b0.2, h.nb⟩, fb, h.le, Int.le_refl _⟩
    · have z : frank 0 = 0 := by decide
      have := h.lo
      have := h.hi
      exact ⟨0, ⟨by decide, by decide, by decide⟩, by decide, by omega, by omega⟩
theorem plV_u {x : Int} (h : U64 x) : U64 (plV x) := plV_bd h.1 h.2
/-- the parts of a product of two ends -/
def clV (x y m : Int) : Int := if x = 0 ∨ y = 0 then 0 else muV x y m
def clOk (x y : Int) : Bool := true
theorem clV_bd (x y m : Int) : U64 (clV x y m) := by
  have := muV_bd x y m
  unfold clV U64; split <;> omega
theorem En.rz {x : Int} (h : En x) (hz : x ≠ 9223372036854775808) (h0 : x ≠ 0) : frank x ≠ 0 := by
  intro k
  have := (fabs_rank h.2.2).1.1 k
  have a := h.1
  have b := h.2.1
  unfold fabs at this; omega
theorem clV_rank {x y : Int} (m : Int) (hm : m = 1 ∨ m = 2) (hx : En x) (hy : En y) : frank (clV x y m) = frank (muV0 x y m) := by
  have z : frank 0 = 0 := by decide
  unfold clV
  by_cases h : x = 0 ∨ y = 0
  · rw [if_pos h, z]
    rcases h with rfl | rfl
    · exact (mu_zero m hx.2.2 hy.2.2 z).symm
    · rw [mu_swap]; exact (mu_zero m hy.2.2 hx.2.2 z).symm
  · rw [if_neg h]
    unfold muV
    rw [if_pos (by rcases hm with rfl | rfl <;> decide)]
theorem clV_nn {x y : Int} (m : Int) (hx : En x) (hy : En y) (zx : x ≠ 9223372036854775808) (zy : y ≠ 9223372036854775808) : frerr (clV x y m) = 0 := by
  unfold clV
  by_cases h : x = 0 ∨ y = 0
  · rw [if_pos h]; decide
  · rw [if_neg h]
    simp only [not_or] at h
    unfold muV; split
    · have rx := hx.rz zx h.1
      have ry := hy.rz zy h.2
      have fx : fabs x ≠ 0 := fun k => rx ((fabs_rank hx.2.2).1.2 k)
      have fy : fabs y ≠ 0 := fun k => ry ((fabs_rank hy.2.2).1.2 k)
      rcases fin_rank hy.2.2 with ⟨f, -⟩ | ⟨f, -⟩
      · exact mu_fin_nn m hx.2.2 f fy
      · rcases mu_inf' (x := x) m f (frerr_0 hx.2.2) with ⟨q, -⟩ | ⟨-, q, -⟩
        · exact absurd q fx
        · rw [q]; exact (inf_sgn x y).2
    · decide
/-- what a product of spans, or a quotient, is: over a function P of ranks -/
structure SpR (P : Int → Int → Int → Int) (a b c d lo hi : Int) : Prop where
  L : ∀ x y, En x → En y → frank a ≤ frank x → frank x ≤ frank b → frank c ≤ frank y → frank y ≤ frank d → frank lo ≤ P x y 2
  H : ∀ x y, En x → En y → frank a ≤ frank x → frank x ≤ frank b → frank c ≤ frank y → frank y ≤ frank d → P x y 1 ≤ frank hi
  ok : SpOK lo hi
  ul : U64 lo
  uh : U64 hi
  lc : ∃ x y, (x = a ∨ x = b) ∧ (y = c ∨ y = d) ∧ frank lo = P x y 2
  hc : ∃ x y, (x = a ∨ x = b) ∧ (y = c ∨ y = d) ∧ frank hi = P x y 1
theorem cnL_iff {a b c d : Int} {p : Int × Int} : p ∈ cnL a b c d ↔ (p.1 = a ∨ p.1 = b) ∧ (p.2 = c ∨ p.2 = d) := by
  obtain ⟨x, y⟩ := p
  unfold cnL
  simp only [List.mem_cons, List.not_mem_nil, or_false, Prod.mk.injEq]
  constructor
  · rintro (⟨rfl, rfl⟩ | ⟨rfl, rfl⟩ | ⟨rfl, rfl⟩ | ⟨rfl, rfl⟩) <;> simp
  · rintro ⟨rfl | rfl, rfl | rfl⟩ <;> simp
theorem mul_spr {a b c d : Int} (ua : U64 a) (ub : U64 b) (uc : U64 c) (ud : U64 d) (h : SpOK a b) (k : SpOK c d) :
    SpR (fun x y m => frank (muV0 x y m)) a b c d (cnLo clOk clV a b c d) (cnHi clOk clV a b c d) := by
  have ea : En a := ⟨ua.1, ua.2, h.na⟩
  have eb : En b := ⟨ub.1, ub.2, h.nb⟩
  have ec : En c := ⟨uc.1, uc.2, k.na⟩
  have ed : En d := ⟨ud.1, ud.2, k.nb⟩
  have E1 : ∀ x, (x = a ∨ x = b) → En x ∧ x ≠ 9223372036854775808 := by rintro x (rfl | rfl) <;> first | exact ⟨ea, h.za⟩ | exact ⟨eb, h.zb⟩
  have E2 : ∀ x, (x = c ∨ x = d) → En x ∧ x ≠ 9223372036854775808 := by rintro x (rfl | rfl) <;> first | exact ⟨ec, k.za⟩ | exact ⟨ed, k.zb⟩
  have nn : ∀ p ∈ cnL a b c d, clOk p.1 p.2 = true → ∀ m, frerr (clV p.1 p.2 m) = 0 := by
    intro p hp _ m
    obtain ⟨q1, q2⟩ := cnL_iff.1 hp
    exact clV_nn m (E1 _ q1).1 (E2 _ q2).1 (E1 _ q1).2 (E2 _ q2).2
  obtain ⟨i1, i2⟩ := cn_all nn
  unfold cnLo cnHi
  generalize cnF clOk clV a b c d = s at *
  have i3 : ∀ x y, (x = a ∨ x = b) → (y = c ∨ y = d) → frank s.lo ≤ frank (muV0 x y 2) ∧ frank (muV0 x y 1) ≤ frank s.hi := by
    intro x y hx hy
    have := i1 (x, y) (cnL_iff.2 ⟨hx, hy⟩) rfl
    rw [← clV_rank 2 (Or.inr rfl) (E1 _ hx).1 (E2 _ hy).1, ← clV_rank 1 (Or.inl rfl) (E1 _ hx).1 (E2 _ hy).1]
    exact this.2
  obtain ⟨⟨p, p1, -, p2⟩, ⟨q, q1, -, q2⟩⟩ := i2 (i1 (a, c) (cnL_iff.2 ⟨Or.inl rfl, Or.inl rfl⟩) rfl).1
  have np : frerr s.lo = 0 := by rw [p2]; exact nn p p1 rfl 2
  have nq : frerr s.hi = 0 := by rw [q2]; exact nn q q1 rfl 1
  have up : U64 s.lo := by rw [p2]; exact clV_bd _ _ _
  have uq : U64 s.hi := by rw [q2]; exact clV_bd _ _ _
  have fl := (plV_facts s.lo).1
  have fh := (plV_facts s.hi).1
  have L : ∀ x y, En x → En y → frank a ≤ frank x → frank x ≤ frank b → frank c ≤ frank y → frank y ≤ frank d → frank s.lo ≤ frank (muV0 x y 2) := fun x y hx hy r1 r2 r3 r4 =>
    (mu_bi 2).low ea eb hx ec ed hy r1 r2 r3 r4 (i3 a c (Or.inl rfl) (Or.inl rfl)).1 (i3 a d (Or.inl rfl) (Or.inr rfl)).1 (i3 b c (Or.inr rfl) (Or.inl rfl)).1 (i3 b d (Or.inr rfl) (Or.inr rfl)).1
  have H : ∀ x y, En x → En y → frank a ≤ frank x → frank x ≤ frank b → frank c ≤ frank y → frank y ≤ frank d → frank (muV0 x y 1) ≤ frank s.hi := fun x y hx hy r1 r2 r3 r4 =>
    (mu_bi 1).high ea eb hx ec ed hy r1 r2 r3 r4 (i3 a c (Or.inl rfl) (Or.inl rfl)).2 (i3 a d (Or.inl rfl) (Or.inr rfl)).2 (i3 b c (Or.inr rfl) (Or.inl rfl)).2 (i3 b d (Or.inr rfl) (Or.inr rfl)).2
  obtain ⟨x, ex, fx, x1, x2⟩ := h.wit ua ub
  obtain ⟨y, ey, fy, y1, y2⟩ := k.wit uc ud
  have S := mu_sides 1 fx fy
  have l1 := L x y ex ey x1 x2 y1 y2
  have h1 := H x y ex ey x1 x2 y1 y2
  obtain ⟨c1, c2⟩ := cnL_iff.1 p1
  obtain ⟨c3, c4⟩ := cnL_iff.1 q1
  refine ⟨fun x y a1 a2 a3 a4 a5 a6 => by rw [fl]; exact L x y a1 a2 a3 a4 a5 a6, fun x y a1 a2 a3 a4 a5 a6 => by rw [fh]; exact H x y a1 a2 a3 a4 a5 a6,
    sp_pl np nq (by omega) (by omega) (by omega), plV_u up, plV_u uq, ⟨p.1, p.2, c1, c2, ?_⟩, ⟨q.1, q.2, c3, c4, ?_⟩⟩
  · rw [fl, p2]; exact clV_rank 2 (Or.inr rfl) (E1 _ c1).1 (E2 _ c2).1
  · rw [fh, q2]; exact clV_rank 1 (Or.inl rfl) (E1 _ c3).1 (E2 _ c4).1
end Go.Proofs.YtmpdbmaokbhcjaaGreatDoor
