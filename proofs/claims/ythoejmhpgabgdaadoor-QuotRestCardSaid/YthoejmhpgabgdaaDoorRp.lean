/-
  PLAIN: the laws of the rest of a division. No Go here.
-/
import Derived.Test.YthoejmhpgabgdaaDoorRm
import Derived.Test.YthoejmhpgabgdaaDoorBq
import Derived.Test.YthoejmhpgabgdaaDoorBp
set_option linter.unusedVariables false
set_option linter.unusedSimpArgs false
namespace Go.Proofs.YthoejmhpgabgdaaDoor
open Go.RowKit Nt Fm Fl

theorem rm_scale {M N U : Nat} (hU : 0 < U) : rmUp (M * U) (N * U) = rmUp M N ∧ rmR (M * U) (N * U) = rmR M N * U := by
  have e1 : M * U % (N * U) = M % N * U := Nat.mul_mod_mul_right _ _ _
  have e2 : M * U / (N * U) = M / N := Nat.mul_div_mul_right _ _ hU
  have e3 : 2 * (M % N * U) = 2 * (M % N) * U := (Nat.mul_assoc _ _ _).symm
  have h1 : (N * U < 2 * (M % N) * U) = (N < 2 * (M % N)) := propext ⟨fun h => Nat.lt_of_mul_lt_mul_right h, fun h => Nat.mul_lt_mul_of_pos_right h hU⟩
  have h2 : (2 * (M % N) * U = N * U) = (2 * (M % N) = N) := propext ⟨fun h => Nat.eq_of_mul_eq_mul_right hU h, fun h => by rw [h]⟩
  have hup : rmUp (M * U) (N * U) = rmUp M N := by
    unfold rmUp
    rw [e1, e2, e3]
    simp only [h1, h2]
  refine ⟨hup, ?_⟩
  unfold rmR
  rw [hup, e1]
  split
  · rw [Nat.sub_mul]
  · rfl
theorem rm_le {M N : Nat} (hN : 0 < N) : rmR M N ≤ N ∧ rmR M N ≤ M ∧ 2 * rmR M N ≤ N := by
  have h1 := Nat.mod_lt M hN
  have h2 := Nat.mod_le M N
  unfold rmR
  cases hu : rmUp M N
  · unfold rmUp at hu
    simp only [Bool.or_eq_false_iff, Bool.and_eq_false_iff, decide_eq_false_iff_not] at hu
    simp only [Bool.false_eq_true, if_false]
    omega
  · unfold rmUp at hu
    simp only [Bool.or_eq_true, Bool.and_eq_true, decide_eq_true_eq] at hu
    simp only [if_true]
    omega
theorem rm_self {R B : Nat} (h : 2 * R ≤ B) (hB : 0 < B) : rmUp R B = false ∧ rmR R B = R := by
  have h1 : R % B = R := Nat.mod_eq_of_lt (by omega)
  have h2 : R / B = 0 := Nat.div_eq_of_lt (by omega)
  have hu : rmUp R B = false := by
    unfold rmUp
    rw [h1, h2]
    rw [decide_eq_false (show ¬ B < 2 * R by omega)]
    simp
  refine ⟨hu, ?_⟩
  unfold rmR
  rw [hu, h1]; rfl
theorem rm_mult {k B : Nat} (hB : 0 < B) : rmUp (k * B) B = false ∧ rmR (k * B) B = 0 := by
  have h1 : k * B % B = 0 := Nat.mul_mod_left _ _
  have hu : rmUp (k * B) B = false := by
    unfold rmUp
    rw [h1]
    rw [decide_eq_false (show ¬ B < 2 * 0 by omega), decide_eq_false (show ¬ 2 * 0 = B by omega)]
    rfl
  refine ⟨hu, ?_⟩
  unfold rmR
  rw [hu, h1]; rfl
theorem rm_unit {x y : Int} (hx : fabs x < 9218868437227405312) (hy : fabs y < 9218868437227405312) :
    rmM x y * 2 ^ (rmE x y + 1074).toNat = mag (fabs x).toNat ∧ rmN x y * 2 ^ (rmE x y + 1074).toNat = mag (fabs y).toNat ∧ (rmM x y < 2 ^ 53 ∨ rmN x y < 2 ^ 53) := by
  have bx := fabs_bd x
  have by' := fabs_bd y
  obtain ⟨f1, f2, f3, f4, -⟩ := valD_facts (fabs x) bx.1 (by omega)
  obtain ⟨g1, g2, g3, g4, -⟩ := valD_facts (fabs y) by'.1 (by omega)
  have tx := (valD_tt (fabs x) bx.1 (by omega) 0).resolve_right (by rw [fabs_fabs]; omega)
  have ty := (valD_tt (fabs y) by'.1 (by omega) 0).resolve_right (by rw [fabs_fabs]; omega)
  unfold tt at tx ty
  rw [Nat.pow_zero, Nat.mul_one, fabs_fabs] at tx ty
  refine ⟨?_, ?_, ?_⟩
  · rw [← tx]; unfold rmM
    rw [Nat.mul_assoc, ← Nat.pow_add]; congr 2; unfold rmE; omega
  · rw [← ty]; unfold rmN
    rw [Nat.mul_assoc, ← Nat.pow_add]; congr 2; unfold rmE; omega
  · rcases Int.le_total (valD (fabs x)).e (valD (fabs y)).e with h | h
    · left
      have e : ((valD (fabs x)).e - rmE x y).toNat = 0 := by unfold rmE; omega
      unfold rmM; rw [e, Nat.pow_zero, Nat.mul_one]; exact f2
    · right
      have e : ((valD (fabs y)).e - rmE x y).toNat = 0 := by unfold rmE; omega
      unfold rmN; rw [e, Nat.pow_zero, Nat.mul_one]; exact g2
/-- what it tells of two finite ones, the second one not 0 -/
theorem rem_val {x y : Int} (x0 : 0 ≤ x) (x1 : x ≤ 18446744073709551615) (hx : fabs x < 9218868437227405312) (hy : fabs y < 9218868437227405312) (hy0 : fabs y ≠ 0) :
    fabs (remV0 x y) < 9218868437227405312 ∧ mag (fabs (remV0 x y)).toNat = rmR (mag (fabs x).toNat) (mag (fabs y).toNat) ∧
      fng (remV0 x y) = (if rmR (mag (fabs x).toNat) (mag (fabs y).toNat) = 0 then fng x else (fng x != rmUp (mag (fabs x).toNat) (mag (fabs y).toNat))) := by
  have hMR : MR = 9218868437227405312 := rfl
  have by' := fabs_bd y
  obtain ⟨u1, u2, u3⟩ := rm_unit hx hy
  have hU : 0 < 2 ^ (rmE x y + 1074).toNat := Nat.two_pow_pos _
  have hB : 0 < mag (fabs y).toNat := by
    have := mag_lt (show 0 < (fabs y).toNat by omega); rw [mag_zero] at this; exact this
  have hN : 0 < rmN x y := by
    rcases Nat.eq_zero_or_pos (rmN x y) with h | h
    · rw [h, Nat.zero_mul] at u2; omega
    · exact h
  obtain ⟨s1, s2⟩ := rm_scale (M := rmM x y) (N := rmN x y) hU
  rw [u1, u2] at s1 s2
  obtain ⟨l1, l2, l3⟩ := rm_le (M := rmM x y) hN
  have hlt : rmR (rmM x y) (rmN x y) < 2 ^ 53 := by rcases u3 with h | h <;> omega
  obtain ⟨-, -, e0, e1⟩ := rm_bd x y rfl
  obtain ⟨k, hk⟩ := mag_reps (rmE x y + 1074).toNat (rmR (rmM x y) (rmN x y)) (Nat.le_of_lt hlt)
  have hkM : k < MR := by
    have h1 : mag k ≤ mag (fabs y).toNat := by
      rw [hk, ← u2]; exact Nat.mul_le_mul_right _ l1
    have := mag_le_iff.1 h1
    omega
  rw [s1, s2]
  unfold remV0
  by_cases hz : rmR (rmM x y) (rmN x y) = 0
  · rw [if_pos hz, hz]
    have hs : fabs (if fng x = true then 9223372036854775808 else 0) = 0 ∧ fng (if fng x = true then 9223372036854775808 else 0) = fng x := by
      cases fng x <;> decide
    rw [hs.1, hs.2]
    refine ⟨by decide, ?_, ?_⟩
    · rw [Nat.zero_mul]; exact mag_zero
    · rw [Nat.zero_mul, if_pos rfl]
  · rw [if_neg hz]
    have hne : rmR (rmM x y) (rmN x y) * 2 ^ (rmE x y + 1074).toNat ≠ 0 := fun h => by
      rcases Nat.mul_eq_zero.1 h with h | h
      · exact hz h
      · omega
    rw [if_neg hne]
    have hnum : numk (kd (norm (fng x != rmUp (rmM x y) (rmN x y)) (rmR (rmM x y) (rmN x y)) (rmE x y)).neg 0) (norm (fng x != rmUp (rmM x y) (rmN x y)) (rmR (rmM x y) (rmN x y)) (rmE x y)).m (norm (fng x != rmUp (rmM x y) (rmN x y)) (rmR (rmM x y) (rmN x y)) (rmE x y)).e = k := by
      have hb := (norm_bd (fng x != rmUp (rmM x y) (rmN x y)) (rmE x y) hlt).2
      refine numk_exact (t := 0) ?_ _ k hkM ?_
      · rcases hb with hb | hb
        · rw [hb]; decide
        · omega
      · rw [tt_norm _ _ _ _ (by omega), hk, Nat.pow_zero, Nat.mul_one]
        unfold tt; congr 2; omega
    have hneg := norm_neg (fng x != rmUp (rmM x y) (rmN x y)) (rmR (rmM x y) (rmN x y)) (rmE x y) hz
    refine ⟨?_, ?_, ?_⟩
    · rw [fabs_numR, hnum]; omega
    · rw [fabs_numR, hnum, Int.toNat_natCast]; exact hk
    · rw [(fng_numR _ _).2, hneg]
theorem back_of {x r : Int} (x0 : 0 ≤ x) (x1 : x ≤ 18446744073709551615) (r0 : 0 ≤ r) (r1 : r ≤ 18446744073709551615) (h : mag (fabs r).toNat = mag (fabs x).toNat) (hs : fng r = fng x) : r = x := by
  have e := mag_inj h
  rw [← sign_back r0 r1, ← sign_back x0 x1, e, hs]
/-- left again it is itself; it is no more than half; of a multiple nothing is left -/
theorem rest_law {x y : Int} (x0 : 0 ≤ x) (x1 : x ≤ 18446744073709551615) (y0 : 0 ≤ y) (y1 : y ≤ 18446744073709551615) (hr : hasV (remV x y) = true) (hy : hasV y = true) (hym : (valD y).m ≠ 0) :
    2 * mag (fabs (remV x y)).toNat ≤ mag (fabs y).toNat ∧ remV (remV x y) y = remV x y := by
  have hyf : fabs y < 9218868437227405312 := by unfold hasV at hy; simpa using hy
  have hrf : fabs (remV x y) < 9218868437227405312 := by unfold hasV at hr; simpa using hr
  have hy1 : fcls y ≠ 1 := fun h => by rw [valD_z h] at hym; exact hym rfl
  have hy0 : fabs y ≠ 0 := fun h => hy1 (fcls_1 h)
  have fy := fcls_fin hyf
  have by' := fabs_bd y
  have hB : 0 < mag (fabs y).toNat := by
    have := mag_lt (show 0 < (fabs y).toNat by omega); rw [mag_zero] at this; exact this
  have key : ∀ r : Int, 0 ≤ r → r ≤ 18446744073709551615 → fabs r < 9218868437227405312 → 2 * mag (fabs r).toNat ≤ mag (fabs y).toNat → remV r y = r := by
    intro r r0 r1 hrf h
    unfold remV
    by_cases hS : rmS r y = true
    · rw [if_pos hS]
      have fr := fcls_fin hrf
      unfold rmW
      rw [if_neg (by omega)]
    · rw [if_neg hS]
      obtain ⟨v1, v2, v3⟩ := rem_val r0 r1 hrf hyf hy0
      obtain ⟨s1, s2⟩ := rm_self h hB
      rw [s2] at v2 v3
      rw [s1] at v3
      have rb := remV_bd (y := y) r0 r1
      have e : remV r y = remV0 r y := by unfold remV; rw [if_neg hS]
      rw [e] at rb
      refine back_of r0 r1 rb.1 rb.2 v2 ?_
      rw [v3]; split
      · rfl
      · cases fng r <;> rfl
  have hhalf : 2 * mag (fabs (remV x y)).toNat ≤ mag (fabs y).toNat := by
    by_cases hS : rmS x y = true
    · have e1 : remV x y = rmW (fcls x) (fcls y) x := by unfold remV; rw [if_pos hS]
      have hx1 : fcls x = 1 ∧ remV x y = x := by
        have e4 : fcls x = 5 ∨ fcls y = 5 ∨ fcls x = 4 ∨ fcls y = 4 ∨ fcls x = 1 ∨ fcls y = 1 := by unfold rmS at hS; simpa only [Bool.or_eq_true, decide_eq_true_eq] using hS
        unfold rmW at e1
        by_cases hn : fcls x = 5 ∨ fcls y = 5 ∨ fcls x = 4 ∨ fcls y = 1
        · rw [if_pos hn] at e1
          rw [e1] at hrf
          exact absurd hrf (by decide)
        · rw [if_neg hn] at e1
          exact ⟨by omega, e1⟩
      have := fcls_zero hx1.1
      rw [hx1.2, this]
      show 2 * mag 0 ≤ _
      rw [mag_zero]; omega
    · obtain ⟨a5, b5, a4, b4, a1, b1⟩ := rmS_false hS
      obtain ⟨hxf, -⟩ := fin_of_cls a5 a4 a1
      have e1 : remV x y = remV0 x y := by unfold remV; rw [if_neg hS]
      rw [e1]
      obtain ⟨-, v2, -⟩ := rem_val x0 x1 hxf hyf hy0
      rw [v2]
      exact (rm_le hB).2.2
  have rb := remV_bd (y := y) x0 x1
  exact ⟨hhalf, key _ rb.1 rb.2 hrf hhalf⟩
theorem rest_mult {p y : Int} {k : Nat} (p0 : 0 ≤ p) (p1 : p ≤ 18446744073709551615) (hp : fabs p < 9218868437227405312) (hy : fabs y < 9218868437227405312) (hy0 : fabs y ≠ 0) (h : mag (fabs p).toNat = k * mag (fabs y).toNat) : fcls (remV p y) = 1 := by
  have by' := fabs_bd y
  have hB : 0 < mag (fabs y).toNat := by
    have := mag_lt (show 0 < (fabs y).toNat by omega); rw [mag_zero] at this; exact this
  by_cases hS : rmS p y = true
  · have e1 : remV p y = rmW (fcls p) (fcls y) p := by unfold remV; rw [if_pos hS]
    have fp := fcls_fin hp
    have fy := fcls_fin hy
    have hy1 : fcls y ≠ 1 := fun h => hy0 (fcls_zero h)
    have e4 : fcls p = 5 ∨ fcls y = 5 ∨ fcls p = 4 ∨ fcls y = 4 ∨ fcls p = 1 ∨ fcls y = 1 := by unfold rmS at hS; simpa only [Bool.or_eq_true, decide_eq_true_eq] using hS
    rw [e1]
    unfold rmW
    rw [if_neg (by omega)]
    omega
  · have e1 : remV p y = remV0 p y := by unfold remV; rw [if_neg hS]
    obtain ⟨v1, v2, -⟩ := rem_val p0 p1 hp hy hy0
    rw [h, (rm_mult hB).2] at v2
    rw [e1]
    have e2 : mag (fabs (remV0 p y)).toNat = mag 0 := by rw [v2, mag_zero]
    have := mag_inj e2
    have := fabs_bd (remV0 p y)
    exact fcls_1 (by omega)
end Go.Proofs.YthoejmhpgabgdaaDoor
