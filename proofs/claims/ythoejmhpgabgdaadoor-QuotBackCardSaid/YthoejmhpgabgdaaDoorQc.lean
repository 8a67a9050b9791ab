/-
  PLAIN: the law of what is left of a quotient. No Go here.
-/
import Derived.Test.YthoejmhpgabgdaaDoorQb
set_option linter.unusedVariables false
set_option linter.unusedSimpArgs false
namespace Go.Proofs.YthoejmhpgabgdaaDoor
open Go.RowKit Nt Fm Fl

def leftD (x y q : Int) : D := plus (valD x) (opp (times (valD y) (valD q)))
theorem hasV_lt {x : Int} (h : hasV x = true) : fabs x < 9218868437227405312 := by unfold hasV at h; simpa using h
theorem left_fs {x y q : Int} (q0 : 0 ≤ q) (q1 : q ≤ 18446744073709551615) : fsD (fneg q) y x = leftD x y q := by
  unfold fsD prD leftD
  rw [valD_fneg q0 q1, times_opp, times_comm (valD q), plus_comm]
theorem left_vl {x y q : Int} (x0 : 0 ≤ x) (x1 : x ≤ 18446744073709551615) (y0 : 0 ≤ y) (y1 : y ≤ 18446744073709551615) (q0 : 0 ≤ q) (q1 : q ≤ 18446744073709551615)
    (hx : fabs x < 9218868437227405312) (hy : fabs y < 9218868437227405312) (hq : fabs q < 9218868437227405312) {K : Nat} (hK : K = 1074) :
    (leftD x y q).vl (1074 + K) = smag x * ((2 ^ K : Nat) : Int) - smag y * smag q ∧ 0 ≤ (leftD x y q).e + ((1074 + K : Nat) : Int) := by
  have e1 : 0 ≤ (valD x).e + ((1074 + K : Nat) : Int) := by have := (valD_facts x x0 x1).2.2.1; omega
  have e2 : (times (valD y) (valD q)).vl (1074 + K) = smag y * smag q ∧ 0 ≤ (times (valD y) (valD q)).e + ((1074 + K : Nat) : Int) := prD_vl' y0 y1 q0 q1 hy hq K hK
  have e3 : (valD x).vl (1074 + K) = smag x * ((2 ^ K : Nat) : Int) := by
    rw [valD_vl x x0 x1 hx K]
    unfold smag
    cases fng x <;> simp [Int.neg_mul]
  have e4 : 0 ≤ (opp (times (valD y) (valD q))).e + ((1074 + K : Nat) : Int) := e2.2
  refine ⟨?_, plus_eT e1 e4⟩
  unfold leftD
  rw [plus_vl _ _ _ e1 e4, opp_vl, e2.1, e3]; omega
theorem m_zero_iff {d : D} (T : Nat) : d.m = 0 ↔ d.vl T = 0 := by
  constructor
  · intro h; exact vl_zero h T
  · intro h
    have := vl_natAbs d T
    rw [h] at this
    have h2 : d.m * 2 ^ (d.e + T).toNat = 0 := this.symm
    rcases Nat.mul_eq_zero.1 h2 with h3 | h3
    · exact h3
    · have := Nat.two_pow_pos (d.e + T).toNat; omega
theorem signs {x y q : Int} {A : Nat} (h : fng q = (fng x != fng y)) : (smag x * (A : Int) - smag y * smag q).natAbs = ((mag (fabs x).toNat : Int) * A - mag (fabs q).toNat * mag (fabs y).toNat).natAbs := by
  unfold smag
  rw [h]
  generalize (mag (fabs x).toNat : Int) = a
  generalize (mag (fabs y).toNat : Int) = b
  generalize (mag (fabs q).toNat : Int) = c
  have e : b * c = c * b := Int.mul_comm _ _
  cases fng x <;> cases fng y <;> simp [Int.neg_mul, Int.mul_neg, e] <;> omega
theorem mag_MR {e : Nat} (he : e = 2045) : 2 ^ (53 + e) ≤ mag MR := by
  have e1 : 4503599627370496 + (e + 1) * 4503599627370496 = MR := by
    have hMR : MR = 9218868437227405312 := rfl
    omega
  clear he
  have := mag_of 4503599627370496 (e + 1) (Or.inl (Nat.le_refl _)) (by decide)
  rw [e1] at this
  rw [this, show 4503599627370496 = 2 ^ 52 by decide, ← Nat.pow_add]
  exact Nat.pow_le_pow_right (by decide) (by omega)
theorem fm_known (x y z : Int) : fmV x y z 0 = fmV0 x y z 0 ∧ fmC x y z 0 = fmC0 x y z := by
  unfold fmV fmC; rw [show knownB 0 = true by decide]; exact ⟨rfl, rfl⟩
theorem fabs_sgn (x y : Int) : fcls (sgn x y) = 1 := fcls_1 (sgn_abs x y)
theorem quotBack_a {x y mode : Int} (x0 : 0 ≤ x) (x1 : x ≤ 18446744073709551615) (y0 : 0 ≤ y) (y1 : y ≤ 18446744073709551615) (hk : knownB mode = true) (hxv : hasV x = true) (hyv : hasV y = true) (hqv : hasV (dvV x y mode) = true) (hym : (valD y).m ≠ 0) :
    (dvC x y mode = false ↔ (leftD x y (dvV x y mode)).m = 0) ∧
    (-1074 ≤ ulE (dvV x y mode) + ulE y → fcls (dvV x y mode) = 3 → fabs (dvV x y mode) ≠ 9218868437227405311 →
      fmC (fneg (dvV x y mode)) y x 0 = false ∧ hasV (fmV (fneg (dvV x y mode)) y x 0) = true ∧ valD (fmV (fneg (dvV x y mode)) y x 0) = leftD x y (dvV x y mode)) := by
  obtain ⟨q0, q1⟩ := dvV_bd x y mode
  rw [(fm_known (fneg (dvV x y mode)) y x).1, (fm_known (fneg (dvV x y mode)) y x).2]
  rw [(dvV_yes hk).1] at hqv q0 q1
  rw [(dvV_yes hk).1, (dvV_yes hk).2.1]
  have hx := hasV_lt hxv
  have hy := hasV_lt hyv
  have hq := hasV_lt hqv
  have fx := fcls_fin hx
  have fy := fcls_fin hy
  have hMR : MR = 9218868437227405312 := rfl
  have hy1 : fcls y ≠ 1 := fun h => by rw [valD_z h] at hym; exact hym rfl
  obtain ⟨K, hK⟩ : ∃ K, K = 1074 := ⟨_, rfl⟩
  by_cases hS : dvS x y = true
  · have h1 : fcls x = 1 := by
      unfold dvS at hS
      simp only [Bool.or_eq_true, decide_eq_true_eq] at hS
      omega
    have hV : dvV0 x y mode = sgn x y := by
      unfold dvV0 dvW
      rw [if_pos hS, if_neg (by omega), if_neg (by omega)]
    have hC : dvC0 x y = false := by unfold dvC0; rw [if_pos hS]
    rw [hV, hC]
    refine ⟨⟨fun _ => ?_, fun _ => rfl⟩, fun _ h _ => ?_⟩
    · unfold leftD
      rw [valD_z h1, valD_z (fabs_sgn x y)]
      have : times (valD y) nz = nz := nf_z (times_Nf _ _) (by rw [m_zero_iff (1074 + 1074), times_vl _ _ 1074 1074 (valD_e y0 y1) (by decide), vl_zero (d := nz) rfl, Int.mul_zero])
      rw [this]; rfl
    · rw [fabs_sgn] at h; exact absurd h (by decide)
  · obtain ⟨a5, b5, a4, b4, a1, b1⟩ := dvS_false hS
    have hxm := m_of_cls x0 x1 a5 a4 a1
    have hV : dvV0 x y mode = numR (dvD x y) mode := by unfold dvV0; rw [if_neg hS]
    have hC : dvC0 x y = numC (dvD x y) := by unfold dvC0; rw [if_neg hS]
    obtain ⟨g1, g2⟩ := fng_numR (dvD x y) mode
    rw [← hV] at g1 g2
    rw [hC]
    clear hV hC
    have hneg : (dvD x y).neg = (fng x != fng y) := by
      show ((valD x).neg != (valD y).neg) = _
      rw [(valD_facts x x0 x1).2.2.2.2 hxm, (valD_facts y y0 y1).2.2.2.2 hym]
    rw [hneg] at g2
    generalize dvV0 x y mode = q at *
    have hqb := fabs_bd q
    obtain ⟨lv, le⟩ := left_vl x0 x1 y0 y1 q0 q1 hx hy hq hK
    have sg := signs (A := 2 ^ K) g2
    obtain ⟨n, hn⟩ : ∃ n, n = (fabs q).toNat := ⟨_, rfl⟩
    rw [← hn] at sg g1
    have hnM : n < MR := by omega
    refine ⟨?_, fun hu hc hm => ?_⟩
    · rw [dv_exact mode x0 x1 y0 y1 hx hy hxm hym hK g1 hnM, m_zero_iff (1074 + K), lv]
      constructor
      · intro h
        have : (smag x * ((2 ^ K : Nat) : Int) - smag y * smag q).natAbs = 0 := by
          rw [sg]
          have h2 : ((mag n * mag (fabs y).toNat : Nat) : Int) = ((mag (fabs x).toNat * 2 ^ K : Nat) : Int) := by rw [h]
          rw [Int.natCast_mul, Int.natCast_mul] at h2
          rw [h2]; simp
        exact Int.natAbs_eq_zero.1 this
      · intro h
        rw [h] at sg
        have h3 : (mag (fabs x).toNat : Int) * ((2 ^ K : Nat) : Int) - mag n * mag (fabs y).toNat = 0 := Int.natAbs_eq_zero.1 sg.symm
        have h4 : ((mag n * mag (fabs y).toNat : Nat) : Int) = ((mag (fabs x).toNat * 2 ^ K : Nat) : Int) := by
          rw [Int.natCast_mul, Int.natCast_mul]; omega
        exact Int.ofNat_inj.1 h4
    · have hn52 : 4503599627370496 ≤ n := by
        rcases Nat.lt_or_ge n 4503599627370496 with h | h
        · exact absurd hc (fcls_not3 (by omega))
        · exact h
      obtain ⟨lo, hi⟩ := dv_bounds mode x0 x1 y0 y1 hx hy hxm hym hK g1 (by omega) (by omega)
      obtain ⟨Qx, jx, hQx, ex, ejx⟩ := mag_q x0 x1 hx
      obtain ⟨Qy, jy, hQy, ey, ejy⟩ := mag_q y0 y1 hy
      have eq : mag n = (4503599627370496 + n % 4503599627370496) * 2 ^ (n / 4503599627370496 - 1) := by unfold mag; rw [if_neg (by omega)]
      have eul : ulp n = 2 ^ (n / 4503599627370496 - 1) := rfl
      have ejq : ((n / 4503599627370496 - 1 : Nat) : Int) = ulE q + 1074 := by
        unfold ulE fexp
        unfold fabs at hn hqb
        omega
      have hsu := mag_succ n
      have hpr := mag_succ (n - 1)
      rw [show n - 1 + 1 = n by omega] at hpr
      have hul : ulp (n - 1) ≤ ulp n := Nat.pow_le_pow_right (by decide) (by omega)
      rw [eul] at hsu hul
      obtain ⟨jq, hjq⟩ : ∃ jq, jq = n / 4503599627370496 - 1 := ⟨_, rfl⟩
      rw [← hjq] at eq hsu hul ejq
      obtain ⟨J, hJ⟩ : ∃ J, jq + jy = K + J := ⟨jq + jy - K, by omega⟩
      have lo' : (mag n - 2 ^ jq) * mag (fabs y).toNat < mag (fabs x).toNat * 2 ^ K := Nat.lt_of_le_of_lt (Nat.mul_le_mul_right _ (by omega)) lo
      rw [hsu] at hi
      obtain ⟨r1, r2, r3⟩ := back_rep ex hQx ey hQy eq (by omega) hJ lo' hi
      obtain ⟨r, hr⟩ := (rep_iff _).1 r1
      have hjx : jx ≤ 2045 := by
        have : fexp x ≤ 2046 := by
          unfold fexp
          unfold fabs at hx
          omega
        unfold ulE at ejx
        omega
      have hrM : r < MR := by
        apply mag_lt_iff.1
        rw [hr] at r2
        obtain ⟨e, he⟩ : ∃ e, e = 2045 := ⟨_, rfl⟩
        refine Nat.lt_of_lt_of_le r2 (Nat.le_trans (Nat.pow_le_pow_right (by decide) (show 53 + jx ≤ 53 + e by omega)) (mag_MR he))
      have habs : ((leftD x y q).vl (1074 + K)).natAbs = mag r * 2 ^ K := by
        have e5 : (mag (fabs x).toNat : Int) * ((2 ^ K : Nat) : Int) = (mag (fabs x).toNat : Int) * 2 ^ K := by simp
        rw [lv, sg, e5, ← r3, Int.natAbs_mul, hr]
        simp
      have hcl : numC (leftD x y q) = false := chg_of2 K le hrM habs
      have hfq : fabs (fneg q) < 9218868437227405312 := by rw [fabs_fneg]; exact hq
      have hsp := spB_fin hfq hy
      have hne : ¬ (fcls x = 5 ∨ (spB (fneg q) y = true ∧ spV (fneg q) y = 9221120237041090560)) := by
        rintro (h | ⟨h, -⟩)
        · exact fx.1 h
        · rw [hsp] at h; cases h
      have hfs : fsD (fneg q) y x = leftD x y q := left_fs q0 q1
      have hNf : (leftD x y q).Nf := plus_Nf _ _
      unfold fmV0 fmC0
      rw [if_neg hne, if_neg hne, hsp]
      simp only [Bool.false_eq_true, if_false, if_neg fx.2]
      rw [hfs]
      by_cases hz : (leftD x y q).m ≠ 0
      · rw [if_pos hz, if_pos hz]
        obtain ⟨v1, v2⟩ := valD_numR hNf 0 hcl
        exact ⟨hcl, v2, v1⟩
      · rw [if_neg hz, if_neg hz]
        have hz' : (leftD x y q).m = 0 := by omega
        have hpr0 : (prD (fneg q) y).m ≠ 0 := by
          intro h
          have hb := fneg_bd q0 q1
          obtain ⟨v, -⟩ := prD_vl' hb.1 hb.2 y0 y1 hfq hy K hK
          rw [vl_zero h] at v
          have v2 : (smag (fneg q) * smag y).natAbs = 0 := by rw [← v]; rfl
          rw [Int.natAbs_mul, smag_abs, smag_abs, fabs_fneg, ← hn] at v2
          rcases Nat.mul_eq_zero.1 v2 with h2 | h2
          · have := mag_lt (show 0 < n by omega); rw [mag_zero] at this; omega
          · have h3 : mag (fabs y).toNat = mag 0 := by rw [h2, mag_zero]
            have h4 := mag_inj h3
            have := fabs_bd y
            exact hy1 (fcls_1 (by omega))
        rw [if_neg hpr0, if_neg hpr0, if_neg (by decide)]
        refine ⟨rfl, by decide, ?_⟩
        rw [nf_z hNf hz']; kernel_rfl
end Go.Proofs.YthoejmhpgabgdaaDoor
