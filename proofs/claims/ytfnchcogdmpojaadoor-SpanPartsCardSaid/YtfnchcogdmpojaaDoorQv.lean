/-
  THE WALKS of quot.Div, quot.Sqrt.
-/
import Derived.Test.YtfnchcogdmpojaaDoorRx
import Derived.Test.YtfnchcogdmpojaaDoorQb2
import Derived.Test.YtfnchcogdmpojaaDoorBo
set_option linter.unusedVariables false
set_option linter.unusedSimpArgs false
namespace Go.Proofs.YtfnchcogdmpojaaDoor
open Go.RowKit Nt Fm Fl

theorem bl_53 {m : Nat} (h : m < 2 ^ 53) : bl m ≤ 53 := by
  rcases Nat.eq_zero_or_pos m with h0 | h0
  · subst h0; decide
  · have h1 := bl_le (show m ≠ 0 by omega)
    have h2 := (Nat.pow_lt_pow_iff_right (by decide : 1 < 2)).1 (Nat.lt_of_le_of_lt h1 h)
    omega
theorem mark_le1 (r : Nat) : Fm.mark r ≤ 1 := Fm.mark_le r
theorem dvD_bd {x y : Int} (x0 : 0 ≤ x) (x1 : x ≤ 18446744073709551615) (y0 : 0 ≤ y) (y1 : y ≤ 18446744073709551615) (hx : (valD x).m ≠ 0) (hy : (valD y).m ≠ 0) :
    (dvD x y).m < 2 ^ 190 ∧ -3000 ≤ (dvD x y).e ∧ (dvD x y).e ≤ 3000 ∧ (dvD x y).m ≠ 0 := by
  obtain ⟨f1, f2, f3, f4, -⟩ := valD_facts x x0 x1
  obtain ⟨g1, g2, g3, g4, -⟩ := valD_facts y y0 y1
  have e0 : (dvD x y).m = 4 * ((valD x).m * 2 ^ qk (valD x).m (valD y).m / (valD y).m) + Fm.mark ((valD x).m * 2 ^ qk (valD x).m (valD y).m % (valD y).m) := rfl
  have e1 : (dvD x y).e = (valD x).e - (valD y).e - qk (valD x).m (valD y).m - 2 := rfl
  have hb := ratio_big hx hy
  have hq : qk (valD x).m (valD y).m ≤ 133 := by have := bl_53 g2; unfold qk; omega
  have hmk := mark_le1 ((valD x).m * 2 ^ qk (valD x).m (valD y).m % (valD y).m)
  have hlt : (valD x).m * 2 ^ qk (valD x).m (valD y).m / (valD y).m < 2 ^ 186 := by
    refine Nat.lt_of_le_of_lt (Nat.div_le_self _ _) ?_
    have h1 : 2 ^ qk (valD x).m (valD y).m ≤ 2 ^ 133 := Nat.pow_le_pow_right (by decide) hq
    calc (valD x).m * 2 ^ qk (valD x).m (valD y).m ≤ (valD x).m * 2 ^ 133 := Nat.mul_le_mul_left _ h1
      _ < 2 ^ 53 * 2 ^ 133 := Nat.mul_lt_mul_of_pos_right f2 (by decide)
      _ = 2 ^ 186 := by rw [← Nat.pow_add]
  generalize (valD x).m * 2 ^ qk (valD x).m (valD y).m / (valD y).m = q at *
  rw [e0, e1]
  refine ⟨?_, by omega, by omega, by omega⟩
  have : (2 : Nat) ^ 190 = 16 * 2 ^ 186 := by decide
  omega
theorem sqD_bd {x : Int} (x0 : 0 ≤ x) (x1 : x ≤ 18446744073709551615) (hx : (valD x).m ≠ 0) :
    (sqD x).m < 2 ^ 190 ∧ -3000 ≤ (sqD x).e ∧ (sqD x).e ≤ 3000 ∧ (sqD x).m ≠ 0 := by
  obtain ⟨f1, f2, f3, f4, -⟩ := valD_facts x x0 x1
  have hr := isq_root ((valD x).m * 2 ^ rk (valD x).e)
  have hb := root_big hx hr
  have e0 : (sqD x).m = 4 * isq ((valD x).m * 2 ^ rk (valD x).e) + Fm.mark ((valD x).m * 2 ^ rk (valD x).e - isq ((valD x).m * 2 ^ rk (valD x).e) * isq ((valD x).m * 2 ^ rk (valD x).e)) := rfl
  have e1 : (sqD x).e = ((valD x).e - rk (valD x).e) / 2 - 2 := rfl
  have hk : rk (valD x).e ≤ 161 := by unfold rk; split <;> omega
  have hC : (valD x).m * 2 ^ rk (valD x).e < 2 ^ 214 := by
    have h1 : 2 ^ rk (valD x).e ≤ 2 ^ 161 := Nat.pow_le_pow_right (by decide) hk
    calc (valD x).m * 2 ^ rk (valD x).e ≤ (valD x).m * 2 ^ 161 := Nat.mul_le_mul_left _ h1
      _ < 2 ^ 53 * 2 ^ 161 := Nat.mul_lt_mul_of_pos_right f2 (by decide)
      _ = 2 ^ 214 := by rw [← Nat.pow_add]
  have hI := isq_pow hC
  have hmk := mark_le1 ((valD x).m * 2 ^ rk (valD x).e - isq ((valD x).m * 2 ^ rk (valD x).e) * isq ((valD x).m * 2 ^ rk (valD x).e))
  rw [e0, e1]
  generalize isq ((valD x).m * 2 ^ rk (valD x).e) = q at *
  refine ⟨?_, by omega, by omega, by omega⟩
  have h1 : (2 : Nat) ^ ((214 + 1) / 2) = 2 ^ 107 := by decide
  have h2 : (2 : Nat) ^ 190 = 2 ^ 83 * 2 ^ 107 := by decide
  omega
def dvWa (a b s : Int) : Int := if a = 5 ∨ b = 5 ∨ (a = 4 ∧ b = 4) ∨ (a = 1 ∧ b = 1) then 9221120237041090560 else if a = 4 ∨ b = 1 then 9218868437227405312 + s else s
theorem ret_ubi {a b : Int} {c d : Bool} {e : Int} (h : a = b) (k : c = d) : Ending.returned (.tuple #[.int .u64 a, .bool c, .int .i64 e]) = .returned (.tuple #[.int .u64 b, .bool d, .int .i64 e]) := by rw [h, k]
set_option maxRecDepth 100000 in
set_option maxHeartbeats 8000000 in
theorem qdiv_any (x y mode : Int) (x0 : 0 ≤ x) (x1 : x ≤ 18446744073709551615) (y0 : 0 ≤ y) (y1 : y ≤ 18446744073709551615) (w : World) (hT : Tab w) :
    Calls Tryd.prog 27 #[.int .u64 x, .int .u64 y, .int .i64 mode] w fun e w' => e = .returned (.tuple #[.int .u64 (dvV x y mode), .bool (dvC x y mode), .int .i64 (adE mode)]) ∧ Below w.heap.size w w' := by
  cases hk : knownB mode
  · obtain ⟨e1, e2, e3⟩ := @dvV_no x y mode hk
    rw [e1, e2, e3]; clear e1 e2 e3 hT
    go_enter Tryd.func27, Tryd.ntmps27
    go_wp2_with (go_at_call 53; refine (known_any _ _).mono ?_; rintro e w' ⟨rfl, rfl⟩)
    go_ret3
    exact ⟨rfl, Below.refl _ _⟩
  · obtain ⟨e1, e2, e3⟩ := @dvV_yes x y mode hk
    rw [e1, e2, e3]; clear e1 e2 e3
    have hm : 0 ≤ mode ∧ mode ≤ 4 := by unfold knownB at hk; simpa using hk
    have h3 := or_inf_sgn x y
    have CX := Lib.hid (fun w' => class_any x x0 x1 w')
    have CY := Lib.hid (fun w' => class_any y y0 y1 w')
    have SG := Lib.hid (fun w' => psign_any x y x0 x1 y0 y1 w')
    by_cases hS : dvS x y = true
    · have e1 : dvV0 x y mode = dvWa (fcls x) (fcls y) (sgn x y) := by unfold dvV0; rw [if_pos hS]; rfl
      have e2 : dvC0 x y = false := by unfold dvC0; rw [if_pos hS]
      have e4 : fcls x = 5 ∨ fcls y = 5 ∨ fcls x = 4 ∨ fcls y = 4 ∨ fcls x = 1 ∨ fcls y = 1 := by unfold dvS at hS; simpa only [Bool.or_eq_true, decide_eq_true_eq] using hS
      rw [e1, e2]
      clear e1 e2 hS hT
      generalize sgn x y = s at *
      generalize fcls x = a at *
      generalize fcls y = b at *
      go_enter Tryd.func27, Tryd.ntmps27
      go_wp2_with (first
        | (go_at_call 53; refine (known_any _ _).mono ?_; rintro e w' ⟨rfl, rfl⟩)
        | (go_at_call 29; first | ((with_reducible refine (CX.out _).mono ?_); rintro e w' ⟨rfl, rfl⟩) | ((with_reducible refine (CY.out _).mono ?_); rintro e w' ⟨rfl, rfl⟩))
        | (go_at_call 57; (with_reducible refine (SG.out _).mono ?_); rintro e w' ⟨rfl, rfl⟩)
        | (go_at_call 60; exfalso; clear CX CY SG; simp only [beq_iff_eq, beq_eq_false_iff_ne, ne_eq] at *; omega))
      all_goals
        go_ret3
        refine ⟨ret_ubi ?_ rfl, Below.refl _ _⟩
      all_goals (clear CX CY SG; try simp only [beq_iff_eq, beq_eq_false_iff_ne, ne_eq] at *)
      all_goals (unfold dvWa; first | rw [if_pos (by omega)] | rw [if_neg (by omega), if_pos (by omega)] | rw [if_neg (by omega), if_neg (by omega)])
    · obtain ⟨a5, b5, a4, b4, a1, b1⟩ := dvS_false hS
      have e1 : dvV0 x y mode = numR (dvD x y) mode := by unfold dvV0; rw [if_neg hS]
      have e2 : dvC0 x y = numC (dvD x y) := by unfold dvC0; rw [if_neg hS]
      rw [e1, e2]
      have hmx := m_of_cls x0 x1 a5 a4 a1
      have hmy := m_of_cls y0 y1 b5 b4 b1
      obtain ⟨d1, d2, d3, d4⟩ := dvD_bd x0 x1 y0 y1 hmx hmy
      obtain ⟨f1, f2, f3, f4, -⟩ := valD_facts x x0 x1
      obtain ⟨g1, g2, g3, g4, -⟩ := valD_facts y y0 y1
      have VX := Lib.hid (fun w' h => value_any x x0 x1 w' h)
      have VY := Lib.hid (fun w' h => value_any y y0 y1 w' h)
      have RA := Lib.hid (fun vc vd w' (hc : DV w' vc (valD x)) (hd : DV w' vd (valD y)) => ratio_any vc vd (valD x) (valD y) 53 w' hc hd f2 g2 hmy (by omega) (by omega) (by omega) (by omega) (by omega))
      have hRD : ratD ((valD x).neg != (valD y).neg) (valD x).m (valD y).m ((valD x).e - (valD y).e) = dvD x y := rfl
      rw [hRD] at RA
      have NU := Lib.hid (fun v w' (h : DV w' v (dvD x y)) => number_any v (dvD x y) 190 mode w' h d1 (by omega) (by omega) (by omega) (fun h => absurd h d4) hm.1 hm.2)
      have c1 : (fcls x == 5) = false := by rw [beq_eq_false_iff_ne]; exact a5
      have c2 : (fcls y == 5) = false := by rw [beq_eq_false_iff_ne]; exact b5
      have c3 : (fcls x == 4) = false := by rw [beq_eq_false_iff_ne]; exact a4
      have c4 : (fcls y == 4) = false := by rw [beq_eq_false_iff_ne]; exact b4
      have c5 : (fcls x == 1) = false := by rw [beq_eq_false_iff_ne]; exact a1
      have c6 : (fcls y == 1) = false := by rw [beq_eq_false_iff_ne]; exact b1
      have HT := Lib.hid hT
      clear hT e1 e2 hS hRD d1 d2 d3 d4 f1 f2 f3 f4 g1 g2 g3 g4 hmx hmy a5 b5 a4 b4 a1 b1
      generalize numR (dvD x y) mode = nR at *
      generalize numC (dvD x y) = nC at *
      generalize dvD x y = Q at *
      generalize valD x = vx at *
      generalize valD y = vy at *
      generalize fcls x = a at *
      generalize fcls y = b at *
      generalize sgn x y = s at *
      go_enter Tryd.func27, Tryd.ntmps27
      go_wp2_with (first
        | (go_at_call 53; refine (known_any _ _).mono ?_; rintro e w' ⟨rfl, rfl⟩)
        | (go_at_call 29; first | ((with_reducible refine (CX.out _).mono ?_); rintro e w' ⟨rfl, rfl⟩) | ((with_reducible refine (CY.out _).mono ?_); rintro e w' ⟨rfl, rfl⟩))
        | (go_at_call 57; (with_reducible refine (SG.out _).mono ?_); rintro e w' ⟨rfl, rfl⟩))
      refine (VX.out _ HT.out).mono ?_
      rintro r w1 ⟨v1, rfl, h1, hb⟩
      have V1 := Lib.hid h1
      have B1 : Hid (Below w.heap.size w w1) := Lib.hid hb
      clear h1 hb
      go_wp2_with fail
      refine (VY.out _ (HT.out.below B1.out)).mono ?_
      rintro r w2 ⟨v2, rfl, h2, hb⟩
      have V1' := Lib.hid (V1.out.below hb)
      have V2 := Lib.hid h2
      have B2 := Lib.hid (bl_thru B1.out (Nat.le_refl _) hb)
      clear h2 hb
      go_wp2_with fail
      refine (RA.out _ _ _ V1'.out V2.out).mono ?_
      rintro r w3 ⟨v3, rfl, h3, hb⟩
      have V3 := Lib.hid h3
      have B3 := Lib.hid (bl_thru B2.out (Nat.le_refl _) hb)
      clear h3 hb
      go_wp2_with fail
      refine (NU.out _ _ V3.out).mono ?_
      rintro r w4 ⟨rfl, hb⟩
      have B4 := Lib.hid (bl_thru B3.out (Nat.le_refl _) hb)
      clear hb
      go_wp2
      go_ret3
      exact ⟨rfl, B4.out⟩
def sqWa (a : Int) (n : Bool) (x : Int) : Int := if a = 5 ∨ (n = true ∧ a ≠ 1) then 9221120237041090560 else x
end Go.Proofs.YtfnchcogdmpojaaDoor
