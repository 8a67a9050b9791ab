/-
  PLAIN: a product and a number: how great.
-/
import Derived.Test.YtapdjclhpcakeaaDoorPd
import Derived.Test.YtapdjclhpcakeaaDoorPl
import Derived.Test.YtapdjclhpcakeaaDoorBp
set_option linter.unusedVariables false
set_option linter.unusedSimpArgs false
namespace Go.Proofs.YtapdjclhpcakeaaDoor
open Go.RowKit Nt Fm Fl

theorem fmV_no {x y z mode : Int} (hk : knownB mode = false) : fmV x y z mode = 0 ∧ fmC x y z mode = false ∧ adE mode = 1 := by unfold fmV fmC adE; rw [hk]; exact ⟨rfl, rfl, rfl⟩
theorem fmV_yes {x y z mode : Int} (hk : knownB mode = true) : fmV x y z mode = fmV0 x y z mode ∧ fmC x y z mode = fmC0 x y z ∧ adE mode = 0 := by unfold fmV fmC adE; rw [hk]; exact ⟨rfl, rfl, rfl⟩
theorem adV_yes {x y mode : Int} (hk : knownB mode = true) : adV x y mode = allV [x, y] mode ∧ adC x y mode = allC [x, y] := by
  unfold adV adC; rw [hk]; exact ⟨rfl, rfl⟩
theorem fsD_bd (x y z : Int) (x0 : 0 ≤ x) (x1 : x ≤ 18446744073709551615) (y0 : 0 ≤ y) (y1 : y ≤ 18446744073709551615) (z0 : 0 ≤ z) (z1 : z ≤ 18446744073709551615) :
    ∃ q, q ≤ 10000 ∧ (fsD x y z).m < 2 ^ q ∧ -4000 ≤ (fsD x y z).e ∧ (fsD x y z).e ≤ 14000 := by
  obtain ⟨p1, p2, p3⟩ := prD_bd x y x0 x1 y0 y1
  obtain ⟨f1, f2, f3, f4, -⟩ := valD_facts z z0 z1
  unfold fsD
  generalize prD x y = P at *
  generalize valD z = V at *
  obtain ⟨T, hT⟩ : ∃ T : Nat, T = 3000 := ⟨_, rfl⟩
  have e1 : 0 ≤ P.e + (T : Int) := by omega
  have e2 : 0 ≤ V.e + (T : Int) := by omega
  have hv := plus_vl P V T e1 e2
  have he := plus_eT e1 e2
  have hn := plus_Nf P V
  have hb : ((plus P V).vl T).natAbs < 2 ^ (T + 6108) := by
    rw [hv]
    have a : (P.vl T).natAbs < 2 ^ (T + 6107) := by
      rw [vl_natAbs, show T + 6107 = 106 + (T + 6001) by omega, Nat.pow_add]
      exact Nat.lt_of_lt_of_le (Nat.mul_lt_mul_of_pos_right p1 (Nat.two_pow_pos _)) (Nat.mul_le_mul_left _ (Nat.pow_le_pow_right (by decide) (by omega)))
    have b : (V.vl T).natAbs < 2 ^ (T + 6107) := by
      rw [vl_natAbs, show T + 6107 = 53 + (T + 6054) by omega, Nat.pow_add]
      exact Nat.lt_of_lt_of_le (Nat.mul_lt_mul_of_pos_right f2 (Nat.two_pow_pos _)) (Nat.mul_le_mul_left _ (Nat.pow_le_pow_right (by decide) (by omega)))
    have c : 2 ^ (T + 6108) = 2 * 2 ^ (T + 6107) := by rw [show T + 6108 = (T + 6107) + 1 by omega, Nat.pow_succ, Nat.mul_comm]
    rw [c]
    generalize 2 ^ (T + 6107) = Z at *
    omega
  rw [vl_natAbs] at hb
  generalize plus P V = S at *
  refine ⟨T + 6108, by omega, ?_, by omega, ?_⟩
  · have := Nat.two_pow_pos (S.e + (T : Int)).toNat
    exact Nat.lt_of_le_of_lt (Nat.le_mul_of_pos_right _ this) hb
  · by_cases hz : S.m = 0
    · rcases hn with h | h
      · rw [h]; decide
      · omega
    · have : 2 ^ (S.e + (T : Int)).toNat ≤ S.m * 2 ^ (S.e + (T : Int)).toNat := Nat.le_mul_of_pos_left _ (by omega)
      have := (Nat.pow_lt_pow_iff_right (by decide : 1 < 2)).1 (Nat.lt_of_le_of_lt this hb)
      omega
def zeV (b : Bool) : Int := if b = true then 9223372036854775808 else 0
theorem zero_any' (neg : Bool) (w : World) : Calls Tryd.prog 124 #[.bool neg] w fun e w' => e = .returned (.int .u64 (zeV neg)) ∧ w = w' := zero_any neg w
end Go.Proofs.YtapdjclhpcakeaaDoor
