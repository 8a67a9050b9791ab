/-
  THE WALKS of ulpkeep.lessText, decimalLives.
-/
import Derived.Test.YthkcbjhjhkpclaaDoorSci
import Derived.Test.YthkcbjhjhkpclaaDoorBa
set_option linter.unusedVariables false
set_option linter.unusedSimpArgs false
namespace Go.Proofs.YthkcbjhjhkpclaaDoor
open Go.RowKit Nt Fm Fl

def decG : Nat → Nat → List UInt8 → List UInt8
  | 0, u, acc => UInt8.ofNat (48 + u) :: acc
  | f + 1, u, acc => if u < 10 then UInt8.ofNat (48 + u) :: acc else decG f (u / 10) (UInt8.ofNat (48 + u % 10) :: acc)
theorem decG_eq : ∀ (f u : Nat) (acc : List UInt8), u < 10 ^ (f + 1) → decG f u acc = Lib.decDigits u ++ acc
  | 0, u, acc, h => by rw [dec_small (by simpa using h)]; rfl
  | f + 1, u, acc, h => by
    unfold decG
    split
    · rename_i hu; rw [dec_small hu]; rfl
    · rename_i hu
      rw [decG_eq f _ _ (by rw [Nat.div_lt_iff_lt_mul (by omega), ← Nat.pow_succ]; exact h), dec_big hu, List.append_assoc]; rfl
theorem bless_lt : ∀ (l m : List UInt8), Op.bytesLess l m = true ↔ l < m
  | [], [] => by simp [Op.bytesLess]
  | _ :: _, [] => by simp [Op.bytesLess]
  | [], _ :: _ => by simp [Op.bytesLess]
  | a :: l, b :: m => by
    rw [Op.bytesLess, List.cons_lt_cons_iff, Bool.or_eq_true, Bool.and_eq_true, decide_eq_true_eq, beq_iff_eq, bless_lt l m]
/-- is one text less than another one: by its length, then by its signs -/
def ltBb (s t : List UInt8) : Bool := decide (s.length < t.length) || (decide (s.length = t.length) && Op.bytesLess s t)
theorem ltBb_iff (s t : List UInt8) : ltBb s t = true ↔ ltB s t := by
  unfold ltBb ltB
  rw [Bool.or_eq_true, Bool.and_eq_true, decide_eq_true_eq, decide_eq_true_eq, bless_lt]
/-- 0.1, all of it -/
theorem lv_ex : exE 4591870180066957722 = 0 ∧ exS 4591870180066957722 = [48, 46, 49, 48, 48, 48, 48, 48, 48, 48, 48, 48, 48, 48, 48, 48, 48, 48, 48, 53, 53, 53, 49, 49, 49, 53, 49, 50, 51, 49, 50, 53, 55, 56, 50, 55, 48, 50, 49, 49, 56, 49, 53, 56, 51, 52, 48, 52, 53, 52, 49, 48, 49, 53, 54, 50, 53] := by
  have hv : hasV 4591870180066957722 = true := by kernel_rfl
  have hd : valD 4591870180066957722 = ⟨false, 3602879701896397, -55⟩ := by kernel_rfl
  have hq : qA ⟨false, 3602879701896397, -55⟩ = 1000000000000000055511151231257827021181583404541015625 := by kernel_rfl
  have hp : pl ⟨false, 3602879701896397, -55⟩ = 55 := by kernel_rfl
  have hs : sgS 4591870180066957722 = [] := by kernel_rfl
  have h := decG_eq 60 1000000000000000055511151231257827021181583404541015625 [] (by decide)
  rw [List.append_nil] at h
  refine ⟨by unfold exE; rw [if_pos hv], ?_⟩
  unfold exS
  rw [if_pos hv, hd, hq, hp, hs, ← h]
  kernel_rfl
theorem lv_fx : fxE 13836183955189006336 0 0 = 0 ∧ fxS 13836183955189006336 0 0 = [45, 50] ∧ fxC 13836183955189006336 0 0 = true := by
  have hv : fxE 13836183955189006336 0 0 = 0 := by kernel_rfl
  have hq : dQ (valD 13836183955189006336) 0 0 = 2 := by kernel_rfl
  refine ⟨hv, ?_, by kernel_rfl⟩
  unfold fxS
  rw [if_pos hv, hq, dec_small (by omega)]
  kernel_rfl
theorem lv_sc : scE 4681608360884174848 3 0 = 0 ∧ scS 4681608360884174848 3 0 = [49, 46, 48, 48, 101, 43, 48, 53] := by
  have hv : scE 4681608360884174848 3 0 = 0 := by kernel_rfl
  have hd : valD 4681608360884174848 = ⟨false, 3125, 5⟩ := by kernel_rfl
  have hl : lgD ⟨false, 3125, 5⟩ = 5 := lgD_eq (by unfold IsLg; decide)
  refine ⟨hv, ?_⟩
  unfold scS
  rw [if_pos hv]
  unfold scT dgT dgP dgQ
  rw [hd, hl]
  have hq : dQ ⟨false, 3125, 5⟩ (((Int.toNat 3 : Nat) : Int) - 1 - 5) 0 = 100 := by kernel_rfl
  rw [hq, if_neg (by decide), if_neg (by decide)]
  have h := decG_eq 5 100 [] (by decide)
  rw [List.append_nil] at h
  have h2 := dec_small (r := 5) (by omega)
  have h3 : decG 5 100 [] = [49, 48, 48] := by kernel_rfl
  have h4 : (if Int.toNat 3 < ([49, 48, 48] : List UInt8).length then (5 : Int) + 1 else 5) = 5 := by decide
  unfold dgS pwS
  rw [← h, h3, h4, show (5 : Int).natAbs = 5 from rfl, h2]
  first | rfl | decide
theorem lv_arg : (0 : Int) ≤ 4591870180066957722 ∧ (4591870180066957722 : Int) ≤ 18446744073709551615 ∧ (0 : Int) ≤ 13836183955189006336 ∧ (13836183955189006336 : Int) ≤ 18446744073709551615 ∧ (0 : Int) ≤ 4681608360884174848 ∧ (4681608360884174848 : Int) ≤ 18446744073709551615 := by omega
end Go.Proofs.YthkcbjhjhkpclaaDoor
