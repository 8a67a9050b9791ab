/-
  THE WALK of decimal.Sci.
-/
import Derived.Test.YthkcbjhjhkpclaaDoorSi
set_option linter.unusedVariables false
set_option linter.unusedSimpArgs false
namespace Go.Proofs.YthkcbjhjhkpclaaDoor
open Go.RowKit Nt Fm Fl

/-- what Sci tells: the error -/
def scE (x digits mode : Int) : Int := if hasV x = true then (if (0 ≤ mode ∧ mode ≤ 4) ∧ 1 ≤ digits ∧ digits ≤ 800 then 0 else 1) else 4
/-- .. the text -/
noncomputable def scT (x : Int) (g : Nat) (mode : Int) : List UInt8 := sgS x ++ (pt (dgT (valD x) g mode) (g - 1) ++ ([101] ++ pwS (dgP (valD x) g mode)))
noncomputable def scS (x digits mode : Int) : List UInt8 := if scE x digits mode = 0 then scT x digits.toNat mode else []
/-- .. whether it was changed -/
noncomputable def scC (x digits mode : Int) : Bool := decide (scE x digits mode = 0) && dgC (valD x) digits.toNat
theorem scE_cases (x digits mode : Int) : (hasV x = false ∧ scE x digits mode = 4) ∨ (hasV x = true ∧ ¬ ((0 ≤ mode ∧ mode ≤ 4) ∧ 1 ≤ digits ∧ digits ≤ 800) ∧ scE x digits mode = 1) ∨ (hasV x = true ∧ ((0 ≤ mode ∧ mode ≤ 4) ∧ 1 ≤ digits ∧ digits ≤ 800) ∧ scE x digits mode = 0) := by
  unfold scE
  cases hasV x
  · left; simp
  · right
    by_cases h : (0 ≤ mode ∧ mode ≤ 4) ∧ 1 ≤ digits ∧ digits ≤ 800
    · right; exact ⟨rfl, h, by rw [if_pos rfl, if_pos h]⟩
    · left; exact ⟨rfl, h, by rw [if_pos rfl, if_neg h]⟩
theorem val_mid {x : Int} (x0 : 0 ≤ x) (x1 : x ≤ 18446744073709551615) : (valD x).m = 0 ∨ Mid (valD x) := by
  obtain ⟨f1, f2, f3, f4, f5⟩ := valD_facts x x0 x1
  by_cases h : (valD x).m = 0
  · exact Or.inl h
  · exact Or.inr ⟨h, by omega, by omega, by omega⟩
theorem dgT_len {d : D} (hm : d.m = 0 ∨ Mid d) {g : Nat} (g1 : 1 ≤ g) (mode : Int) : (dgT d g mode).length = g := by
  unfold dgT
  by_cases h : d.m = 0
  · rw [if_pos h]; simp
  · rw [if_neg h]
    obtain ⟨b0, b1⟩ := dg_bd (mid_lg (hm.resolve_left h)) g g1 mode
    exact (dgS_spec g1 b0 b1).1
theorem dgP_bd {d : D} (hm : d.m = 0 ∨ Mid d) (g : Nat) (mode : Int) : -400 ≤ dgP d g mode ∧ dgP d g mode ≤ 401 := by
  unfold dgP
  by_cases h : d.m = 0
  · rw [if_pos h]; omega
  · rw [if_neg h]
    obtain ⟨b0, b1⟩ := mid_bd (hm.resolve_left h)
    split <;> omega
theorem pwS_le (p : Int) (h : p.natAbs < 100000) : (pwS p).length ≤ 10 := by
  have h1 := dec_len_le 5 p.natAbs (by omega) (by omega)
  have h2 : ∀ b : Bool, ((if b = true then [48] else []) : List UInt8).length ≤ 1 := by intro b; cases b <;> simp
  have h3 := h2 (decide (p.natAbs < 10))
  simp only [decide_eq_true_eq] at h3
  unfold pwS
  rw [List.length_cons, List.length_append]
  omega
end Go.Proofs.YthkcbjhjhkpclaaDoor
