/-
  SOME OF MY TEXTS in one: Ck To. Each says what it proves.
-/
import Derived.Test.YthkcbjhjhkpclaaDoorRd2
set_option linter.unusedVariables false
set_option linter.unusedSimpArgs false
/-
  THE WALKS of dyad.bounds, dyad.Check, dyad.Sign: of any struct.
-/
namespace Go.Proofs.YthkcbjhjhkpclaaDoor
open Go.RowKit Nt Fm

/-- the struct value v has these fields -/
def SV (w : World) (v : Value) (neg : Bool) (l : List Nat) (e : Int) : Prop := ∃ s, v = .agg #[.bool neg, s, .int .i64 e] ∧ Lim w s l
theorem SV.below {w w' : World} {v : Value} {neg : Bool} {l : List Nat} {e : Int} (h : SV w v neg l e) (hb : Below w.heap.size w w') : SV w' v neg l e := by
  obtain ⟨s, h1, h2⟩ := h; exact ⟨s, h1, h2.below hb⟩
def chkB (l : List Nat) (e : Int) : Int := if 400 < l.length ∨ e < -10000 ∨ 10000 < e then 2 else 0
def chkE (neg : Bool) (l : List Nat) (e : Int) : Int :=
  if 400 < l.length ∨ e < -10000 ∨ 10000 < e then 2 else if l.length = 0 then (if e ≠ 0 ∨ neg = true then 3 else 0) else if l.getD (l.length - 1) 0 = 0 ∨ l.getD 0 0 % 2 = 0 then 3 else 0

theorem lt_pow {n a b : Nat} (h : n < 2 ^ a) (hab : a ≤ b) : n < 2 ^ b := Nat.lt_of_lt_of_le h (Nat.pow_le_pow_right (by decide) hab)
theorem chkE_form {neg : Bool} {l : List Nat} {e : Int} (hl : Lims l) (h : chkE neg l e = 0) : Nrm l ∧ l.length ≤ 400 ∧ -10000 ≤ e ∧ e ≤ 10000 ∧ (⟨neg, val l, e⟩ : D).Nf ∧ val l < 2 ^ 12800 ∧ (val l = 0 → l = []) := by
  have hbd : l.length ≤ 400 → val l < 2 ^ 12800 := fun h => by
    have h2 : 32 * l.length ≤ 12800 := by omega
    exact @lt_pow (val l) (32 * l.length) 12800 (val_lt hl) h2
  unfold chkE at h
  split at h
  · omega
  · rename_i h1
    have hv := hbd (by omega)
    clear hbd
    split at h
    · rename_i h2
      have := List.length_eq_zero_iff.1 h2; subst this
      split at h
      · omega
      · rename_i h3
        have e1 : e = 0 := by omega
        have e2 : neg = false := by
          cases neg
          · rfl
          · exact absurd (Or.inr rfl) h3
        subst e1 e2
        exact ⟨Nrm.nil, by simp, by omega, by omega, Or.inl rfl, hv, fun _ => rfl⟩
    · rename_i h2
      split at h
      · omega
      · rename_i h3
        have hn : Nrm l := by
          refine ⟨hl, ?_⟩
          rw [List.getLast?_eq_getElem?]
          intro h4
          apply h3; left
          rw [List.getD, h4]; rfl
        refine ⟨hn, by omega, by omega, by omega, Or.inr ?_, ?_, val_eq_zero hn⟩
        · have h5 : l.getD 0 0 % 2 = 1 := by omega
          cases l with
          | nil => simp at h2
          | cons d l => simp only [val]; simp at h5; omega
        · exact hv

/-- what is in order reads as an exact number -/
theorem SV.dv {w : World} {v : Value} {neg : Bool} {l : List Nat} {e : Int} (h : SV w v neg l e) (hc : chkE neg l e = 0) : DV w v ⟨neg, val l, e⟩ := by
  obtain ⟨s, h1, h2⟩ := h
  exact ⟨s, h1, l, (chkE_form h2.1 hc).1, rfl, h2⟩



end Go.Proofs.YthkcbjhjhkpclaaDoor

/-
  THE WALKS of round.To, round.Beside.
-/
namespace Go.Proofs.YthkcbjhjhkpclaaDoor
open Go.RowKit Nt Fm

def roE (c mode : Int) : Int := if c = 0 then (if mode < 0 ∨ 4 < mode then 1 else 0) else c
def roV (c mode : Int) (d : D) : Int := if roE c mode = 0 then numR d mode else 0
def roC (c mode : Int) (d : D) : Bool := if roE c mode = 0 then numC d else false

theorem nf_e {d : D} (h : d.Nf) (hz : d.m = 0) : d.e ≤ 1000 := by
  rcases h with rfl | h
  · show (0 : Int) ≤ 1000; decide
  · omega

end Go.Proofs.YthkcbjhjhkpclaaDoor
