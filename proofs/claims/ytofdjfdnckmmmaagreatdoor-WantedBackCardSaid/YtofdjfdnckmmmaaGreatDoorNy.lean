/-
  WHAT IS HANDED IN AS A NUMBER: what Check says of it; the number. The walk of nat.check at two.
-/
import Derived.Test.YtofdjfdnckmmmaaGreatDoorNa
import Derived.Test.YtofdjfdnckmmmaaGreatDoorNat7
import Derived.Deep.LoopGhost
set_option linter.unusedVariables false
set_option linter.unusedSimpArgs false
namespace Go.Proofs.YtofdjfdnckmmmaaGreatDoor
open Go.RowKit Nt

theorem lt_blen (n : Nat) : n < 2 ^ blen n := by
  unfold blen
  split
  · omega
  · exact Nat.lt_log2_self
theorem blen_le_of {n k : Nat} (h : n < 2 ^ k) : blen n ≤ k := by
  unfold blen
  split
  · omega
  · have := (Nat.log2_lt (by assumption)).2 h
    omega
/-- what Check says of a number -/
def ckN (n : Nat) : Int := if blen n ≤ 12800 then 0 else 2
theorem ckN_zero {n : Nat} : ckN n = 0 ↔ blen n ≤ 12800 := by unfold ckN; split <;> simp_all
/-- a slice of which Check says c; if it says nothing, the number is n -/
def NA (w : World) (v : Value) (c : Int) (n : Nat) : Prop := ∃ l, Lim w v l ∧ checkN l = c ∧ (c = 0 → Nrm l ∧ val l = n ∧ blen n ≤ 12800)
theorem NA.nv {w : World} {v : Value} {c : Int} {n : Nat} (h : NA w v c n) (hc : c = 0) : NV w v n ∧ blen n ≤ 12800 := by
  obtain ⟨l, h1, h2, h3⟩ := h
  obtain ⟨h4, h5, h6⟩ := h3 hc
  exact ⟨⟨l, h4, h5, h1⟩, h6⟩
theorem nrm_400 {l : List Nat} (h : Nrm l) : l.length ≤ 400 ↔ blen (val l) ≤ 12800 := by
  constructor
  · intro hl
    have h1 := val_lt h.1
    exact Nat.le_trans (blen_le_of h1) (by omega)
  · intro hb
    have := h.len (lt_blen (val l))
    omega
theorem NA.ofLim {w : World} {v : Value} {l : List Nat} (h : Lim w v l) : NA w v (checkN l) (val l) := by
  refine ⟨l, h, rfl, fun hc => ?_⟩
  obtain ⟨h1, h2⟩ := checkN_nrm hc h.1
  exact ⟨h1, rfl, (nrm_400 h1).1 h2⟩
theorem NA.ofNV {w : World} {v : Value} {n : Nat} (h : NV w v n) : NA w v (ckN n) n := by
  obtain ⟨l, h1, h2, h3⟩ := h
  refine ⟨l, h3, ?_, fun hc => ⟨h1, h2, ckN_zero.1 hc⟩⟩
  subst h2
  unfold checkN ckN
  by_cases hl : l.length ≤ 400
  · rw [if_neg (by omega), if_neg h1.2, if_pos ((nrm_400 h1).1 hl)]
  · rw [if_pos (by omega), if_neg (fun hb => hl ((nrm_400 h1).2 hb))]
theorem NA.below {w w' : World} {v : Value} {c : Int} {n : Nat} (h : NA w v c n) (hb : Below w.heap.size w w') : NA w' v c n := by
  obtain ⟨l, h1, h2, h3⟩ := h
  exact ⟨l, h1.below hb, h2, h3⟩
theorem NA.alloc {w : World} {v : Value} {c : Int} {n : Nat} (h : NA w v c n) (o : Obj) : NA (w.alloc o) v c n := h.below ((Below.refl _ _).alloc (Nat.le_refl _) o)
theorem NA.shape {w : World} {v : Value} {c : Int} {n : Nat} (h : NA w v c n) : ∃ (ao : Option Addr) (k cc : Nat), v = .slice ao k cc := by
  obtain ⟨l, ⟨-, ao, cap, h1, -⟩, -⟩ := h
  exact ⟨ao, _, cap, h1⟩
/-- of two -/
def e2 (x y : Int) : Int := if x = 0 then y else x
theorem e2_zero {x y : Int} : e2 x y = 0 ↔ x = 0 ∧ y = 0 := by unfold e2; split <;> omega
end Go.Proofs.YtofdjfdnckmmmaaGreatDoor
