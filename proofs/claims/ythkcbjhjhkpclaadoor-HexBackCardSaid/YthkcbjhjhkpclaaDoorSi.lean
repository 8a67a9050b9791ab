/-
  THE WALKS of decimal.Digits, Power, Sci.
-/
import Derived.Test.YthkcbjhjhkpclaaDoorLg
set_option linter.unusedVariables false
set_option linter.unusedSimpArgs false
namespace Go.Proofs.YthkcbjhjhkpclaaDoor
open Go.RowKit Nt Fm Fl

theorem mid_some {d : D} (h : Mid d) : ∀ n : Nat, ¬ Ge10 d (-400 + n) → ∃ p, IsLg d p
  | 0, hn => absurd (mid_low h) (by simpa using hn)
  | n + 1, hn => by
    by_cases hg : Ge10 d (-400 + n)
    · exact ⟨_, isLg_iff.2 ⟨hg, by rw [show (-400 : Int) + n + 1 = -400 + ((n + 1 : Nat) : Int) by omega]; exact hn⟩⟩
    · exact mid_some h n hg
theorem mid_lg {d : D} (h : Mid d) : IsLg d (lgD d) := Classical.epsilon_spec (mid_some h 800 (mid_high h))
theorem mid_bd {d : D} (h : Mid d) : -400 ≤ lgD d ∧ lgD d ≤ 400 := by
  have h1 := isLg_iff.1 (mid_lg h)
  constructor
  · rcases Int.lt_or_le (lgD d) (-400) with h2 | h2
    · exact absurd (ge_anti (show lgD d + 1 ≤ -400 by omega) (mid_low h)) h1.2
    · exact h2
  · rcases Int.lt_or_le 400 (lgD d) with h2 | h2
    · exact absurd (ge_anti (show (400 : Int) ≤ lgD d by omega) h1.1) (mid_high h)
    · exact h2
/-- the digits, as a number -/
noncomputable def dgQ (d : D) (g : Nat) (mode : Int) : Nat := dQ d ((g : Int) - 1 - lgD d) mode
/-- what Digits tells: the text -/
noncomputable def dgT (d : D) (g : Nat) (mode : Int) : List UInt8 := if d.m = 0 then List.replicate g 48 else dgS (dgQ d g mode) g
/-- .. the exponent -/
noncomputable def dgP (d : D) (g : Nat) (mode : Int) : Int := if d.m = 0 then 0 else if g < (Lib.decDigits (dgQ d g mode)).length then lgD d + 1 else lgD d
/-- .. whether it was changed -/
noncomputable def dgC (d : D) (g : Nat) : Bool := if d.m = 0 then false else dC d ((g : Int) - 1 - lgD d)
def RetSIB (w : World) (s : List UInt8) (p : Int) (b : Bool) (e : Ending) (w' : World) : Prop := e = .returned (.tuple #[.string ⟨s.toArray⟩, .int .i64 p, .bool b]) ∧ Below w.heap.size w w'
theorem ba_take {S : ByteArray} {l : List UInt8} (hS : S = ⟨l.toArray⟩) (g : Nat) : S.extract 0 g = ⟨(l.take g).toArray⟩ := by
  subst hS
  apply ByteArray.ext
  simp [ByteArray.data_extract]
theorem itoaP (n : Nat) (X : Int) (hX : X = (n : Int)) (h : n < 1000000) (w : World) (hT : Tab10 w) :
    Calls Tryd.prog 60 #[.int .i64 X] w fun e w' => e = .returned (.string ⟨(Lib.decDigits n).toArray⟩) ∧ Below w.heap.size w w' := by
  subst hX
  exact itoa_any n (by omega) w hT
theorem ba_mk (a b : List UInt8) {A : ByteArray} (hA : A = ⟨b.toArray⟩) : (⟨a.toArray⟩ : ByteArray) ++ A = ⟨(a ++ b).toArray⟩ := ba_app a b rfl hA
end Go.Proofs.YthkcbjhjhkpclaaDoor
