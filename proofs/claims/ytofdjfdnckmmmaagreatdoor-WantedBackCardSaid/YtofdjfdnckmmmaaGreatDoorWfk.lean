/-
  THE WALK of wanted.Format, a theorem a way.
-/
import Derived.Test.YtofdjfdnckmmmaaGreatDoorWfl
import Derived.Deep.RegionHeld3
set_option linter.unusedVariables false
set_option linter.unusedSimpArgs false
namespace Go.Proofs.YtofdjfdnckmmmaaGreatDoor
open Go.Shelf Go.RowKit Go.Lib Nt Fm Fl

theorem repL_one (b : UInt8) : ∀ c : Nat, repeatL [b] c = List.replicate c b
  | 0 => rfl
  | c + 1 => by
    show [b] ++ repeatL [b] c = _
    rw [repL_one b c, List.replicate_succ]
    rfl
theorem Bx8.below' {w w0 w' : World} {b : Nat} {T : TypeId} {v : Int} {mi pl bl ze al : Bool} {wd pr : Int} (h : Bx8 w b T v mi pl bl ze al wd pr) (hb : Below w0.heap.size w0 w') (e : w0.heap = w.heap) : Bx8 w' b T v mi pl bl ze al wd pr :=
  Bx8.below (w := w0) (by unfold Bx8 at *; rw [e]; exact h) hb
theorem repB_any (b : UInt8) (c : Nat) (X : Int) (hX : X = (c : Int)) (h : c ≤ 1000) (w : World) :
    Calls Tryz.prog 26 #[.string ⟨#[b]⟩, .int .i64 X] w fun e w' => e = .returned (.string ⟨(List.replicate c b).toArray⟩) ∧ Below w.heap.size w w' := by
  subst hX
  have h := Any.strings_Repeat Tryz.laysRepeat extraRepeat ⟨#[b]⟩ c w (by omega) (by show 1 * c ≤ _; omega)
  rw [fRepeat] at h
  refine h.mono ?_
  rintro e w' ⟨rfl, hb⟩
  exact ⟨by rw [show (ByteArray.mk #[b]).data.toList = [b] from rfl, repL_one], hb⟩

end Go.Proofs.YtofdjfdnckmmmaaGreatDoor
