/-
  THE WALK of span.Hull.
-/
import Derived.Test.YtmpdbmaokbhcjaaGreatDoorSno
import Derived.Deep.RegionHeld3
set_option linter.unusedVariables false
set_option linter.unusedSimpArgs false
namespace Go.Proofs.YtmpdbmaokbhcjaaGreatDoor
open Go.RowKit Nt Fm Fl

theorem Bx2.new3 (w : World) (o p : Obj) (x y : Value) (T : TypeId) : Bx2 (((w.alloc o).alloc p).alloc (.cells #[x, y] T)) (w.heap.size + 1 + 1) T x y := by
  have h := Bx2.new ((w.alloc o).alloc p) x y T
  rw [show ((w.alloc o).alloc p).heap.size = w.heap.size + 1 + 1 from by simp] at h; exact h
theorem Bx2.drew {w : World} {b : Nat} {T : TypeId} {x y : Value} (h : Bx2 w b T x y) : Bx2 w.drew b T x y := h
theorem Bx2.set0 {w : World} {b : Nat} {T : TypeId} {x y : Value} (h : Bx2 w b T x y) (v : Value) : Bx2 (w.setCell ⟨b, 0, none⟩ v) b T v y := heap_set h
theorem Bx2.set1 {w : World} {b : Nat} {T : TypeId} {x y : Value} (h : Bx2 w b T x y) (v : Value) : Bx2 (w.setCell ⟨b, 1, none⟩ v) b T x v := heap_set h
theorem Bx2.set2 {w : World} {b : Nat} {T : TypeId} {x y : Value} (h : Bx2 w b T x y) (x' y' : Value) : Bx2 ((w.setCell ⟨b, 0, none⟩ x').setCell ⟨b, 1, none⟩ y') b T x' y' := (h.set0 x').set1 y'
theorem Bx2.set {w : World} {b b' o : Nat} {T : TypeId} {x y : Value} (h : Bx2 w b T x y) (hb : b ≠ b') (v : Value) : Bx2 (w.setCell ⟨b', o, none⟩ v) b T x y := (Below.heap_setCell _ _ _ _ hb).trans h
def huLo (a b c d : Int) : Int := if spE2 a b c d = 0 then oleast a c 1 else 0
def huHi (a b c d : Int) : Int := if spE2 a b c d = 0 then oleast b d (-1) else 0
end Go.Proofs.YtmpdbmaokbhcjaaGreatDoor
