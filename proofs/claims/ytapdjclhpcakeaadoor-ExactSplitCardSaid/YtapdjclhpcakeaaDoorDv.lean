/-
  EXACT NUMBERS in memory: what it says that a struct reads as one; the cells of a struct that a call has laid.
-/
import Derived.Test.YtapdjclhpcakeaaDoorNa
import Derived.Test.YtapdjclhpcakeaaDoorBa
set_option linter.unusedVariables false
set_option linter.unusedSimpArgs false
namespace Go.Proofs.YtapdjclhpcakeaaDoor
open Go.RowKit Nt Fm

/-- the struct value v reads as the exact number d -/
def DV (w : World) (v : Value) (d : D) : Prop := ∃ s, v = .agg #[.bool d.neg, s, .int .i64 d.e] ∧ NV w s d.m
theorem DV.below {w w' : World} {v : Value} {d : D} (h : DV w v d) (hb : Below w.heap.size w w') : DV w' v d := by
  obtain ⟨s, h1, h2⟩ := h; exact ⟨s, h1, h2.below hb⟩
theorem DV.zero (w : World) : DV w (.agg #[.bool false, .slice none 0 0, .int .i64 0]) nz := ⟨_, rfl, NV.nil w⟩
/-- a call that tells an exact number, in new memory -/
def RetD (w : World) (d : D) (e : Ending) (w' : World) : Prop := ∃ v, e = .returned v ∧ DV w' v d ∧ Below w.heap.size w w'

/-- the three cells of a struct that the call has laid, behind a call -/
theorem cells3 {w w1 : World} {x y z : Value} {T : TypeId} (hb : Below (w.alloc (.cells #[x, y, z] T)).heap.size (w.alloc (.cells #[x, y, z] T)) w1) :
    w1.cell? ⟨w.heap.size, 0, none⟩ = some x ∧ w1.cell? ⟨w.heap.size, 1, none⟩ = some y ∧ w1.cell? ⟨w.heap.size, 2, none⟩ = some z ∧
    w1.frozen? ⟨w.heap.size, 0, none⟩ = false ∧ w1.frozen? ⟨w.heap.size, 1, none⟩ = false ∧ w1.frozen? ⟨w.heap.size, 2, none⟩ = false := by
  obtain ⟨hc, hf⟩ := below_cells hb
  refine ⟨?_, ?_, ?_, ?_, ?_, ?_⟩
  · rw [hc _ _ (by simp)]; simp [go_sem]
  · rw [hc _ _ (by simp)]; simp [go_sem]
  · rw [hc _ _ (by simp)]; simp [go_sem]
  · rw [hf _ _ (by simp)]; simp [go_sem]
  · rw [hf _ _ (by simp)]; simp [go_sem]
  · rw [hf _ _ (by simp)]; simp [go_sem]

/-- no limb -/
def NoLimb (v : Value) : Prop := ∀ n, v ≠ .int .u32 n
/-- a number is kept where a block without limbs is written -/
theorem NV.other {w1 w2 : World} {B : Nat} (hB : ∀ o, match w1.cell? ⟨B, o, none⟩ with | some v => NoLimb v | none => True) (hs : w1.heap.size ≤ w2.heap.size) (ho : ∀ b, b ≠ B → w2.heap[b]? = w1.heap[b]?) {v : Value} {n : Nat} (h : NV w1 v n) : NV w2 v n := by
  obtain ⟨l, h1, h2, h3, ao, cap, h4, h5, h6, h7⟩ := h
  refine ⟨l, h1, h2, h3, ao, cap, h4, h5, h6, ?_⟩
  rcases h7 with h7 | ⟨b, off, h7, h8, h9⟩
  · exact Or.inl h7
  · by_cases hl : l.length ≤ 0
    · exact Or.inl hl
    · refine Or.inr ⟨b, off, h7, Nat.lt_of_lt_of_le h8 hs, fun i hi => ?_⟩
      have hne : b ≠ B := by
        intro e; subst e
        have a := h9 0 (by omega)
        have b2 := hB (off + 0)
        rw [a] at b2
        exact b2 _ rfl
      rw [← h9 i hi]
      exact World.cell?_of_block (w := w1) (ho b hne)
theorem cells_at {w w1 : World} {x y z : Value} {T : TypeId} (hb : Below (w.alloc (.cells #[x, y, z] T)).heap.size (w.alloc (.cells #[x, y, z] T)) w1) (hx : NoLimb x) (hy : NoLimb y) (hz : NoLimb z) (o : Nat) :
    match w1.cell? ⟨w.heap.size, o, none⟩ with | some v => NoLimb v | none => True := by
  obtain ⟨hc, hf⟩ := below_cells hb
  rw [hc _ _ (by simp)]
  have hg : (w.alloc (.cells #[x, y, z] T)).heap[w.heap.size]? = some (.cells #[x, y, z] T (0, 0)) := heap_alloc_new w _
  rw [cell_of_row _ _ _ _ _ _ hg]
  match o with
  | 0 => simpa using hx
  | 1 => simpa using hy
  | 2 => simpa using hz
  | o + 3 => simp
theorem NV.store3 {w w1 : World} {x y z : Value} {T : TypeId} (hb : Below (w.alloc (.cells #[x, y, z] T)).heap.size (w.alloc (.cells #[x, y, z] T)) w1) (hx : NoLimb x) (hy : NoLimb y) (hz : NoLimb z) (x' y' z' : Value)
    {v : Value} {n : Nat} (h : NV w1 v n) : NV (((w1.setCell ⟨w.heap.size, 0, none⟩ x').setCell ⟨w.heap.size, 1, none⟩ y').setCell ⟨w.heap.size, 2, none⟩ z') v n := by
  refine h.other (cells_at hb hx hy hz) (by simp [World.setCell]) (fun b hne => ?_)
  rw [Below.heap_setCell _ _ _ _ hne, Below.heap_setCell _ _ _ _ hne, Below.heap_setCell _ _ _ _ hne]
theorem Below.store3 {w w1 : World} {x y z : Value} {T : TypeId} (hb : Below (w.alloc (.cells #[x, y, z] T)).heap.size (w.alloc (.cells #[x, y, z] T)) w1) (x' y' z' : Value) :
    Below w.heap.size w (((w1.setCell ⟨w.heap.size, 0, none⟩ x').setCell ⟨w.heap.size, 1, none⟩ y').setCell ⟨w.heap.size, 2, none⟩ z') :=
  (((((Below.refl _ _).alloc (Nat.le_refl _) _).trans (hb.mono (by simp))).setCell (Nat.le_refl _) _).setCell (Nat.le_refl _) _).setCell (Nat.le_refl _) _
theorem noLimb_bool (b : Bool) : NoLimb (.bool b) := by intro n h; cases h
theorem noLimb_slice (ao : Option Addr) (n c : Nat) : NoLimb (.slice ao n c) := by intro m h; cases h
theorem noLimb_i64 (e : Int) : NoLimb (.int .i64 e) := by intro m h; simp at h

end Go.Proofs.YtapdjclhpcakeaaDoor
