/-
  SOME OF MY TEXTS in one: Dv Aid Fd. Each says what it proves.
-/
import Derived.Test.YtofdjfdnckmmmaaGreatDoorNa
import Derived.Test.YtofdjfdnckmmmaaGreatDoorBa
set_option linter.unusedVariables false
set_option linter.unusedSimpArgs false
/-
  EXACT NUMBERS in memory: what it says that a struct reads as one; the cells of a struct that a call has laid.
-/
namespace Go.Proofs.YtofdjfdnckmmmaaGreatDoor
open Go.RowKit Nt Fm

/-- the struct value v reads as the exact number d -/
def DV (w : World) (v : Value) (d : D) : Prop := ∃ s, v = .agg #[.bool d.neg, s, .int .i64 d.e] ∧ NV w s d.m
theorem DV.below {w w' : World} {v : Value} {d : D} (h : DV w v d) (hb : Below w.heap.size w w') : DV w' v d := by
  obtain ⟨s, h1, h2⟩ := h; exact ⟨s, h1, h2.below hb⟩
theorem DV.zero (w : World) : DV w (.agg #[.bool false, .slice none 0 0, .int .i64 0]) nz := ⟨_, rfl, NV.nil w⟩
/-- a call that tells an exact number, in new memory -/
def RetD (w : World) (d : D) (e : Ending) (w' : World) : Prop := ∃ v, e = .returned v ∧ DV w' v d ∧ Below w.heap.size w w'

/-- the three cells of a struct that the call has laid, behind a call -/
theorem cells3 {w w1 : World} {x y z : Value} {T : TypeId} (hb : Below (w.alloc (.cells #[x, y, z] T)).heap.size (w.alloc (.cells #[x, y, z] T)) w1) :
    w1.cell? ⟨w.heap.size, 0, none⟩ = some x ∧ w1.cell? ⟨w.heap.size, 1, none⟩ = some y ∧ w1.cell? ⟨w.heap.size, 2, none⟩ = some z ∧
    w1.frozen? ⟨w.heap.size, 0, none⟩ = false ∧ w1.frozen? ⟨w.heap.size, 1, none⟩ = false ∧ w1.frozen? ⟨w.heap.size, 2, none⟩ = false := by
  obtain ⟨hc, hf⟩ := below_cells hb
  refine ⟨?_, ?_, ?_, ?_, ?_, ?_⟩
  · rw [hc _ _ (by simp)]; simp [go_sem]
  · rw [hc _ _ (by simp)]; simp [go_sem]
  · rw [hc _ _ (by simp)]; simp [go_sem]
  · rw [hf _ _ (by simp)]; simp [go_sem]
  · rw [hf _ _ (by simp)]; simp [go_sem]
  · rw [hf _ _ (by simp)]; simp [go_sem]

/-- no limb -/
def NoLimb (v : Value) : Prop := ∀ n, v ≠ .int .u32 n
/-- a number is kept where a block without limbs is written -/
theorem NV.other {w1 w2 : World} {B : Nat} (hB : ∀ o, match w1.cell? ⟨B, o, none⟩ with | some v => NoLimb v | none => True) (hs : w1.heap.size ≤ w2.heap.size) (ho : ∀ b, b ≠ B → w2.heap[b]? = w1.heap[b]?) {v : Value} {n : Nat} (h : NV w1 v n) : NV w2 v n := by
  obtain ⟨l, h1, h2, h3, ao, cap, h4, h5, h6, h7⟩ := h
  refine ⟨l, h1, h2, h3, ao, cap, h4, h5, h6, ?_⟩
  rcases h7 with h7 | ⟨b, off, h7, h8, h9⟩
  · exact Or.inl h7
  · by_cases hl : l.length ≤ 0
    · exact Or.inl hl
    · refine Or.inr ⟨b, off, h7, Nat.lt_of_lt_of_le h8 hs, fun i hi => ?_⟩
      have hne : b ≠ B := by
        intro e; subst e
        have a := h9 0 (by omega)
        have b2 := hB (off + 0)
        rw [a] at b2
        exact b2 _ rfl
      rw [← h9 i hi]
      exact World.cell?_of_block (w := w1) (ho b hne)
theorem cells_at {w w1 : World} {x y z : Value} {T : TypeId} (hb : Below (w.alloc (.cells #[x, y, z] T)).heap.size (w.alloc (.cells #[x, y, z] T)) w1) (hx : NoLimb x) (hy : NoLimb y) (hz : NoLimb z) (o : Nat) :
    match w1.cell? ⟨w.heap.size, o, none⟩ with | some v => NoLimb v | none => True := by
  obtain ⟨hc, hf⟩ := below_cells hb
  rw [hc _ _ (by simp)]
  have hg : (w.alloc (.cells #[x, y, z] T)).heap[w.heap.size]? = some (.cells #[x, y, z] T (0, 0)) := heap_alloc_new w _
  rw [cell_of_row _ _ _ _ _ _ hg]
  match o with
  | 0 => simpa using hx
  | 1 => simpa using hy
  | 2 => simpa using hz
  | o + 3 => simp
theorem NV.store3 {w w1 : World} {x y z : Value} {T : TypeId} (hb : Below (w.alloc (.cells #[x, y, z] T)).heap.size (w.alloc (.cells #[x, y, z] T)) w1) (hx : NoLimb x) (hy : NoLimb y) (hz : NoLimb z) (x' y' z' : Value)
    {v : Value} {n : Nat} (h : NV w1 v n) : NV (((w1.setCell ⟨w.heap.size, 0, none⟩ x').setCell ⟨w.heap.size, 1, none⟩ y').setCell ⟨w.heap.size, 2, none⟩ z') v n := by
  refine h.other (cells_at hb hx hy hz) (by simp [World.setCell]) (fun b hne => ?_)
  rw [Below.heap_setCell _ _ _ _ hne, Below.heap_setCell _ _ _ _ hne, Below.heap_setCell _ _ _ _ hne]
theorem Below.store3 {w w1 : World} {x y z : Value} {T : TypeId} (hb : Below (w.alloc (.cells #[x, y, z] T)).heap.size (w.alloc (.cells #[x, y, z] T)) w1) (x' y' z' : Value) :
    Below w.heap.size w (((w1.setCell ⟨w.heap.size, 0, none⟩ x').setCell ⟨w.heap.size, 1, none⟩ y').setCell ⟨w.heap.size, 2, none⟩ z') :=
  (((((Below.refl _ _).alloc (Nat.le_refl _) _).trans (hb.mono (by simp))).setCell (Nat.le_refl _) _).setCell (Nat.le_refl _) _).setCell (Nat.le_refl _) _
theorem noLimb_bool (b : Bool) : NoLimb (.bool b) := by intro n h; cases h
theorem noLimb_slice (ao : Option Addr) (n c : Nat) : NoLimb (.slice ao n c) := by intro m h; cases h
theorem noLimb_i64 (e : Int) : NoLimb (.int .i64 e) := by intro m h; simp at h

end Go.Proofs.YtofdjfdnckmmmaaGreatDoor

/-
  AIDS: the length of a number's slice; a struct of three fields in a block of its own, behind calls.
-/
namespace Go.Proofs.YtofdjfdnckmmmaaGreatDoor
open Go.RowKit Nt Fm

theorem nv_len {w : World} {v : Value} {m : Nat} (h : NV w v m) : ∃ (ao : Option Addr) (n c : Nat), v = .slice ao n c ∧ n ≤ c ∧ c ≤ 9223372036854775807 ∧ ((m = 0 ∧ n = 0) ∨ (m ≠ 0 ∧ 1 ≤ n)) := by
  obtain ⟨l, hn, hv, hl, ao, c, rfl, h1, h2, h3⟩ := h
  unfold maxLen at h2
  refine ⟨ao, l.length, c, rfl, h1, by omega, ?_⟩
  by_cases hz : m = 0
  · left; rw [val_eq_zero hn (hv.trans hz)]; exact ⟨hz, rfl⟩
  · right; refine ⟨hz, ?_⟩
    rcases Nat.eq_zero_or_pos l.length with h0 | h0
    · rw [List.length_eq_zero_iff.1 h0] at hv; exact absurd hv.symm hz
    · exact h0

/-- a struct of three fields in block b -/
def Box (w : World) (b : Nat) (T : TypeId) (x y z : Value) : Prop := w.heap[b]? = some (.cells #[x, y, z] T (0, 0))
theorem Box.new (w : World) (x y z : Value) (T : TypeId) : Box (w.alloc (.cells #[x, y, z] T)) w.heap.size T x y z := heap_alloc_new w _
theorem Box.new2 (w : World) (o : Obj) (x y z : Value) (T : TypeId) : Box ((w.alloc o).alloc (.cells #[x, y, z] T)) (w.heap.size + 1) T x y z := by
  have h := Box.new (w.alloc o) x y z T
  rw [show (w.alloc o).heap.size = w.heap.size + 1 from by simp] at h; exact h
theorem Box.new3 (w : World) (o p : Obj) (x y z : Value) (T : TypeId) : Box (((w.alloc o).alloc p).alloc (.cells #[x, y, z] T)) (w.heap.size + 1 + 1) T x y z := by
  have h := Box.new ((w.alloc o).alloc p) x y z T
  rw [show ((w.alloc o).alloc p).heap.size = w.heap.size + 1 + 1 from by simp] at h; exact h
theorem Box.lt {w : World} {b : Nat} {T : TypeId} {x y z : Value} (h : Box w b T x y z) : b < w.heap.size := (Array.getElem?_eq_some_iff.1 h).1
theorem Box.below {w w' : World} {b : Nat} {T : TypeId} {x y z : Value} (h : Box w b T x y z) (hb : Below w.heap.size w w') : Box w' b T x y z := (hb.block b h.lt).trans h
theorem Box.alloc {w : World} {b : Nat} {T : TypeId} {x y z : Value} (h : Box w b T x y z) (o : Obj) : Box (w.alloc o) b T x y z := h.below ((Below.refl _ _).alloc (Nat.le_refl _) o)
theorem Box.drew {w : World} {b : Nat} {T : TypeId} {x y z : Value} (h : Box w b T x y z) : Box w.drew b T x y z := h
theorem Box.drewN {w : World} {b : Nat} {T : TypeId} {x y z : Value} (h : Box w b T x y z) (n : Nat) : Box (w.drewN n) b T x y z := h
theorem Box.cells {w : World} {b : Nat} {T : TypeId} {x y z : Value} (h : Box w b T x y z) :
    w.cell? ⟨b, 0, none⟩ = some x ∧ w.cell? ⟨b, 1, none⟩ = some y ∧ w.cell? ⟨b, 2, none⟩ = some z ∧
    w.frozen? ⟨b, 0, none⟩ = false ∧ w.frozen? ⟨b, 1, none⟩ = false ∧ w.frozen? ⟨b, 2, none⟩ = false := by
  unfold Box at h
  refine ⟨?_, ?_, ?_, ?_, ?_, ?_⟩ <;> simp [World.cell?, World.frozen?, h]
theorem heap_set {w : World} {b o : Nat} {v : Value} {c : Array Value} {T : TypeId} {f : Nat × Nat} (h : w.heap[b]? = some (.cells c T f)) : (w.setCell ⟨b, o, none⟩ v).heap[b]? = some (.cells (c.setIfInBounds o v) T f) := by
  unfold World.setCell
  simp [Array.getElem?_modify, h]
theorem Box.set0 {w : World} {b : Nat} {T : TypeId} {x y z : Value} (h : Box w b T x y z) (v : Value) : Box (w.setCell ⟨b, 0, none⟩ v) b T v y z := heap_set h
theorem Box.set1 {w : World} {b : Nat} {T : TypeId} {x y z : Value} (h : Box w b T x y z) (v : Value) : Box (w.setCell ⟨b, 1, none⟩ v) b T x v z := heap_set h
theorem Box.set2 {w : World} {b : Nat} {T : TypeId} {x y z : Value} (h : Box w b T x y z) (v : Value) : Box (w.setCell ⟨b, 2, none⟩ v) b T x y v := heap_set h
theorem Box.set3 {w : World} {b : Nat} {T : TypeId} {x y z : Value} (h : Box w b T x y z) (x' y' z' : Value) : Box (((w.setCell ⟨b, 0, none⟩ x').setCell ⟨b, 1, none⟩ y').setCell ⟨b, 2, none⟩ z') b T x' y' z' := ((h.set0 x').set1 y').set2 z'
theorem Box.set {w : World} {b b' o : Nat} {T : TypeId} {x y z : Value} (h : Box w b T x y z) (hb : b ≠ b') (v : Value) : Box (w.setCell ⟨b', o, none⟩ v) b T x y z := (Below.heap_setCell _ _ _ _ hb).trans h
/-- a number is kept where a struct's block is written -/
theorem NV.setBox {w : World} {b : Nat} {T : TypeId} {x y z : Value} {v : Value} {n : Nat} (h : NV w v n) (hb : Box w b T x y z) (hx : NoLimb x) (hy : NoLimb y) (hz : NoLimb z) (o : Nat) (u : Value) : NV (w.setCell ⟨b, o, none⟩ u) v n := by
  refine h.other (B := b) ?_ (by simp [World.setCell]) (fun k hk => Below.heap_setCell _ _ _ _ hk)
  intro o
  unfold Box at hb
  simp only [World.cell?, hb]
  match o with
  | 0 => simpa using hx
  | 1 => simpa using hy
  | 2 => simpa using hz
  | o + 3 => simp
theorem NV.set3 {w : World} {b : Nat} {T : TypeId} {x y z x' y' z' : Value} {v : Value} {n : Nat} (h : NV w v n) (hb : Box w b T x y z) (hx : NoLimb x) (hy : NoLimb y) (hz : NoLimb z) (hx' : NoLimb x') (hy' : NoLimb y') :
    NV (((w.setCell ⟨b, 0, none⟩ x').setCell ⟨b, 1, none⟩ y').setCell ⟨b, 2, none⟩ z') v n :=
  ((h.setBox hb hx hy hz 0 x').setBox (hb.set0 x') hx' hy hz 1 y').setBox ((hb.set0 x').set1 y') hx' hy' hz 2 z'
/-- .. where a struct of an exact number is overwritten by another one -/
theorem NV.setD {w : World} {b : Nat} {T : TypeId} {g g' : Bool} {ao ao' : Option Addr} {n n' c c' : Nat} {e e' : Int} {v : Value} {m : Nat} (h : NV w v m) (hb : Box w b T (.bool g) (.slice ao n c) (.int .i64 e)) :
    NV (((w.setCell ⟨b, 0, none⟩ (.bool g')).setCell ⟨b, 1, none⟩ (.slice ao' n' c')).setCell ⟨b, 2, none⟩ (.int .i64 e')) v m :=
  h.set3 hb (noLimb_bool _) (noLimb_slice _ _ _) (noLimb_i64 _) (noLimb_bool _) (noLimb_slice _ _ _)
theorem bl_set3 {B b : Nat} {w w1 : World} (h : Below B w w1) (hb : B ≤ b) (x y z : Value) : Below B w (((w1.setCell ⟨b, 0, none⟩ x).setCell ⟨b, 1, none⟩ y).setCell ⟨b, 2, none⟩ z) := ((h.setCell hb _).setCell hb _).setCell hb _
theorem bl_alloc2 (w : World) (o p : Obj) : Below w.heap.size w ((w.alloc o).alloc p) := ((Below.refl _ _).alloc (Nat.le_refl _) _).alloc (by simp) _
theorem bl_alloc3 (w : World) (o p q : Obj) : Below w.heap.size w (((w.alloc o).alloc p).alloc q) := (bl_alloc2 w o p).alloc (by simp; omega) _
theorem size_alloc (w : World) (o : Obj) : (w.alloc o).heap.size = w.heap.size + 1 := by simp
/-- what is behind a call, seen from the world that the function began in -/
theorem bl_thru {B : Nat} {w w1 w2 : World} (h : Below B w w1) (hB : B ≤ w.heap.size) (h2 : Below w1.heap.size w1 w2) : Below B w w2 := h.trans (h2.mono (Nat.le_trans hB h.size))
end Go.Proofs.YtofdjfdnckmmmaaGreatDoor

/-
  A FIELD of a struct that lies in no memory.
-/
namespace Go.Proofs.YtofdjfdnckmmmaaGreatDoor
open Go.RowKit Nt Fm

theorem run_field2 (g : Bool) (s : Value) (e : Int) (w : World) : Sem.run Tryz.prog (Instr.field 68 (.agg #[.bool g, s, .int .i64 e]) 2) w = .ok (.int .i64 e) w := by
  first | kernel_rfl | (simp [Instr.field, go_sem, Tryz.underlying68]; trace_state)
end Go.Proofs.YtofdjfdnckmmmaaGreatDoor
