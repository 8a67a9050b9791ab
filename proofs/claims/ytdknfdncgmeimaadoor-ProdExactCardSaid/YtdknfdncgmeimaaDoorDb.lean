/-
  SOME OF MY TEXTS in one: Dv Aid Tz Dy1 FloatB Val Rd1 Al Sl. Each says what it proves.
-/
import Derived.Test.YtdknfdncgmeimaaDoorNa
import Derived.Test.YtdknfdncgmeimaaDoorBa
import Derived.Shelf.Spec.TrailingZeros
import Derived.Test.YtdknfdncgmeimaaDoorChecked
import Derived.WalkKit
import Derived.WalkLawsBesides
import Derived.WalkSpells
import Derived.Handy
import Derived.Lib.Hide
import Derived.Deep.RegionHeld3
import Derived.Deep.RegionWith
import Derived.Lib.SliceRun
import Derived.BigQuiet
import Derived.Deep.QuietTactic
set_option linter.unusedVariables false
set_option linter.unusedSimpArgs false
/-
  EXACT NUMBERS in memory: what it says that a struct reads as one; the cells of a struct that a call has laid.
-/
namespace Go.Proofs.YtdknfdncgmeimaaDoor
open Go.RowKit Nt Fm

/-- the struct value v reads as the exact number d -/
def DV (w : World) (v : Value) (d : D) : Prop := ∃ s, v = .agg #[.bool d.neg, s, .int .i64 d.e] ∧ NV w s d.m
theorem DV.below {w w' : World} {v : Value} {d : D} (h : DV w v d) (hb : Below w.heap.size w w') : DV w' v d := by
  obtain ⟨s, h1, h2⟩ := h; exact ⟨s, h1, h2.below hb⟩
theorem DV.zero (w : World) : DV w (.agg #[.bool false, .slice none 0 0, .int .i64 0]) nz := ⟨_, rfl, NV.nil w⟩
/-- a call that tells an exact number, in new memory -/
def RetD (w : World) (d : D) (e : Ending) (w' : World) : Prop := ∃ v, e = .returned v ∧ DV w' v d ∧ Below w.heap.size w w'

/-- the three cells of a struct that the call has laid, behind a call -/
theorem cells3 {w w1 : World} {x y z : Value} {T : TypeId} (hb : Below (w.alloc (.cells #[x, y, z] T)).heap.size (w.alloc (.cells #[x, y, z] T)) w1) :
    w1.cell? ⟨w.heap.size, 0, none⟩ = some x ∧ w1.cell? ⟨w.heap.size, 1, none⟩ = some y ∧ w1.cell? ⟨w.heap.size, 2, none⟩ = some z ∧
    w1.frozen? ⟨w.heap.size, 0, none⟩ = false ∧ w1.frozen? ⟨w.heap.size, 1, none⟩ = false ∧ w1.frozen? ⟨w.heap.size, 2, none⟩ = false := by
  obtain ⟨hc, hf⟩ := below_cells hb
  refine ⟨?_, ?_, ?_, ?_, ?_, ?_⟩
  · rw [hc _ _ (by simp)]; simp [go_sem]
  · rw [hc _ _ (by simp)]; simp [go_sem]
  · rw [hc _ _ (by simp)]; simp [go_sem]
  · rw [hf _ _ (by simp)]; simp [go_sem]
  · rw [hf _ _ (by simp)]; simp [go_sem]
  · rw [hf _ _ (by simp)]; simp [go_sem]

/-- no limb -/
def NoLimb (v : Value) : Prop := ∀ n, v ≠ .int .u32 n
/-- a number is kept where a block without limbs is written -/
theorem NV.other {w1 w2 : World} {B : Nat} (hB : ∀ o, match w1.cell? ⟨B, o, none⟩ with | some v => NoLimb v | none => True) (hs : w1.heap.size ≤ w2.heap.size) (ho : ∀ b, b ≠ B → w2.heap[b]? = w1.heap[b]?) {v : Value} {n : Nat} (h : NV w1 v n) : NV w2 v n := by
  obtain ⟨l, h1, h2, h3, ao, cap, h4, h5, h6, h7⟩ := h
  refine ⟨l, h1, h2, h3, ao, cap, h4, h5, h6, ?_⟩
  rcases h7 with h7 | ⟨b, off, h7, h8, h9⟩
  · exact Or.inl h7
  · by_cases hl : l.length ≤ 0
    · exact Or.inl hl
    · refine Or.inr ⟨b, off, h7, Nat.lt_of_lt_of_le h8 hs, fun i hi => ?_⟩
      have hne : b ≠ B := by
        intro e; subst e
        have a := h9 0 (by omega)
        have b2 := hB (off + 0)
        rw [a] at b2
        exact b2 _ rfl
      rw [← h9 i hi]
      exact World.cell?_of_block (w := w1) (ho b hne)
theorem cells_at {w w1 : World} {x y z : Value} {T : TypeId} (hb : Below (w.alloc (.cells #[x, y, z] T)).heap.size (w.alloc (.cells #[x, y, z] T)) w1) (hx : NoLimb x) (hy : NoLimb y) (hz : NoLimb z) (o : Nat) :
    match w1.cell? ⟨w.heap.size, o, none⟩ with | some v => NoLimb v | none => True := by
  obtain ⟨hc, hf⟩ := below_cells hb
  rw [hc _ _ (by simp)]
  have hg : (w.alloc (.cells #[x, y, z] T)).heap[w.heap.size]? = some (.cells #[x, y, z] T (0, 0)) := heap_alloc_new w _
  rw [cell_of_row _ _ _ _ _ _ hg]
  match o with
  | 0 => simpa using hx
  | 1 => simpa using hy
  | 2 => simpa using hz
  | o + 3 => simp
theorem NV.store3 {w w1 : World} {x y z : Value} {T : TypeId} (hb : Below (w.alloc (.cells #[x, y, z] T)).heap.size (w.alloc (.cells #[x, y, z] T)) w1) (hx : NoLimb x) (hy : NoLimb y) (hz : NoLimb z) (x' y' z' : Value)
    {v : Value} {n : Nat} (h : NV w1 v n) : NV (((w1.setCell ⟨w.heap.size, 0, none⟩ x').setCell ⟨w.heap.size, 1, none⟩ y').setCell ⟨w.heap.size, 2, none⟩ z') v n := by
  refine h.other (cells_at hb hx hy hz) (by simp [World.setCell]) (fun b hne => ?_)
  rw [Below.heap_setCell _ _ _ _ hne, Below.heap_setCell _ _ _ _ hne, Below.heap_setCell _ _ _ _ hne]
theorem Below.store3 {w w1 : World} {x y z : Value} {T : TypeId} (hb : Below (w.alloc (.cells #[x, y, z] T)).heap.size (w.alloc (.cells #[x, y, z] T)) w1) (x' y' z' : Value) :
    Below w.heap.size w (((w1.setCell ⟨w.heap.size, 0, none⟩ x').setCell ⟨w.heap.size, 1, none⟩ y').setCell ⟨w.heap.size, 2, none⟩ z') :=
  (((((Below.refl _ _).alloc (Nat.le_refl _) _).trans (hb.mono (by simp))).setCell (Nat.le_refl _) _).setCell (Nat.le_refl _) _).setCell (Nat.le_refl _) _
theorem noLimb_bool (b : Bool) : NoLimb (.bool b) := by intro n h; cases h
theorem noLimb_slice (ao : Option Addr) (n c : Nat) : NoLimb (.slice ao n c) := by intro m h; cases h
theorem noLimb_i64 (e : Int) : NoLimb (.int .i64 e) := by intro m h; simp at h

end Go.Proofs.YtdknfdncgmeimaaDoor

/-
  AIDS: the length of a number's slice; a struct of three fields in a block of its own, behind calls.
-/
namespace Go.Proofs.YtdknfdncgmeimaaDoor
open Go.RowKit Nt Fm

theorem nv_len {w : World} {v : Value} {m : Nat} (h : NV w v m) : ∃ (ao : Option Addr) (n c : Nat), v = .slice ao n c ∧ n ≤ c ∧ c ≤ 9223372036854775807 ∧ ((m = 0 ∧ n = 0) ∨ (m ≠ 0 ∧ 1 ≤ n)) := by
  obtain ⟨l, hn, hv, hl, ao, c, rfl, h1, h2, h3⟩ := h
  unfold maxLen at h2
  refine ⟨ao, l.length, c, rfl, h1, by omega, ?_⟩
  by_cases hz : m = 0
  · left; rw [val_eq_zero hn (hv.trans hz)]; exact ⟨hz, rfl⟩
  · right; refine ⟨hz, ?_⟩
    rcases Nat.eq_zero_or_pos l.length with h0 | h0
    · rw [List.length_eq_zero_iff.1 h0] at hv; exact absurd hv.symm hz
    · exact h0

/-- a struct of three fields in block b -/
def Box (w : World) (b : Nat) (T : TypeId) (x y z : Value) : Prop := w.heap[b]? = some (.cells #[x, y, z] T (0, 0))
theorem Box.new (w : World) (x y z : Value) (T : TypeId) : Box (w.alloc (.cells #[x, y, z] T)) w.heap.size T x y z := heap_alloc_new w _
theorem Box.new2 (w : World) (o : Obj) (x y z : Value) (T : TypeId) : Box ((w.alloc o).alloc (.cells #[x, y, z] T)) (w.heap.size + 1) T x y z := by
  have h := Box.new (w.alloc o) x y z T
  rw [show (w.alloc o).heap.size = w.heap.size + 1 from by simp] at h; exact h
theorem Box.new3 (w : World) (o p : Obj) (x y z : Value) (T : TypeId) : Box (((w.alloc o).alloc p).alloc (.cells #[x, y, z] T)) (w.heap.size + 1 + 1) T x y z := by
  have h := Box.new ((w.alloc o).alloc p) x y z T
  rw [show ((w.alloc o).alloc p).heap.size = w.heap.size + 1 + 1 from by simp] at h; exact h
theorem Box.lt {w : World} {b : Nat} {T : TypeId} {x y z : Value} (h : Box w b T x y z) : b < w.heap.size := (Array.getElem?_eq_some_iff.1 h).1
theorem Box.below {w w' : World} {b : Nat} {T : TypeId} {x y z : Value} (h : Box w b T x y z) (hb : Below w.heap.size w w') : Box w' b T x y z := (hb.block b h.lt).trans h
theorem Box.alloc {w : World} {b : Nat} {T : TypeId} {x y z : Value} (h : Box w b T x y z) (o : Obj) : Box (w.alloc o) b T x y z := h.below ((Below.refl _ _).alloc (Nat.le_refl _) o)
theorem Box.drew {w : World} {b : Nat} {T : TypeId} {x y z : Value} (h : Box w b T x y z) : Box w.drew b T x y z := h
theorem Box.drewN {w : World} {b : Nat} {T : TypeId} {x y z : Value} (h : Box w b T x y z) (n : Nat) : Box (w.drewN n) b T x y z := h
theorem Box.cells {w : World} {b : Nat} {T : TypeId} {x y z : Value} (h : Box w b T x y z) :
    w.cell? ⟨b, 0, none⟩ = some x ∧ w.cell? ⟨b, 1, none⟩ = some y ∧ w.cell? ⟨b, 2, none⟩ = some z ∧
    w.frozen? ⟨b, 0, none⟩ = false ∧ w.frozen? ⟨b, 1, none⟩ = false ∧ w.frozen? ⟨b, 2, none⟩ = false := by
  unfold Box at h
  refine ⟨?_, ?_, ?_, ?_, ?_, ?_⟩ <;> simp [World.cell?, World.frozen?, h]
theorem heap_set {w : World} {b o : Nat} {v : Value} {c : Array Value} {T : TypeId} {f : Nat × Nat} (h : w.heap[b]? = some (.cells c T f)) : (w.setCell ⟨b, o, none⟩ v).heap[b]? = some (.cells (c.setIfInBounds o v) T f) := by
  unfold World.setCell
  simp [Array.getElem?_modify, h]
theorem Box.set0 {w : World} {b : Nat} {T : TypeId} {x y z : Value} (h : Box w b T x y z) (v : Value) : Box (w.setCell ⟨b, 0, none⟩ v) b T v y z := heap_set h
theorem Box.set1 {w : World} {b : Nat} {T : TypeId} {x y z : Value} (h : Box w b T x y z) (v : Value) : Box (w.setCell ⟨b, 1, none⟩ v) b T x v z := heap_set h
theorem Box.set2 {w : World} {b : Nat} {T : TypeId} {x y z : Value} (h : Box w b T x y z) (v : Value) : Box (w.setCell ⟨b, 2, none⟩ v) b T x y v := heap_set h
theorem Box.set3 {w : World} {b : Nat} {T : TypeId} {x y z : Value} (h : Box w b T x y z) (x' y' z' : Value) : Box (((w.setCell ⟨b, 0, none⟩ x').setCell ⟨b, 1, none⟩ y').setCell ⟨b, 2, none⟩ z') b T x' y' z' := ((h.set0 x').set1 y').set2 z'
theorem Box.set {w : World} {b b' o : Nat} {T : TypeId} {x y z : Value} (h : Box w b T x y z) (hb : b ≠ b') (v : Value) : Box (w.setCell ⟨b', o, none⟩ v) b T x y z := (Below.heap_setCell _ _ _ _ hb).trans h
/-- a number is kept where a struct's block is written -/
theorem NV.setBox {w : World} {b : Nat} {T : TypeId} {x y z : Value} {v : Value} {n : Nat} (h : NV w v n) (hb : Box w b T x y z) (hx : NoLimb x) (hy : NoLimb y) (hz : NoLimb z) (o : Nat) (u : Value) : NV (w.setCell ⟨b, o, none⟩ u) v n := by
  refine h.other (B := b) ?_ (by simp [World.setCell]) (fun k hk => Below.heap_setCell _ _ _ _ hk)
  intro o
  unfold Box at hb
  simp only [World.cell?, hb]
  match o with
  | 0 => simpa using hx
  | 1 => simpa using hy
  | 2 => simpa using hz
  | o + 3 => simp
theorem NV.set3 {w : World} {b : Nat} {T : TypeId} {x y z x' y' z' : Value} {v : Value} {n : Nat} (h : NV w v n) (hb : Box w b T x y z) (hx : NoLimb x) (hy : NoLimb y) (hz : NoLimb z) (hx' : NoLimb x') (hy' : NoLimb y') :
    NV (((w.setCell ⟨b, 0, none⟩ x').setCell ⟨b, 1, none⟩ y').setCell ⟨b, 2, none⟩ z') v n :=
  ((h.setBox hb hx hy hz 0 x').setBox (hb.set0 x') hx' hy hz 1 y').setBox ((hb.set0 x').set1 y') hx' hy' hz 2 z'
/-- .. where a struct of an exact number is overwritten by another one -/
theorem NV.setD {w : World} {b : Nat} {T : TypeId} {g g' : Bool} {ao ao' : Option Addr} {n n' c c' : Nat} {e e' : Int} {v : Value} {m : Nat} (h : NV w v m) (hb : Box w b T (.bool g) (.slice ao n c) (.int .i64 e)) :
    NV (((w.setCell ⟨b, 0, none⟩ (.bool g')).setCell ⟨b, 1, none⟩ (.slice ao' n' c')).setCell ⟨b, 2, none⟩ (.int .i64 e')) v m :=
  h.set3 hb (noLimb_bool _) (noLimb_slice _ _ _) (noLimb_i64 _) (noLimb_bool _) (noLimb_slice _ _ _)
theorem bl_set3 {B b : Nat} {w w1 : World} (h : Below B w w1) (hb : B ≤ b) (x y z : Value) : Below B w (((w1.setCell ⟨b, 0, none⟩ x).setCell ⟨b, 1, none⟩ y).setCell ⟨b, 2, none⟩ z) := ((h.setCell hb _).setCell hb _).setCell hb _
theorem bl_alloc2 (w : World) (o p : Obj) : Below w.heap.size w ((w.alloc o).alloc p) := ((Below.refl _ _).alloc (Nat.le_refl _) _).alloc (by simp) _
theorem bl_alloc3 (w : World) (o p q : Obj) : Below w.heap.size w (((w.alloc o).alloc p).alloc q) := (bl_alloc2 w o p).alloc (by simp; omega) _
theorem size_alloc (w : World) (o : Obj) : (w.alloc o).heap.size = w.heap.size + 1 := by simp
/-- what is behind a call, seen from the world that the function began in -/
theorem bl_thru {B : Nat} {w w1 w2 : World} (h : Below B w w1) (hB : B ≤ w.heap.size) (h2 : Below w1.heap.size w1 w2) : Below B w w2 := h.trans (h2.mono (Nat.le_trans hB h.size))
end Go.Proofs.YtdknfdncgmeimaaDoor

/-
  THE WALK of math/bits.TrailingZeros32, under its table.
-/
namespace Go.Proofs.YtdknfdncgmeimaaDoor
open Go.RowKit Nt Fm

/-- the table of math/bits is there -/
def Tab (w : World) : Prop := ∀ j, j < 32 → w.cell? ⟨0, j, none⟩ = some (.int .u8 ((Lib.deBruijn32tab.getD j 0 : Nat) : Int))
theorem Tab.size {w : World} (h : Tab w) : 0 < w.heap.size := World.block_lt_of_cell? w ⟨0, 0, none⟩ (h 0 (by decide))
theorem Tab.below {w w' : World} (h : Tab w) (hb : Below w.heap.size w w') : Tab w' := fun j hj => (hb.cell (p := ⟨0, j, none⟩) h.size).trans (h j hj)
theorem Tab.alloc {w : World} (h : Tab w) (o : Obj) : Tab (w.alloc o) := h.below ((Below.refl _ _).alloc (Nat.le_refl _) o)
theorem Tab.drew {w : World} (h : Tab w) : Tab w.drew := h.below (Below.refl _ _).drew

set_option maxHeartbeats 1000000 in
theorem tz_core (x k idx : Nat) (w : World) (hx0 : ((x : Int) == 0) = false)
    (key : bits BinOp.and IntKind.u32 (x : Int) (-(x : Int) % 4294967296) * 125613361 % 4294967296 / 134217728 = (idx : Int))
    (hi : idx < 32) (hk : k < 32) (hcell : w.cell? ⟨0, idx, none⟩ = some (.int .u8 (k : Int))) :
    Calls Tryd.prog 96 #[.int .u32 x] w fun e w' => e = .returned (.int .i64 k) ∧ w' = w := by
  go_enter Tryd.func96, Tryd.ntmps96
  go_wp2_with (simp only [key])
  go_ret
  exact ⟨rfl, rfl⟩
theorem tz_any (x : Nat) (hx0 : x ≠ 0) (hx : x < 4294967296) (w : World) (hT : Tab w) :
    Calls Tryd.prog 96 #[.int .u32 x] w fun e w' => e = .returned (.int .i64 ((Lib.ctz 32 x : Nat) : Int)) ∧ w' = w := by
  obtain ⟨hlow, hk⟩ := Lib.lowest_bit 32 x hx0 hx
  obtain ⟨hi, htab⟩ := Lib.deBruijn32_at _ hk
  have hcell := hT _ hi
  rw [htab] at hcell
  exact tz_core x _ _ w (by simp; omega) (tz32_key x _ hx hx0 hlow) hi hk hcell

/-- how often two goes into it, by its limbs -/
theorem ctz_limbs {l : List Nat} {j d : Nat} (hj : j < l.length) (hd : d = l.getD j 0) (hd0 : d ≠ 0) (hd1 : d < 4294967296) (h0 : val (l.take j) = 0) :
    ctz (val l) = 32 * j + Lib.ctz 32 d ∧ val l ≠ 0 := by
  have e1 : l[j] = d := by rw [hd]; simp [List.getD, hj]
  have hv := val_take_drop l j (by omega)
  rw [h0, Nat.zero_add, val_drop l j hj, e1] at hv
  obtain ⟨m, hm, hlt⟩ := Lib.ctzFrom_spec 32 d (by omega) hd1
  have hc : Lib.ctz 32 d = Lib.ctzFrom 32 d := by unfold Lib.ctz; rw [if_neg hd0]
  rw [← hc] at hm hlt
  generalize Lib.ctz 32 d = t at *
  have e2 : d + 4294967296 * val (l.drop (j + 1)) = 2 ^ t * (2 * (m + 2 ^ (31 - t) * val (l.drop (j + 1))) + 1) := by
    have : (4294967296 : Nat) = 2 ^ t * (2 * 2 ^ (31 - t)) := by
      rw [← Nat.pow_succ', ← Nat.pow_add, show t + (31 - t).succ = 32 by omega]
    rw [hm, this, Nat.mul_add 2, Nat.mul_assoc (2 ^ t), ← Nat.mul_add]
    congr 1
    rw [Nat.mul_assoc]; omega
  have h1 : val l ≠ 0 := by
    rw [hv]; intro h
    rcases Nat.mul_eq_zero.1 h with h | h
    · have := Nat.two_pow_pos (32 * j); omega
    · omega
  refine ⟨?_, h1⟩
  obtain ⟨q, h3, h4⟩ := ctz_spec h1
  rw [e2, ← Nat.mul_assoc, ← Nat.pow_add] at hv
  have h5 : q * 2 ^ ctz (val l) = (2 * (m + 2 ^ (31 - t) * val (l.drop (j + 1))) + 1) * 2 ^ (32 * j + t) := by rw [← h3, hv, Nat.mul_comm]
  exact (odd_pow_inj h4 (by omega) h5).2
end Go.Proofs.YtdknfdncgmeimaaDoor

/-
  THE WALKS of package dyad: Norm.
-/
namespace Go.Proofs.YtdknfdncgmeimaaDoor
open Go.RowKit Nt Fm

theorem zeros_step {l : List Nat} {j : Nat} (hj : j < l.length) (h : val (l.take j) = 0) (h0 : l.getD j 0 = 0) : val (l.take (j + 1)) = 0 := by
  have e1 : l[j] = l.getD j 0 := by simp [List.getD, hj]
  rw [val_take_succ l j hj, h, e1, h0]; simp
theorem zeros_end {l : List Nat} (hl : Nrm l) (h : val (l.take l.length) = 0) : l.length = 0 := by
  rw [List.take_length] at h
  rw [val_eq_zero hl h]; rfl
theorem norm_pos {neg : Bool} {a k : Nat} {e : Int} (h : a ≠ 0) (hk : ctz a = k) : norm neg a e = ⟨neg, a / 2 ^ k, e + k⟩ := by
  unfold norm; rw [if_neg h, hk]

set_option maxHeartbeats 2000000 in
theorem dnorm_any (neg : Bool) (va : Value) (a k0 : Nat) (x : Int) (w : World) (hT : Tab w) (ha : NV w va a) (hka : a < 2 ^ k0) (hk0 : k0 ≤ 3000000) (h0 : -4000000000000000000 ≤ x) (h1 : x ≤ 4000000000000000000) :
    Calls Tryd.prog 75 #[.bool neg, va, .int .i64 x] w (RetD w (norm neg a x)) := by
  have haw := ha
  obtain ⟨l, hl, el, ⟨-, aa, ca, rfl, hca, hma, hA⟩, hll⟩ := ha.len hka
  unfold maxLen at hma
  have EL := Lib.hid el
  have HKA := Lib.hid hka
  clear el hka
  have hll2 : l.length ≤ 100000 := by omega
  by_cases hl0 : l.length ≤ 0
  · have e0 : norm neg a x = nz := by
      have : a = 0 := by rw [← EL.out, List.length_eq_zero_iff.1 (by omega : l.length = 0)]; rfl
      rw [this]; rfl
    rw [e0]; clear e0 hA haw
    go_enter Tryd.func75, Tryd.ntmps75
    go_wp2
    go_returns
    exact ⟨_, rfl, DV.zero _, by go_grown⟩
  · rcases hA with hP | ⟨bp, op, rfl, hbp, hcP⟩
    · exact absurd hP hl0
    have hl1 : 0 < l.length := by omega
    clear hl0
    have HAW := Lib.hid haw
    have HTT := Lib.hid hT
    clear haw hT
    go_enter Tryd.func75, Tryd.ntmps75
    go_wp2
    go_loop [7] (fun k => ∃ j : Nat, j < l.length ∧ k = .int .i64 ((32 * j : Nat) : Int) ∧ val (l.take j) = 0) (fun k => 32 * l.length - (intOf k).toNat)
    case atStart => exact ⟨0, hl1, rfl, rfl⟩
    case round =>
      obtain ⟨j, hj, rfl, hv⟩ := hrel
      have HV := Lib.hid hv
      obtain ⟨d, hd⟩ : ∃ d, d = l.getD j 0 := ⟨_, rfl⟩
      have hd1 : d < 4294967296 := by rw [hd]; exact hl.1.getD j
      have hck := hcP j hj
      rw [← hd] at hck
      have HD := Lib.hid hd
      have HCP := Lib.hid hcP
      clear hv hd hcP
      have ej : (((32 * j : Nat) : Int) / 32) = (j : Int) := by omega
      by_cases hz : d = 0
      · subst hz
        have hj1 : j + 1 < l.length := by
          rcases Nat.lt_or_ge (j + 1) l.length with h | h
          · exact h
          · exfalso
            have := zeros_step hj HV.out HD.out.symm
            rw [show j + 1 = l.length by omega] at this
            have := zeros_end hl this
            omega
        go_wp2
        go_round
        case rel => exact ⟨j + 1, hj1, by simp; omega, zeros_step hj HV.out HD.out.symm⟩
        case measure => simp [intOf]; omega
      · have hz2 : ((d : Int) == 0) = false := by rw [beq_eq_false_iff_ne]; omega
        obtain ⟨c1, c2⟩ := ctz_limbs hj HD.out hz hd1 HV.out
        rw [EL.out] at c1 c2
        have hc32 : Lib.ctz 32 d < 32 := by
          have := (Lib.lowest_bit 32 d hz (by omega)).2; exact this
        have en := @norm_pos neg a _ x c2 c1
        have htz := fun w hT => tz_any d hz hd1 w hT
        generalize Lib.ctz 32 d = t at *
        have EN := Lib.hid en
        have HTZ := Lib.hid htz
        clear c1 c2 en htz
        go_wp2_with (go_at_call 96; refine (HTZ.out _ (HTT.out.alloc _)).mono ?_; rintro e w' ⟨rfl, rfl⟩)
        refine (right_any _ a (32 * j + t) k0 _ _ (HAW.out.alloc _) (by simp) HKA.out hk0 (by omega)).mono ?_
        rintro e w1 ⟨v, rfl, hv, hb⟩
        obtain ⟨q0, q1, q2, f0, f1, f2⟩ := cells3 hb
        obtain ⟨ao1, n1, cc1, rfl⟩ := hv.shape
        have HV1 := Lib.hid hv
        clear hv
        go_wp2
        refine bodyPost_ret (v := .agg #[.bool neg, .slice ao1 n1 cc1, .int .i64 (x + (32 * (j : Int) + (t : Int)))]) (by simp [results, Tryd.results75, go_sem, q0, q1, q2]) rfl ?_
        refine ⟨_, rfl, ⟨.slice ao1 n1 cc1, ?_, ?_⟩, Below.store3 hb _ _ _⟩
        · rw [EN.out]; simp
        · rw [EN.out]
          exact HV1.out.store3 hb (noLimb_bool _) (noLimb_slice _ _ _) (noLimb_i64 _) _ _ _
end Go.Proofs.YtdknfdncgmeimaaDoor

/-
  THE WALKS of package float: each function's contract.
-/
namespace Go.Proofs.YtdknfdncgmeimaaDoor
open Go.RowKit Fl

theorem parts_any (x : Int) (h0 : 0 ≤ x) (h1 : x ≤ 18446744073709551615) (w : World) :
    Calls Tryd.prog 58 #[.int .u64 x] w fun e w' => e = .returned (.tuple #[.bool (fng x), .int .i64 (fexp x), .int .u64 (ffr x)]) ∧ w = w' := by
  have e1 := and_2047 (x / 4503599627370496) (by omega) (by omega)
  have e2 := and_frac x h0 h1
  have e3 : wrap64 (x / 4503599627370496 % 2048) = x / 4503599627370496 % 2048 := IntWalk.wrap64_in _ (by omega)
  have e4 : (x / 9223372036854775808 == 1) = decide (9223372036854775808 ≤ x) := by
    rw [Bool.eq_iff_iff, beq_iff_eq, decide_eq_true_eq]; omega
  go_enter Tryd.func58, Tryd.ntmps58
  go_wp2
  go_ret3
  refine ⟨?_, rfl⟩
  unfold fng fexp ffr
  first | rfl | simp only [e1, e2, e3, e4]

theorem class_any (x : Int) (h0 : 0 ≤ x) (h1 : x ≤ 18446744073709551615) (w : World) :
    Calls Tryd.prog 44 #[.int .u64 x] w fun e w' => e = .returned (.int .i64 (fcls x)) ∧ w = w' := by
  rcases cls_ways h0 h1 with ⟨a, b, c⟩ | ⟨a, b, c⟩ | ⟨a, b, c⟩ | ⟨a, b, c⟩ | ⟨a, b, c⟩
  all_goals
    rw [c]
    clear c
    go_enter Tryd.func44, Tryd.ntmps44
    go_wp2_with (go_at_call 58; refine (parts_any x h0 h1 _).mono ?_; rintro e w' ⟨rfl, rfl⟩)
    go_ret
    exact ⟨rfl, rfl⟩

theorem neg_any (x : Int) (h0 : 0 ≤ x) (h1 : x ≤ 18446744073709551615) (w : World) :
    Calls Tryd.prog 46 #[.int .u64 x] w fun e w' => e = .returned (.int .u64 (fneg x)) ∧ w = w' := by
  have e1 := xor_sign x h0 h1
  go_enter Tryd.func46, Tryd.ntmps46
  go_wp2
  go_ret
  exact ⟨rfl, rfl⟩

theorem abs_any (x : Int) (h0 : 0 ≤ x) (h1 : x ≤ 18446744073709551615) (w : World) :
    Calls Tryd.prog 57 #[.int .u64 x] w fun e w' => e = .returned (.int .u64 (fabs x)) ∧ w = w' := by
  have e1 := andNot_sign x h0 h1
  go_enter Tryd.func57, Tryd.ntmps57
  go_wp2
  go_ret
  exact ⟨rfl, rfl⟩

theorem rank_any (x : Int) (h0 : 0 ≤ x) (h1 : x ≤ 18446744073709551615) (w : World) :
    Calls Tryd.prog 47 #[.int .u64 x] w fun e w' => e = .returned (.tuple #[.int .i64 (frank x), .int .i64 (frerr x)]) ∧ w = w' := by
  have hb := fabs_bd x
  by_cases hn : 9218868437227405312 < fabs x
  · have hc : fcls x = 5 := by unfold fcls; omega
    have h2 : frank x = 0 := by unfold frank; omega
    have h3 : frerr x = 4 := by unfold frerr; omega
    rw [h2, h3]; clear h2 h3
    go_enter Tryd.func47, Tryd.ntmps47
    go_wp2_with (go_at_call 44; refine (class_any x h0 h1 _).mono ?_; rintro e w' ⟨rfl, rfl⟩)
    go_ret2
    exact ⟨rfl, rfl⟩
  · have hc : fcls x ≤ 4 := by unfold fcls; omega
    have h3 : frerr x = 0 := by unfold frerr; omega
    rw [h3]; clear h3
    by_cases hs : 9223372036854775808 ≤ x
    · have e4 : (x / 9223372036854775808 == 1) = true := by rw [beq_iff_eq]; omega
      have h2 : frank x = -fabs x := by unfold frank; omega
      rw [h2]; clear h2
      go_enter Tryd.func47, Tryd.ntmps47
      go_wp2_with (first | (go_at_call 44; refine (class_any x h0 h1 _).mono ?_; rintro e w' ⟨rfl, rfl⟩) | (go_at_call 57; refine (abs_any x h0 h1 _).mono ?_; rintro e w' ⟨rfl, rfl⟩))
      go_ret2
      exact ⟨rfl, rfl⟩
    · have e4 : (x / 9223372036854775808 == 1) = false := by rw [beq_eq_false_iff_ne]; omega
      have h2 : frank x = fabs x := by unfold frank; omega
      rw [h2]; clear h2
      go_enter Tryd.func47, Tryd.ntmps47
      go_wp2_with (first | (go_at_call 44; refine (class_any x h0 h1 _).mono ?_; rintro e w' ⟨rfl, rfl⟩) | (go_at_call 57; refine (abs_any x h0 h1 _).mono ?_; rintro e w' ⟨rfl, rfl⟩))
      go_ret2
      exact ⟨rfl, rfl⟩
end Go.Proofs.YtdknfdncgmeimaaDoor

/-
  THE WALKS of float.HasValue, dyad.Value, dyad.Of.
-/
namespace Go.Proofs.YtdknfdncgmeimaaDoor
open Go.RowKit Nt Fm Fl

/-- the exact number of a float that has one -/
def valD (x : Int) : D := norm (fng x) (if 0 < fexp x then (ffr x + 4503599627370496).toNat else (ffr x).toNat) (max (fexp x) 1 - 1075)
def hasV (x : Int) : Bool := decide (fabs x < 9218868437227405312)

theorem hasValue_any (x : Int) (h0 : 0 ≤ x) (h1 : x ≤ 18446744073709551615) (w : World) :
    Calls Tryd.prog 62 #[.int .u64 x] w fun e w' => e = .returned (.bool (hasV x)) ∧ w = w' := by
  have hb := fabs_bd x
  unfold hasV
  go_enter Tryd.func62, Tryd.ntmps62
  go_wp2_with (go_at_call 57; refine (abs_any x h0 h1 _).mono ?_; rintro e w' ⟨rfl, rfl⟩)
  go_ret
  exact ⟨rfl, rfl⟩

theorem or_hidden (x : Int) (h0 : 0 ≤ x) (h1 : x < 4503599627370496) : bits .or .u64 x 4503599627370496 = x + 4503599627370496 := by
  obtain ⟨a, rfl⟩ := Int.eq_ofNat_of_zero_le h0
  have ha : a < 2 ^ 52 := by omega
  have h := bits_or_u64_nat a 4503599627370496 (by omega) (by decide)
  rw [show ((4503599627370496 : Nat) : Int) = 4503599627370496 from rfl] at h
  rw [h, Nat.or_comm]
  have := Nat.two_pow_add_eq_or_of_lt ha 1
  rw [show (2 ^ 52 * 1 : Nat) = 4503599627370496 by decide] at this
  rw [← this]; omega

set_option maxHeartbeats 2000000 in
theorem value_any (x : Int) (h0 : 0 ≤ x) (h1 : x ≤ 18446744073709551615) (w : World) (hT : Tab w) :
    Calls Tryd.prog 63 #[.int .u64 x] w (RetD w (valD x)) := by
  have hT' := Lib.hid hT
  clear hT
  have hp := parts_any x h0 h1
  have be := fexp_bd x
  have bf := ffr_bd x
  unfold valD
  generalize fng x = g at *
  generalize fexp x = e at *
  generalize ffr x = f at *
  have HP := Lib.hid hp
  clear hp
  by_cases he : 0 < e
  · have e1 := or_hidden f (by omega) (by omega)
    have hmx : max e 1 = e := by omega
    rw [if_pos he, hmx]
    go_enter Tryd.func63, Tryd.ntmps63
    go_wp2_with (go_at_call 58; refine (HP.out _).mono ?_; rintro e w' ⟨rfl, rfl⟩)
    refine (natOf_any _ (by omega) (by omega) _).mono ?_
    rintro r w1 ⟨v, rfl, hv, hb⟩
    obtain ⟨ao, n, c, rfl⟩ := hv.shape
    have HV := Lib.hid hv
    have HB := Lib.hid hb
    obtain ⟨q0, q1, q2, f0, f1, f2⟩ := cells3 hb
    clear hv hb
    go_wp2_with fail
    refine (dnorm_any g _ _ 64 (e - 1075) _ ((hT'.out.alloc _).below HB.out) HV.out (by omega) (by decide) (by omega) (by omega)).mono ?_
    rintro r w2 ⟨v2, rfl, ⟨s2, rfl, hv2⟩, hb⟩
    obtain ⟨ao2, n2, c2, rfl⟩ := hv2.shape
    have hb3 := HB.out.trans (hb.mono HB.out.size)
    obtain ⟨q0, q1, q2, f0, f1, f2⟩ := cells3 hb3
    have HV2 := Lib.hid hv2
    have HB3 := Lib.hid hb3
    clear hv2 hb hb3
    generalize norm g (f + 4503599627370496).toNat (e - 1075) = d at *
    go_wp2
    refine bodyPost_ret (v := .agg #[.bool d.neg, .slice ao2 n2 c2, .int .i64 d.e]) (by simp [results, Tryd.results63, go_sem, q0, q1, q2]) rfl ?_
    exact ⟨_, rfl, ⟨_, rfl, HV2.out.store3 HB3.out (noLimb_bool _) (noLimb_slice _ _ _) (noLimb_i64 _) _ _ _⟩, Below.store3 HB3.out _ _ _⟩
  · have he2 : e = 0 := by omega
    rw [if_neg he]
    subst he2
    have hmx : max (0 : Int) 1 - 1075 = -1074 := by decide
    rw [hmx]
    go_enter Tryd.func63, Tryd.ntmps63
    go_wp2_with (go_at_call 58; refine (HP.out _).mono ?_; rintro e w' ⟨rfl, rfl⟩)
    refine (natOf_any _ (by omega) (by omega) _).mono ?_
    rintro r w1 ⟨v, rfl, hv, hb⟩
    obtain ⟨ao, n, c, rfl⟩ := hv.shape
    have HV := Lib.hid hv
    have HB := Lib.hid hb
    obtain ⟨q0, q1, q2, f0, f1, f2⟩ := cells3 hb
    clear hv hb
    go_wp2_with fail
    refine (dnorm_any g _ _ 64 (-1074) _ ((hT'.out.alloc _).below HB.out) HV.out (by omega) (by decide) (by omega) (by omega)).mono ?_
    rintro r w2 ⟨v2, rfl, ⟨s2, rfl, hv2⟩, hb⟩
    obtain ⟨ao2, n2, c2, rfl⟩ := hv2.shape
    have hb3 := HB.out.trans (hb.mono HB.out.size)
    obtain ⟨q0, q1, q2, f0, f1, f2⟩ := cells3 hb3
    have HV2 := Lib.hid hv2
    have HB3 := Lib.hid hb3
    clear hv2 hb hb3
    generalize norm g f.toNat (-1074) = d at *
    go_wp2
    refine bodyPost_ret (v := .agg #[.bool d.neg, .slice ao2 n2 c2, .int .i64 d.e]) (by simp [results, Tryd.results63, go_sem, q0, q1, q2]) rfl ?_
    exact ⟨_, rfl, ⟨_, rfl, HV2.out.store3 HB3.out (noLimb_bool _) (noLimb_slice _ _ _) (noLimb_i64 _) _ _ _⟩, Below.store3 HB3.out _ _ _⟩

/-- what dyad.Of tells -/
def ofD (x : Int) : D := if hasV x then valD x else nz
def ofE (x : Int) : Int := if hasV x then 0 else 4
set_option maxHeartbeats 2000000 in
theorem of_any (x : Int) (h0 : 0 ≤ x) (h1 : x ≤ 18446744073709551615) (w : World) (hT : Tab w) :
    Calls Tryd.prog 25 #[.int .u64 x] w fun r w' => ∃ v, r = .returned (.tuple #[v, .int .i64 (ofE x)]) ∧ DV w' v (ofD x) ∧ Below w.heap.size w w' := by
  have hh := hasValue_any x h0 h1
  have hT' := Lib.hid hT
  clear hT
  unfold ofD ofE
  cases hv : hasV x
  · rw [hv] at hh
    have HH := Lib.hid hh
    clear hh
    rw [if_neg (by decide), if_neg (by decide)]
    go_enter Tryd.func25, Tryd.ntmps25
    go_wp2_with (go_at_call 62; refine (HH.out _).mono ?_; rintro e w' ⟨rfl, rfl⟩)
    refine bodyPost_ret (v := .tuple #[.agg #[.bool false, .slice none 0 0, .int .i64 0], .int .i64 4]) (by simp [results, Tryd.results25, go_sem]) rfl ?_
    exact ⟨_, rfl, DV.zero _, (Below.refl _ _).alloc (Nat.le_refl _) _⟩
  · rw [hv] at hh
    have HH := Lib.hid hh
    clear hh
    rw [if_pos rfl, if_pos rfl]
    have hval := value_any x h0 h1
    generalize valD x = d at *
    have HVAL := Lib.hid hval
    clear hval
    go_enter Tryd.func25, Tryd.ntmps25
    go_wp2_with (go_at_call 62; refine (HH.out _).mono ?_; rintro e w' ⟨rfl, rfl⟩)
    refine (HVAL.out _ (hT'.out.alloc _)).mono ?_
    rintro r w1 ⟨v2, rfl, ⟨s2, rfl, hv2⟩, hb⟩
    obtain ⟨ao2, n2, c2, rfl⟩ := hv2.shape
    obtain ⟨q0, q1, q2, f0, f1, f2⟩ := cells3 hb
    have HV2 := Lib.hid hv2
    have HB3 := Lib.hid hb
    clear hv2 hb
    go_wp2
    refine bodyPost_ret (v := .tuple #[.agg #[.bool d.neg, .slice ao2 n2 c2, .int .i64 d.e], .int .i64 0]) (by simp [results, Tryd.results25, go_sem, q0, q1, q2]) rfl ?_
    exact ⟨_, rfl, ⟨_, rfl, HV2.out.store3 HB3.out (noLimb_bool _) (noLimb_slice _ _ _) (noLimb_i64 _) _ _ _⟩, Below.store3 HB3.out _ _ _⟩
end Go.Proofs.YtdknfdncgmeimaaDoor

/-
  THE WALKS of package round: Known, Up, cut.
-/
namespace Go.Proofs.YtdknfdncgmeimaaDoor
open Go.RowKit Nt Fm

def knownB (mode : Int) : Bool := decide (0 ≤ mode ∧ mode ≤ 4)
theorem known_any (mode : Int) (w : World) :
    Calls Tryd.prog 64 #[.int .i64 mode] w fun e w' => e = .returned (.bool (knownB mode)) ∧ w = w' := by
  by_cases h1 : 0 ≤ mode
  · by_cases h2 : mode ≤ 4
    · have e : knownB mode = true := by unfold knownB; simp; omega
      rw [e]; clear e
      go_enter Tryd.func64, Tryd.ntmps64
      go_wp2
      go_ret
      exact ⟨rfl, rfl⟩
    · have e : knownB mode = false := by unfold knownB; simp; omega
      rw [e]; clear e
      go_enter Tryd.func64, Tryd.ntmps64
      go_wp2
      go_ret
      exact ⟨rfl, rfl⟩
  · have e : knownB mode = false := by unfold knownB; simp; omega
    rw [e]; clear e
    go_enter Tryd.func64, Tryd.ntmps64
    go_wp2
    go_ret
    exact ⟨rfl, rfl⟩

/-- is a quotient that was rounded down increased? -/
def upB (neg odd : Bool) (half mode : Int) : Bool :=
  if mode = 1 then !neg else if mode = 2 then neg else if mode = 3 then false else if mode = 4 then decide (0 ≤ half) else decide (0 < half) || (decide (half = 0) && odd)

set_option maxHeartbeats 1000000 in
theorem up_any (neg odd : Bool) (half mode : Int) (w : World) (h0 : 0 ≤ mode) (h1 : mode ≤ 4) :
    Calls Tryd.prog 101 #[.bool neg, .bool odd, .int .i64 half, .int .i64 mode] w fun e w' => e = .returned (.bool (upB neg odd half mode)) ∧ w = w' := by
  have hm : mode = 0 ∨ mode = 1 ∨ mode = 2 ∨ mode = 3 ∨ mode = 4 := by omega
  rcases hm with rfl | rfl | rfl | rfl | rfl
  · by_cases h2 : 0 < half
    · have e : upB neg odd half 0 = true := by simp [upB, h2]
      rw [e]; clear e
      go_enter Tryd.func101, Tryd.ntmps101
      go_wp2
      go_ret
      exact ⟨rfl, rfl⟩
    · by_cases h3 : half = 0
      · subst h3
        have e : upB neg odd 0 0 = odd := by simp [upB]
        rw [e]; clear e
        cases odd
        all_goals
          go_enter Tryd.func101, Tryd.ntmps101
          go_wp2
          go_ret
          exact ⟨rfl, rfl⟩
      · have e : upB neg odd half 0 = false := by simp [upB, h2, h3]
        rw [e]; clear e
        have h4 : (half == 0) = false := by simp [h3]
        go_enter Tryd.func101, Tryd.ntmps101
        go_wp2
        go_ret
        exact ⟨rfl, rfl⟩
  · have e : upB neg odd half 1 = !neg := by simp [upB]
    rw [e]; clear e
    go_enter Tryd.func101, Tryd.ntmps101
    go_wp2
    go_ret
    exact ⟨rfl, rfl⟩
  · have e : upB neg odd half 2 = neg := by simp [upB]
    rw [e]; clear e
    go_enter Tryd.func101, Tryd.ntmps101
    go_wp2
    go_ret
    exact ⟨rfl, rfl⟩
  · have e : upB neg odd half 3 = false := by simp [upB]
    rw [e]; clear e
    go_enter Tryd.func101, Tryd.ntmps101
    go_wp2
    go_ret
    exact ⟨rfl, rfl⟩
  · by_cases h2 : 0 ≤ half
    · have e : upB neg odd half 4 = true := by simp [upB, h2]
      rw [e]; clear e
      go_enter Tryd.func101, Tryd.ntmps101
      go_wp2
      go_ret
      exact ⟨rfl, rfl⟩
    · have e : upB neg odd half 4 = false := by simp [upB, h2]
      rw [e]; clear e
      go_enter Tryd.func101, Tryd.ntmps101
      go_wp2
      go_ret
      exact ⟨rfl, rfl⟩

/-- a number cut by k places, and rounded -/
def cutM (neg : Bool) (m : Nat) (k mode : Int) : Nat :=
  if k ≤ 0 then m * 2 ^ (-k).toNat
  else if m % 2 ^ k.toNat = 0 then m / 2 ^ k.toNat
  else m / 2 ^ k.toNat + if upB neg (decide (m / 2 ^ k.toNat % 2 = 1)) (sgn2 ((m % 2 ^ k.toNat : Nat) : Int) ((2 ^ (k.toNat - 1) : Nat) : Int)) mode then 1 else 0
def cutC (m : Nat) (k : Int) : Bool := decide (0 < k) && lostB m k.toNat

/-- the lowest limb tells whether it is odd -/
theorem limb_odd {w : World} {v : Value} {q : Nat} (h : NV w v q) : ∃ (ao : Option Addr) (n c : Nat), v = .slice ao n c ∧ n ≤ c ∧ c ≤ maxLen ∧
    ((n ≤ 0 ∧ q = 0) ∨ (0 < n ∧ ∃ b off d, ao = some ⟨b, off, none⟩ ∧ b < w.heap.size ∧ d < 4294967296 ∧ w.cell? ⟨b, off, none⟩ = some (.int .u32 ((d : Nat) : Int)) ∧ d % 2 = q % 2)) := by
  obtain ⟨l, h1, h2, h3, ao, cap, h4, h5, h6, h7⟩ := h
  refine ⟨ao, l.length, cap, h4, h5, h6, ?_⟩
  by_cases hl : l.length ≤ 0
  · left; refine ⟨hl, ?_⟩
    rw [← h2, List.length_eq_zero_iff.1 (by omega : l.length = 0)]; rfl
  · right
    refine ⟨by omega, ?_⟩
    rcases h7 with h7 | ⟨b, off, e1, e2, e3⟩
    · exact absurd h7 hl
    · refine ⟨b, off, l.getD 0 0, e1, e2, h1.1.getD 0, by have := e3 0 (by omega); simpa using this, ?_⟩
      rw [← h2]
      cases l with
      | nil => simp at hl
      | cons d l => simp [val]; omega

set_option maxHeartbeats 4000000 in
theorem cut_any (neg : Bool) (va : Value) (m k0 : Nat) (k mode : Int) (w : World) (ha : NV w va m) (hm : m < 2 ^ k0) (hk0 : k0 ≤ 1000000) (h0 : -1000000 ≤ k) (h1 : k ≤ 1000000) (hm0 : 0 ≤ mode) (hm1 : mode ≤ 4) :
    Calls Tryd.prog 88 #[.bool neg, va, .int .i64 k, .int .i64 mode] w (RetNVB w (cutM neg m k mode) (cutC m k)) := by
  obtain ⟨ao, n, c, rfl⟩ := ha.shape
  have HA := Lib.hid ha
  have HM := Lib.hid hm
  clear ha hm
  by_cases hk : k ≤ 0
  · have e1 : cutM neg m k mode = m * 2 ^ (-k).toNat := by unfold cutM; rw [if_pos hk]
    have e2 : cutC m k = false := by unfold cutC; simp; omega
    rw [e1, e2]; clear e1 e2
    go_enter Tryd.func88, Tryd.ntmps88
    go_wp2_with fail
    refine (left_any _ m (-k).toNat k0 _ _ HA.out (by omega) HM.out (by omega) (by omega)).mono ?_
    rintro e w1 ⟨v, rfl, hv, hb⟩
    go_wp2
    go_ret2
    exact ⟨v, rfl, hv, hb⟩
  · obtain ⟨p, rfl⟩ : ∃ p : Nat, k = p := ⟨k.toNat, by omega⟩
    have hp : 0 < p := by omega
    have ec : cutC m (p : Int) = lostB m p := by unfold cutC; simp [hp]
    have em : cutM neg m (p : Int) mode = if m % 2 ^ p = 0 then m / 2 ^ p else m / 2 ^ p + if upB neg (decide (m / 2 ^ p % 2 = 1)) (sgn2 ((m % 2 ^ p : Nat) : Int) ((2 ^ (p - 1) : Nat) : Int)) mode then 1 else 0 := by
      unfold cutM; rw [if_neg hk]; simp only [Int.toNat_natCast]
    rw [ec]
    by_cases hl : m % 2 ^ p = 0
    · have el : lostB m p = false := by unfold lostB; simp [hl]
      rw [if_pos hl] at em
      rw [em, el]
      have EL := Lib.hid el
      clear ec em hl el
      go_enter Tryd.func88, Tryd.ntmps88
      go_wp2_with fail
      refine (right_any _ m p k0 _ _ HA.out rfl HM.out (by omega) (by omega)).mono ?_
      rintro e w1 ⟨v, rfl, hv, hb⟩
      rw [EL.out]
      go_wp2
      go_ret2
      exact ⟨v, rfl, hv, hb⟩
    · have el : lostB m p = true := by unfold lostB; simp [hl]
      rw [if_neg hl] at em
      rw [el]
      have EL := Lib.hid el
      clear ec hl el
      have hdm := Nat.div_add_mod m (2 ^ p)
      have hlt := Nat.mod_lt m (Nat.two_pow_pos p)
      have hq2 : m / 2 ^ p * 2 ^ p ≤ m := Nat.div_mul_le_self _ _
      have hrest : m - m / 2 ^ p * 2 ^ p = m % 2 ^ p := by rw [Nat.mul_comm]; omega
      have hq1 : m / 2 ^ p ≤ m := Nat.div_le_self _ _
      generalize hqd : m / 2 ^ p = q at *
      generalize hrd : m % 2 ^ p = r at *
      have EM := Lib.hid em
      clear em
      have HQ2 := Lib.hid hq2
      have HRE := Lib.hid hrest
      have HQ1 := Lib.hid hq1
      have HLT := Lib.hid hlt
      have HQD := Lib.hid hqd
      have HRD := Lib.hid hrd
      clear hdm hq2 hrest hq1 hlt hqd hrd
      have hqb : q < 2 ^ k0 := Nat.lt_of_le_of_lt HQ1.out HM.out
      have HQB := Lib.hid hqb
      clear hqb
      go_enter Tryd.func88, Tryd.ntmps88
      go_wp2_with fail
      refine (right_any _ m p k0 _ _ HA.out rfl HM.out (by omega) (by omega)).mono ?_
      rintro e w1 ⟨vq, rfl, hvq, hb1⟩
      rw [EL.out]
      rw [HQD.out] at hvq
      obtain ⟨aq, nq, cq, rfl, hnq1, hnq2, hodd⟩ := limb_odd hvq
      unfold maxLen at hnq2
      have HVQ := Lib.hid hvq
      have HODD := Lib.hid hodd
      have HB1 := Lib.hid hb1
      clear hvq hodd hb1
      go_wp2_with fail
      refine (left_any _ q p k0 _ _ HVQ.out rfl HQB.out (by omega) (by omega)).mono ?_
      rintro e w2 ⟨v2, rfl, hv2, hb2⟩
      obtain ⟨a2, n2, c2, rfl⟩ := hv2.shape
      have HV2 := Lib.hid hv2
      have HB2 := Lib.hid hb2
      clear hv2 hb2
      go_wp2_with fail
      refine (minus_any _ _ m (q * 2 ^ p) k0 _ ((HA.out.below HB1.out).below HB2.out) HV2.out HQ2.out HM.out (by omega)).mono ?_
      rintro e w3 ⟨v3, rfl, hv3, hb3⟩
      rw [HRE.out] at hv3
      obtain ⟨a3, n3, c3, rfl⟩ := hv3.shape
      have HV3 := Lib.hid hv3
      have HB3 := Lib.hid hb3
      clear hv3 hb3
      go_wp2_with fail
      refine (natOf_any 1 (by omega) (by omega) _).mono ?_
      rintro e w4 ⟨v4, rfl, hv4, hb4⟩
      obtain ⟨a4, n4, c4, rfl⟩ := hv4.shape
      have HV4 := Lib.hid hv4
      have HB4 := Lib.hid hb4
      clear hv4 hb4
      go_wp2_with fail
      refine (left_any _ 1 (p - 1) 1 _ _ HV4.out (by omega) (by omega) (by omega) (by omega)).mono ?_
      rintro e w5 ⟨v5, rfl, hv5, hb5⟩
      rw [Nat.one_mul] at hv5
      obtain ⟨a5, n5, c5, rfl⟩ := hv5.shape
      have HV5 := Lib.hid hv5
      have HB5 := Lib.hid hb5
      clear hv5 hb5
      go_wp2_with fail
      refine (compare_any _ _ r (2 ^ (p - 1)) _ ((HV3.out.below HB4.out).below HB5.out) HV5.out).mono ?_
      rintro e w6 ⟨rfl, nw, rfl⟩
      generalize hhalf : sgn2 (r : Int) ((2 ^ (p - 1) : Nat) : Int) = half at *
      have hb15 : Below w1.heap.size w1 (w5.drewN nw) := by
        have e2 := HB2.out
        have e3 := e2.trans (HB3.out.mono e2.size)
        have e4 := e3.trans (HB4.out.mono e3.size)
        have e5 := e4.trans (HB5.out.mono e4.size)
        exact ⟨e5.os, e5.tape, e5.output, e5.size, e5.block⟩
      have hbw : Below w.heap.size w (w5.drewN nw) := HB1.out.trans (hb15.mono HB1.out.size)
      have hvq5 : NV (w5.drewN nw) (.slice aq nq cq) q := HVQ.out.below hb15
      have hodd5 := HODD.out
      rcases hodd5 with ⟨o1, o2⟩ | ⟨o1, b, off, d, rfl, o3, o4, o5, o6⟩
      · have eo : decide (q % 2 = 1) = false := by rw [o2]; rfl
        have EO := Lib.hid eo
        clear o2 eo
        have HVQ5 := Lib.hid hvq5
        have HBW := Lib.hid hbw
        clear hvq5 hbw hb15 hhalf
        cases hu : upB neg false half mode
        · have HU := Lib.hid hu
          go_wp2_with (go_at_call 101; refine (up_any _ _ _ _ _ (by omega) (by omega)).mono ?_; rintro e w' ⟨rfl, rfl⟩)
          go_ret2
          exact ⟨_, rfl, by rw [EM.out, EO.out, HU.out]; exact HVQ5.out, HBW.out⟩
        · have HU := Lib.hid hu
          go_wp2_with (go_at_call 101; refine (up_any _ _ _ _ _ (by omega) (by omega)).mono ?_; rintro e w' ⟨rfl, rfl⟩)
          refine (natOf_any 1 (by omega) (by omega) _).mono ?_
          rintro e w7 ⟨v7, rfl, hv7, hb7⟩
          obtain ⟨a7, n7, c7, rfl⟩ := hv7.shape
          have HV7 := Lib.hid hv7
          have HB7 := Lib.hid hb7
          clear hv7 hb7
          go_wp2_with fail
          refine (plus_any _ _ q 1 (k0 + 1) _ (HVQ5.out.below HB7.out) HV7.out (Nat.lt_of_lt_of_le HQB.out (Nat.pow_le_pow_right (by decide) (by omega))) (by have := Nat.two_pow_pos k0; rw [Nat.pow_succ]; omega) (by omega)).mono ?_
          rintro e w8 ⟨v8, rfl, hv8, hb8⟩
          go_wp2
          go_ret2
          exact ⟨_, rfl, by rw [EM.out, EO.out, HU.out]; exact hv8, HBW.out.trans ((HB7.out.mono HBW.out.size).trans (hb8.mono (Nat.le_trans HBW.out.size HB7.out.size)))⟩
      · have hcell : (w5.drewN nw).cell? ⟨b, off, none⟩ = some (.int .u32 ((d : Nat) : Int)) := (hb15.cell (p := ⟨b, off, none⟩) o3).trans o5
        rw [World.cell?_drewN] at hcell
        have HVQ5 := Lib.hid hvq5
        have HBW := Lib.hid hbw
        clear hvq5 hbw hb15 hhalf
        by_cases hd : d % 2 = 1
        · have eo : decide (q % 2 = 1) = true := by rw [← o6]; simp [hd]
          have EO := Lib.hid eo
          have hd2 : ((d : Int) % 2 == 1) = true := by rw [beq_iff_eq]; omega
          clear o6 eo hd o5
          cases hu : upB neg true half mode
          · have HU := Lib.hid hu
            go_wp2_with (go_at_call 101; refine (up_any _ _ _ _ _ (by omega) (by omega)).mono ?_; rintro e w' ⟨rfl, rfl⟩)
            go_ret2
            exact ⟨_, rfl, by rw [EM.out, EO.out, HU.out]; exact HVQ5.out, HBW.out⟩
          · have HU := Lib.hid hu
            go_wp2_with (go_at_call 101; refine (up_any _ _ _ _ _ (by omega) (by omega)).mono ?_; rintro e w' ⟨rfl, rfl⟩)
            refine (natOf_any 1 (by omega) (by omega) _).mono ?_
            rintro e w7 ⟨v7, rfl, hv7, hb7⟩
            obtain ⟨a7, n7, c7, rfl⟩ := hv7.shape
            have HV7 := Lib.hid hv7
            have HB7 := Lib.hid hb7
            clear hv7 hb7
            go_wp2_with fail
            refine (plus_any _ _ q 1 (k0 + 1) _ (HVQ5.out.below HB7.out) HV7.out (Nat.lt_of_lt_of_le HQB.out (Nat.pow_le_pow_right (by decide) (by omega))) (by have := Nat.two_pow_pos k0; rw [Nat.pow_succ]; omega) (by omega)).mono ?_
            rintro e w8 ⟨v8, rfl, hv8, hb8⟩
            go_wp2
            go_ret2
            exact ⟨_, rfl, by rw [EM.out, EO.out, HU.out]; exact hv8, HBW.out.trans ((HB7.out.mono HBW.out.size).trans (hb8.mono (Nat.le_trans HBW.out.size HB7.out.size)))⟩
        · have eo : decide (q % 2 = 1) = false := by rw [← o6]; simp [hd]
          have EO := Lib.hid eo
          have hd2 : ((d : Int) % 2 == 1) = false := by rw [beq_eq_false_iff_ne]; omega
          clear o6 eo hd o5
          cases hu : upB neg false half mode
          · have HU := Lib.hid hu
            go_wp2_with (go_at_call 101; refine (up_any _ _ _ _ _ (by omega) (by omega)).mono ?_; rintro e w' ⟨rfl, rfl⟩)
            go_ret2
            exact ⟨_, rfl, by rw [EM.out, EO.out, HU.out]; exact HVQ5.out, HBW.out⟩
          · have HU := Lib.hid hu
            go_wp2_with (go_at_call 101; refine (up_any _ _ _ _ _ (by omega) (by omega)).mono ?_; rintro e w' ⟨rfl, rfl⟩)
            refine (natOf_any 1 (by omega) (by omega) _).mono ?_
            rintro e w7 ⟨v7, rfl, hv7, hb7⟩
            obtain ⟨a7, n7, c7, rfl⟩ := hv7.shape
            have HV7 := Lib.hid hv7
            have HB7 := Lib.hid hb7
            clear hv7 hb7
            go_wp2_with fail
            refine (plus_any _ _ q 1 (k0 + 1) _ (HVQ5.out.below HB7.out) HV7.out (Nat.lt_of_lt_of_le HQB.out (Nat.pow_le_pow_right (by decide) (by omega))) (by have := Nat.two_pow_pos k0; rw [Nat.pow_succ]; omega) (by omega)).mono ?_
            rintro e w8 ⟨v8, rfl, hv8, hb8⟩
            go_wp2
            go_ret2
            exact ⟨_, rfl, by rw [EM.out, EO.out, HU.out]; exact hv8, HBW.out.trans ((HB7.out.mono HBW.out.size).trans (hb8.mono (Nat.le_trans HBW.out.size HB7.out.size)))⟩
end Go.Proofs.YtdknfdncgmeimaaDoor

/-
  THE WALK of dyad.Align.
-/
namespace Go.Proofs.YtdknfdncgmeimaaDoor
open Go.RowKit Nt Fm

/-- two numbers with one exponent -/
def RetAl (w : World) (a b : Nat) (x : Int) (e : Ending) (w' : World) : Prop := ∃ va vb, e = .returned (.tuple #[va, vb, .int .i64 x]) ∧ NV w' va a ∧ NV w' vb b ∧ Below w.heap.size w w'

set_option maxRecDepth 100000 in
set_option maxHeartbeats 4000000 in
theorem align_any (vc vd : Value) (c d : D) (k0 : Nat) (w : World) (hc : DV w vc c) (hd : DV w vd d) (hcm : c.m < 2 ^ k0) (hdm : d.m < 2 ^ k0) (hk0 : k0 ≤ 400000) (ec0 : -400000 ≤ c.e) (ec1 : c.e ≤ 400000) (ed0 : -400000 ≤ d.e) (ed1 : d.e ≤ 400000) :
    Calls Tryd.prog 89 #[vc, vd] w (RetAl w (c.m * 2 ^ (c.e - min c.e d.e).toNat) (d.m * 2 ^ (d.e - min c.e d.e).toNat) (min c.e d.e)) := by
  obtain ⟨gc, mc, xc⟩ := c
  obtain ⟨gd, md, xd⟩ := d
  obtain ⟨sc, rfl, hsc⟩ := hc
  obtain ⟨sd, rfl, hsd⟩ := hd
  simp only at *
  obtain ⟨ac, nc, cc, rfl⟩ := hsc.shape
  obtain ⟨ad, nd, cd, rfl⟩ := hsd.shape
  obtain ⟨nx, ny, X, hX, h1, h2, hcase⟩ : ∃ (nx ny : Nat) (X : Int), X = min xc xd ∧ nx = (xc - min xc xd).toNat ∧ ny = (xd - min xc xd).toNat ∧ ((xd < xc ∧ X = xd ∧ xc - xd = nx ∧ xd - xd = (ny : Int)) ∨ (xc ≤ xd ∧ X = xc ∧ xc - xc = (nx : Int) ∧ xd - xc = ny)) :=
    ⟨_, _, _, rfl, rfl, rfl, by omega⟩
  rw [← h1, ← h2, ← hX]
  have HSC := Lib.hid hsc
  have HSD := Lib.hid hsd
  have HCM := Lib.hid hcm
  have HDM := Lib.hid hdm
  have nb : nx ≤ 800000 ∧ ny ≤ 800000 := by omega
  obtain ⟨nb1, nb2⟩ := nb
  clear hsc hsd hcm hdm hX h1 h2
  rcases hcase with ⟨h, hx, h1, h2⟩ | ⟨h, hx, h1, h2⟩
  all_goals
    have H1 := Lib.hid h1
    have H2 := Lib.hid h2
    have HX := Lib.hid hx
    clear h1 h2 hx
    go_enter Tryd.func89, Tryd.ntmps89
    go_wp2_with fail
    have BC := Lib.hid (((Box.new w (.bool gc) (.slice ac nc cc) (.int .i64 xc) 25).alloc (.cells #[.bool gd, .slice ad nd cd, .int .i64 xd] 25)).drew)
    have BD0 := Box.new (w.alloc (.cells #[.bool gc, .slice ac nc cc, .int .i64 xc] 25)) (.bool gd) (.slice ad nd cd) (.int .i64 xd) 25
    rw [size_alloc] at BD0
    have BD := Lib.hid BD0.drew
    clear BD0
    have B0 := Lib.hid ((((Below.refl w.heap.size w).alloc (Nat.le_refl _) (.cells #[.bool gc, .slice ac nc cc, .int .i64 xc] 25)).alloc (by simp) (.cells #[.bool gd, .slice ad nd cd, .int .i64 xd] 25)).drew)
    go_region_held3 (fun w' => w'.cell? ⟨w.heap.size, 1, none⟩ = some (.slice ac nc cc) ∧ w'.cell? ⟨w.heap.size, 2, none⟩ = some (.int .i64 xc) ∧ w'.cell? ⟨w.heap.size + 1, 1, none⟩ = some (.slice ad nd cd) ∧ w'.cell? ⟨w.heap.size + 1, 2, none⟩ = some (.int .i64 xd))
      (first
        | go_keep
        | (obtain ⟨p0, p1, p2, -, -, -⟩ := (Box.below BC.out hb1).cells
           obtain ⟨r0, r1, r2, -, -, -⟩ := (Box.below BD.out hb1).cells
           exact ⟨p1, p2, r1, r2⟩)
        | (obtain ⟨p0, p1, p2, -, -, -⟩ := (Box.below (Box.below BC.out HB1.out) hb2).cells
           obtain ⟨r0, r1, r2, -, -, -⟩ := (Box.below (Box.below BD.out HB1.out) hb2).cells
           exact ⟨p1, p2, r1, r2⟩))
      (first
        | (go_at_call_of 78 (Value.slice ac nc cc); refine (left_any (.slice ac nc cc) mc nx k0 _ _ (HSC.out.below B0.out) (by first | exact H1.out | (rw [IntWalk.i64_in _ (by omega)]; have := H1.out; omega)) HCM.out (by omega) (by omega)).mono ?_; rintro r w1 ⟨v1, rfl, hv1, hb1⟩; have HB1 := Lib.hid hb1; have HV1 := Lib.hid hv1; have B1 := Lib.hid (bl_thru B0.out (Nat.le_refl _) hb1))
        | (go_at_call_of 78 (Value.slice ad nd cd); refine (left_any (.slice ad nd cd) md ny k0 _ _ (HSD.out.below B1.out) (by first | exact H2.out | (rw [IntWalk.i64_in _ (by omega)]; have := H2.out; omega)) HDM.out (by omega) (by omega)).mono ?_; rintro r w2 ⟨v2, rfl, hv2, hb2⟩; have HB2 := Lib.hid hb2; have HV2 := Lib.hid hv2))
    clear hb1 hb2 hv1 hv2
    go_wp2
    go_ret3
    exact ⟨v1, v2, by rw [HX.out]; rfl, HV1.out.below HB2.out, HV2.out, bl_thru B1.out (Nat.le_refl _) HB2.out⟩
end Go.Proofs.YtdknfdncgmeimaaDoor

/-
  THE WALKS of slices.Clone, slices.Equal at limbs.
-/
namespace Go.Proofs.YtdknfdncgmeimaaDoor
open Go.RowKit Nt Fm

set_option maxHeartbeats 2000000 in
theorem clone_any (v : Value) (m k0 : Nat) (w : World) (hv : NV w v m) (hm : m < 2 ^ k0) (hk0 : k0 ≤ 3000000) :
    Calls Tryd.prog 95 #[v] w (RetNV w m) := by
  obtain ⟨l, hn, el, ⟨hl, ao, cap, rfl, hcap, hmx, hc⟩, hlen⟩ := hv.len hm
  have hmx' := hmx
  unfold maxLen at hmx'
  have EL := Lib.hid el
  have HMX := Lib.hid hmx
  clear el hm hmx hv
  have q22 : ∀ (w : World) (a : Option Addr) (n c n' c' : Nat), (binOp .eql 23 (.slice a n c) (.slice none n' c')).run Tryd.prog w = .ok (.bool a.isNone) w := fun w a n c n' c' => Lib.run_eql_slice_nil w _ _ a n c n' c' Tryd.underlying23
  have hnone : ao = none → l.length ≤ 0 := by
    rintro rfl
    rcases hc with h | ⟨b, off, h, _⟩
    · exact h
    · cases h
  cases ao with
  | none =>
    have h0 : m = 0 := by rw [← EL.out, List.length_eq_zero_iff.1 (by have := hnone rfl; omega : l.length = 0)]; rfl
    subst h0
    clear hc hnone
    go_enter Tryd.func95, Tryd.ntmps95
    go_wp2
    go_ret
    exact ⟨_, rfl, NV.nil _, Below.refl _ _⟩
  | some p =>
    have hA : ∃ (b off : Nat) (spot : _), p = ⟨b, off, spot⟩ := ⟨_, _, _, rfl⟩
    obtain ⟨b, off, spot, rfl⟩ := hA
    have hcc : ∀ j u, (lc l)[j]? = some u → w.cell? ((⟨b, off, spot⟩ : Addr).add j) = some u := by
      intro j u hj
      rcases hc with h | ⟨b', off', h, h2, h3⟩
      · have : l = [] := List.length_eq_zero_iff.1 (by omega)
        subst this; simp [lc] at hj
      · cases h
        have hj2 : j < l.length := by
          have := (List.getElem?_eq_some_iff.1 hj).1; rw [lc_length] at this; exact this
        rw [show (⟨b, off, none⟩ : Addr).add j = ⟨b, off + j, none⟩ from by unfold Addr.add; split <;> simp_all, h3 j hj2, ← hj]
        simp [lc, List.getD, hj2]
    have A := Lib.hid hcc
    clear hc hcc hnone
    obtain ⟨i0, hi, hz0, hz1, hz2⟩ := info_parts infoU32
    have HI := Lib.hid hi
    have HZ0 := Lib.hid hz0
    have HZ1 := Lib.hid hz1
    have HZ2 := Lib.hid hz2
    clear hi hz0 hz1 hz2
    go_enter Tryd.func95, Tryd.ntmps95
    go_wp2_with (at_builtin; refine wpList_append_own _ rfl _ _ 23 rfl w.heap.size 71 i0 (.int .u32 0) 1 4 Tryd.underlying23 HI.out HZ0.out HZ1.out HZ2.out rfl (by decide) _ _ _ rfl (World.ownsRow_made w #[] 0 (Nat.le_refl _) (Nat.zero_le _) (by simp)) ⟨b, off, spot⟩ l.length cap (lc l) rfl ?qc1 ?qc2 ?qc3 ?qc4 ?qc5 ?qc6 ?_)
    case qc1 => rw [lc_length]; omega
    case qc2 =>
      intro j u hj
      have := A.out j u hj
      exact Lib.cell?_alloc_some _ this
    case qc3 => intro u hu; simp [lc] at hu; obtain ⟨x, _, rfl⟩ := hu; rfl
    case qc4 => rw [Nat.zero_add]; unfold maxLen; omega
    case qc5 => rw [Nat.zero_add]; omega
    case qc6 => simp
    intro v' w1 hown hgrow hnil
    go_wp2
    go_ret
    refine ⟨v', rfl, ?_, ?_⟩
    · have h2 : w1.ownsRow w.heap.size 71 1 v' l.length (lc l) := by simpa using hown
      rw [← EL.out]
      exact (own_lim' h2 hl).nrm hn
    · exact ((Below.refl _ w).alloc (Nat.le_refl _) _).grown hgrow (by simp) (by intro k hk; simp [Value.ownBlock] at hk; omega)

theorem eq_take {l m : List Nat} {k : Nat} (hl : k < l.length) (hm : k < m.length) (h : l.take k = m.take k) (he : l.getD k 0 = m.getD k 0) : l.take (k + 1) = m.take (k + 1) := by
  rw [List.take_succ_eq_append_getElem hl, List.take_succ_eq_append_getElem hm, h]
  have e1 : l.getD k 0 = l[k] := by simp [List.getD, hl]
  have e2 : m.getD k 0 = m[k] := by simp [List.getD, hm]
  rw [← e1, ← e2, he]

set_option maxHeartbeats 2000000 in
theorem equal_any (va vb : Value) (a b : Nat) (w : World) (ha : NV w va a) (hb : NV w vb b) :
    Calls Tryd.prog 70 #[va, vb] w fun e w' => e = .returned (.bool (decide (a = b))) ∧ ∃ n, w' = w.drewN n := by
  obtain ⟨l, hl, rfl, -, aa, ca, rfl, hca, hma, hA⟩ := ha
  obtain ⟨m, hm, rfl, -, ab, cb, rfl, hcb, hmb, hB⟩ := hb
  unfold maxLen at hma hmb
  have hinj : ∀ k, l.getD k 0 ≠ m.getD k 0 → decide (val l = val m) = false := fun k h => by
    rw [decide_eq_false_iff_not]; intro h2; exact h (by rw [nrm_inj hl hm h2])
  by_cases hlt : l.length ≠ m.length
  · have e : decide (val l = val m) = false := by
      rw [decide_eq_false_iff_not]; intro h2; exact hlt (by rw [nrm_inj hl hm h2])
    have hb0 : ((l.length : Int) != (m.length : Int)) = true := by simp; omega
    rw [e]; clear e hA hB hinj hlt
    go_enter Tryd.func70, Tryd.ntmps70
    go_wp2
    go_ret
    exact ⟨rfl, 0, rfl⟩
  · have h1 : l.length ≤ m.length := by omega
    have h2 : m.length ≤ l.length := by omega
    have hb0 : ((l.length : Int) != (m.length : Int)) = false := by simp; omega
    have heq : l.take l.length = m.take l.length → decide (val l = val m) = true := fun h => by
      rw [List.take_length, List.take_of_length_le (by omega)] at h; simp [h]
    generalize decide (val l = val m) = R at *
    have HINJ := Lib.hid hinj
    have HEQ := Lib.hid heq
    clear hinj heq hlt
    rcases hA with hA | ⟨ba, oa, rfl, hba, hcA⟩
    all_goals rcases hB with hB | ⟨bb, ob, rfl, hbb, hcB⟩
    all_goals first
      | (exfalso; omega)
      | skip
    all_goals
      go_enter Tryd.func70, Tryd.ntmps70
      go_wp2
      go_loopw [13] (fun i wr => ∃ k : Nat, k ≤ l.length ∧ i = .int .i64 k ∧ l.take k = m.take k ∧ ∃ n, wr = w.drewN n) (fun i _ => l.length - (intOf i).toNat)
      case atStart => exact ⟨0, Nat.zero_le _, rfl, by simp, 0, rfl⟩
      case round =>
        obtain ⟨k, hk, rfl, htk, nw, rfl⟩ := hrel
        have HTK := Lib.hid htk
        clear htk
        by_cases hk0 : k < l.length
        · first
            | (exfalso; omega)
            | (obtain ⟨x, hx⟩ : ∃ x, x = l.getD k 0 := ⟨_, rfl⟩
               obtain ⟨y, hy⟩ : ∃ y, y = m.getD k 0 := ⟨_, rfl⟩
               have hcx := hcA k (by omega)
               have hcy := hcB k (by omega)
               rw [← hx] at hcx
               rw [← hy] at hcy
               have HX := Lib.hid hx
               have HY := Lib.hid hy
               clear hx hy hcA hcB
               have i1 : (k : Int) < (l.length : Int) := by omega
               have i2 : (k : Int) < (m.length : Int) := by omega
               by_cases hxy : x = y
               · subst hxy
                 have hb0 : ((x : Int) != (x : Int)) = false := by simp
                 go_wp2
                 go_quiet (fail)
                 go_wp2
                 go_roundw
                 case rel => exact ⟨k + 1, by omega, by go_num, eq_take hk0 (by omega) HTK.out (by rw [← HX.out, ← HY.out]), _, rfl⟩
                 case measure => simp [intOf]; omega
               · have hb0 : ((x : Int) != (y : Int)) = true := by simp; omega
                 have hR : R = false := HINJ.out k (by rw [← HX.out, ← HY.out]; exact hxy)
                 have HR := Lib.hid hR
                 clear hR
                 go_wp2
                 go_quiet (fail)
                 go_wp2
                 go_ret
                 exact ⟨by rw [HR.out]; rfl, _, by rw [World.drewN_drewN]⟩)
        · have hR : R = true := HEQ.out (by have := HTK.out; rw [show k = l.length by omega] at this; exact this)
          have HR := Lib.hid hR
          clear hR
          go_wp2
          go_ret
          exact ⟨by rw [HR.out]; rfl, _, rfl⟩
end Go.Proofs.YtdknfdncgmeimaaDoor
