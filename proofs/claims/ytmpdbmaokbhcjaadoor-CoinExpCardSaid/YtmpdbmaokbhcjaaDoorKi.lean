/-
  LAWS FOR THE WALK: a row of ints that the call itself has made.
-/
import Derived.Test.YtmpdbmaokbhcjaaDoorKt
import Derived.Test.YtmpdbmaokbhcjaaDoorKw
import Derived.Maps.AppendAt
set_option linter.unusedVariables false
set_option linter.unusedSimpArgs false
namespace Go.Proofs.YtmpdbmaokbhcjaaDoor
open Go.RowKit Kn

def ic (l : List Nat) : List Value := l.map fun d => Value.int .i64 ((d : Nat) : Int)
/-- a row of ints in a block -/
def Ai (w : World) (b : Nat) (cs : List Nat) : Prop := w.heap[b]? = some (.cells (ic cs).toArray 3 (0, 0))
theorem Ai.below {w w' : World} {b : Nat} {cs : List Nat} (h : Ai w b cs) (hb : Below w.heap.size w w') : Ai w' b cs := (hb.block b (Array.getElem?_eq_some_iff.1 h).1).trans h
theorem Ai.lt {w : World} {b : Nat} {cs : List Nat} (h : Ai w b cs) : b < w.heap.size := (Array.getElem?_eq_some_iff.1 h).1
theorem Ai.cell {w : World} {b : Nat} {cs : List Nat} (h : Ai w b cs) {j : Nat} (hj : j < cs.length) : w.cell? ⟨b, j, none⟩ = some (.int .i64 ((cs.getD j 0 : Nat) : Int)) ∧ w.frozen? ⟨b, j, none⟩ = false := by
  unfold Ai at h
  refine ⟨?_, ?_⟩
  · simp [World.cell?, h, ic, List.getD, hj]
  · simp [World.frozen?, h]
theorem Ai.set {w : World} {b : Nat} {cs : List Nat} (h : Ai w b cs) (j d : Nat) : Ai (w.setCell ⟨b, j, none⟩ (.int .i64 d)) b (cs.set j d) := by
  have h2 := bt_set (o := j) (v := .int .i64 (d : Int)) h
  unfold Ai
  rw [h2]
  simp [ic, List.map_set]
theorem infoInt : (Tryd.prog.info? 3).map (fun i => (i.zero, i.size, i.bytes)) = some (some (.int .i64 0), 1, 8) := by kernel_rfl
def tpS (t k : Nat) : ByteArray := ⟨#[UInt8.ofNat (t * 2 ^ (16 - k) / 256), UInt8.ofNat (t * 2 ^ (16 - k) % 256)]⟩
theorem row2 {w : World} {b : Nat} {T : TypeId} {x y : Value} (h : w.heap[b]? = some (.cells #[x, y] T (0, 0))) : w.cell? ⟨b, 0, none⟩ = some x ∧ w.cell? ⟨b, 1, none⟩ = some y := by
  refine ⟨?_, ?_⟩ <;> simp [World.cell?, h, Array.getElem?_eq_getElem]
theorem conv2 (w : World) (X Y : Int) : (convert 89 9 (.slice (some ⟨w.heap.size, 0, none⟩) 2 2)).run Tryd.prog (w.alloc (.cells #[.int .u8 X, .int .u8 Y] 5)) = .ok (.string ⟨#[UInt8.ofNat X.toNat, UInt8.ofNat Y.toNat]⟩) (w.alloc (.cells #[.int .u8 X, .int .u8 Y] 5)) := by
  rw [run_convert_bytes_string _ _ _ _ _ _ _ Tryd.underlying89 Tryd.underlying5 Tryd.underlying9]
  rw [run_bytesToString (ns := [X, Y])]
  · rfl
  · have := run_loadCells_list (P := Tryd.prog) (w.alloc (.cells #[.int .u8 X, .int .u8 Y] 5)) ⟨w.heap.size, 0, none⟩ [.int .u8 X, .int .u8 Y] (fun j v hv => by
      match j, hv with
      | 0, hv => simp at hv; subst hv; exact (row2 (heap_alloc_new w _)).1
      | 1, hv => simp at hv; subst hv; exact (row2 (heap_alloc_new w _)).2
      | j + 2, hv => simp at hv)
    exact this
theorem two_eq {a b c d : Nat} (h : a = c) (k : b = d) : (⟨#[UInt8.ofNat a, UInt8.ofNat b]⟩ : ByteArray) = ⟨#[UInt8.ofNat c, UInt8.ofNat d]⟩ := by rw [h, k]
set_option maxRecDepth 100000 in
set_option maxHeartbeats 8000000 in
theorem tapeOf_any (t k : Nat) (hk : k ≤ 10) (ht : t < 2 ^ k) (w : World) : Calls Tryd.prog 26 #[.int .i64 t, .int .i64 k] w fun e w' => e = .returned (.string (tpS t k)) ∧ Below w.heap.size w w' := by
  have ht2 : t < 1024 := Nat.lt_of_lt_of_le ht (Nat.pow_le_pow_right (by decide) hk)
  have CV := Lib.hid (conv2 w)
  have hk2 : k = 0 ∨ k = 1 ∨ k = 2 ∨ k = 3 ∨ k = 4 ∨ k = 5 ∨ k = 6 ∨ k = 7 ∨ k = 8 ∨ k = 9 ∨ k = 10 := by omega
  rcases hk2 with rfl | rfl | rfl | rfl | rfl | rfl | rfl | rfl | rfl | rfl | rfl
  all_goals
    simp only [Nat.reducePow] at ht
    go_enter Tryd.func26, Tryd.ntmps26
    have cv := CV.out
    go_wp2
    go_ret
    refine ⟨congrArg (fun s => Ending.returned (Value.string s)) (two_eq ?_ ?_), by go_grown⟩ <;> simp only [Nat.reduceSub, Nat.reducePow] <;> omega
set_option maxRecDepth 100000 in
theorem tpS_bits (k t : Nat) (hk : k ≤ 10) (ht : t < 2 ^ k) : tbits (tpS t k) 0 = blN k t ++ List.replicate (16 - k) false := by
  have h : ∀ k : Fin 11, ∀ t : Fin 1024, t.val < 2 ^ k.val → tbits (tpS t.val k.val) 0 = blN k.val t.val ++ List.replicate (16 - k.val) false := by decide +kernel
  exact h ⟨k, by omega⟩ ⟨t, Nat.lt_of_lt_of_le ht (Nat.pow_le_pow_right (by decide) hk)⟩ ht
end Go.Proofs.YtmpdbmaokbhcjaaDoor
