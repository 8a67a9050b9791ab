/-
  LAWS FOR THE WALK: a row of ints that the call itself has made.
-/
import Derived.Test.YtfnchcogdmpojaaKt
import Derived.Test.YtfnchcogdmpojaaKw
import Derived.Maps.AppendAt
set_option linter.unusedVariables false
set_option linter.unusedSimpArgs false
namespace Go.Proofs.Ytfnchcogdmpojaa
open Go.RowKit Kn

def ic (l : List Nat) : List Value := l.map fun d => Value.int .i64 ((d : Nat) : Int)
/-- a row of ints in a block -/
def Ai (w : World) (b : Nat) (cs : List Nat) : Prop := w.heap[b]? = some (.cells (ic cs).toArray 3 (0, 0))
theorem Ai.below {w w' : World} {b : Nat} {cs : List Nat} (h : Ai w b cs) (hb : Below w.heap.size w w') : Ai w' b cs := (hb.block b (Array.getElem?_eq_some_iff.1 h).1).trans h
theorem Ai.lt {w : World} {b : Nat} {cs : List Nat} (h : Ai w b cs) : b < w.heap.size := (Array.getElem?_eq_some_iff.1 h).1
theorem Ai.cell {w : World} {b : Nat} {cs : List Nat} (h : Ai w b cs) {j : Nat} (hj : j < cs.length) : w.cell? ⟨b, j, none⟩ = some (.int .i64 ((cs.getD j 0 : Nat) : Int)) ∧ w.frozen? ⟨b, j, none⟩ = false := by
  unfold Ai at h
  refine ⟨?_, ?_⟩
  · simp [World.cell?, h, ic, List.getD, hj]
  · simp [World.frozen?, h]
theorem Ai.set {w : World} {b : Nat} {cs : List Nat} (h : Ai w b cs) (j d : Nat) : Ai (w.setCell ⟨b, j, none⟩ (.int .i64 d)) b (cs.set j d) := by
  have h2 := bt_set (o := j) (v := .int .i64 (d : Int)) h
  unfold Ai
  rw [h2]
  simp [ic, List.map_set]
theorem infoInt : (Try.prog.info? 3).map (fun i => (i.zero, i.size, i.bytes)) = some (some (.int .i64 0), 1, 8) := by kernel_rfl
theorem wpList_make_ints {ops : Array Oper} {rest : List Oper} {o : Oper} {a : Act} {Q : Exit → Act → World → Prop} {w : World} (hg : o.guard = none) (l c : Operand)
    (hop : o.op = Op.makeSlice 23 l c) (LI CI : Int) (n : Nat) (hl : a.eval l = .int .i64 LI) (hc : a.eval c = .int .i64 CI) (hL : LI = (n : Int)) (hC : CI = (n : Int)) (hcap : n ≤ 10000)
    (hK : ∀ w', Ai w' w.heap.size (List.replicate n 0) → Below w.heap.size w w' → wpList Try.prog ops Q rest (a.put o.dst (.slice (some ⟨w.heap.size, 0, none⟩) n n)) w') :
    wpList Try.prog ops Q (o :: rest) a w := by
  obtain ⟨i0, hi, hz0, hz1, hz2⟩ := info_parts infoInt
  refine wpList_plain hg fun K hK' => ?_
  subst hL hC
  obtain ⟨w', hrun, r1, r2⟩ : ∃ w', (Instr.makeSlice 23 (.int .i64 (n : Int)) (.int .i64 (n : Int))).run Try.prog w = .ok (.slice (some ⟨w.heap.size, 0, none⟩) n n) w' ∧ Ai w' w.heap.size (List.replicate n 0) ∧ Below w.heap.size w w' := by
    have hrun := run_make (P := Try.prog) w 23 3 i0 (.int .i64 0) Try.underlying23 hi hz0 .i64 .i64 n n (by omega) (by omega) (by rw [hz2]; omega) (by omega)
    rw [Int.toNat_natCast, hz1, Nat.mul_one] at hrun
    refine ⟨_, hrun, ?_, (Below.refl _ _).alloc (Nat.le_refl _) _⟩
    unfold Ai
    rw [heap_alloc_new]
    congr 2
    apply Array.toList_inj.1
    show (madeCells #[Value.int .i64 0] n).toList = _
    rw [toList_madeCells_one]
    simp [ic]
  unfold Oper.wp
  simp [execOp, hop, hl, hc, hrun, Result.andThen]
  exact hK' _ _ (hK w' r1 r2)
def tpS (t k : Nat) : ByteArray := ⟨#[UInt8.ofNat (t * 2 ^ (16 - k) / 256), UInt8.ofNat (t * 2 ^ (16 - k) % 256)]⟩
theorem row2 {w : World} {b : Nat} {T : TypeId} {x y : Value} (h : w.heap[b]? = some (.cells #[x, y] T (0, 0))) : w.cell? ⟨b, 0, none⟩ = some x ∧ w.cell? ⟨b, 1, none⟩ = some y := by
  refine ⟨?_, ?_⟩ <;> simp [World.cell?, h, Array.getElem?_eq_getElem]
theorem conv2 (w : World) (X Y : Int) : (convert 50 9 (.slice (some ⟨w.heap.size, 0, none⟩) 2 2)).run Try.prog (w.alloc (.cells #[.int .u8 X, .int .u8 Y] 5)) = .ok (.string ⟨#[UInt8.ofNat X.toNat, UInt8.ofNat Y.toNat]⟩) (w.alloc (.cells #[.int .u8 X, .int .u8 Y] 5)) := by
  rw [run_convert_bytes_string _ _ _ _ _ _ _ Try.underlying50 Try.underlying5 Try.underlying9]
  rw [run_bytesToString (ns := [X, Y])]
  · rfl
  · have := run_loadCells_list (P := Try.prog) (w.alloc (.cells #[.int .u8 X, .int .u8 Y] 5)) ⟨w.heap.size, 0, none⟩ [.int .u8 X, .int .u8 Y] (fun j v hv => by
      match j, hv with
      | 0, hv => simp at hv; subst hv; exact (row2 (heap_alloc_new w _)).1
      | 1, hv => simp at hv; subst hv; exact (row2 (heap_alloc_new w _)).2
      | j + 2, hv => simp at hv)
    exact this
theorem two_eq {a b c d : Nat} (h : a = c) (k : b = d) : (⟨#[UInt8.ofNat a, UInt8.ofNat b]⟩ : ByteArray) = ⟨#[UInt8.ofNat c, UInt8.ofNat d]⟩ := by rw [h, k]
set_option maxRecDepth 100000 in
set_option maxHeartbeats 8000000 in
theorem tapeOf_any (t k : Nat) (hk : k ≤ 10) (ht : t < 2 ^ k) (w : World) : Calls Try.prog 9 #[.int .i64 t, .int .i64 k] w fun e w' => e = .returned (.string (tpS t k)) ∧ Below w.heap.size w w' := by
  have ht2 : t < 1024 := Nat.lt_of_lt_of_le ht (Nat.pow_le_pow_right (by decide) hk)
  have CV := Lib.hid (conv2 w)
  have hk2 : k = 0 ∨ k = 1 ∨ k = 2 ∨ k = 3 ∨ k = 4 ∨ k = 5 ∨ k = 6 ∨ k = 7 ∨ k = 8 ∨ k = 9 ∨ k = 10 := by omega
  rcases hk2 with rfl | rfl | rfl | rfl | rfl | rfl | rfl | rfl | rfl | rfl | rfl
  all_goals
    simp only [Nat.reducePow] at ht
    go_enter Try.func9, Try.ntmps9
    have cv := CV.out
    go_wp2
    go_ret
    refine ⟨congrArg (fun s => Ending.returned (Value.string s)) (two_eq ?_ ?_), by go_grown⟩ <;> simp only [Nat.reduceSub, Nat.reducePow] <;> omega
set_option maxRecDepth 100000 in
theorem tpS_bits (k t : Nat) (hk : k ≤ 10) (ht : t < 2 ^ k) : tbits (tpS t k) 0 = blN k t ++ List.replicate (16 - k) false := by
  have h : ∀ k : Fin 11, ∀ t : Fin 1024, t.val < 2 ^ k.val → tbits (tpS t.val k.val) 0 = blN k.val t.val ++ List.replicate (16 - k.val) false := by decide +kernel
  exact h ⟨k, by omega⟩ ⟨t, Nat.lt_of_lt_of_le ht (Nat.pow_le_pow_right (by decide) hk)⟩ ht
end Go.Proofs.Ytfnchcogdmpojaa
