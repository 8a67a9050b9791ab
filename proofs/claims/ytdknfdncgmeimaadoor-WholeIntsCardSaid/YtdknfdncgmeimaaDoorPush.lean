/-
  A LAW FOR THE WALK: a limb appended to a list of limbs that the call itself has made.
-/
import Derived.Test.YtdknfdncgmeimaaDoorNat2
import Derived.Maps.AppendAt
set_option linter.unusedVariables false
set_option linter.unusedSimpArgs false
namespace Go.Proofs.YtdknfdncgmeimaaDoor
open Go.RowKit Nt

/-- the cells of some limbs -/
def lc (l : List Nat) : List Value := l.map fun d => Value.int .u32 ((d : Nat) : Int)
theorem lc_length (l : List Nat) : (lc l).length = l.length := by simp [lc]
theorem lc_append (l m : List Nat) : lc (l ++ m) = lc l ++ lc m := by simp [lc]

theorem infoU32 : (Tryd.prog.info? 71).map (fun i => (i.zero, i.size, i.bytes)) = some (some (.int .u32 0), 1, 4) := by kernel_rfl

theorem grown_below {B : Nat} {w w' : World} {row : Option Nat} (hg : w.grownBy w' row) (hB : B ≤ w.heap.size) (hr : ∀ k, row = some k → B ≤ k) : Below B w w' :=
  (Below.refl B w).grown hg hB hr

theorem wpList_push {ops : Array Oper} {rest : List Oper} {o : Oper} {a : Act} {Q : Exit → Act → World → Prop} {w0 : World} {X : Int} (hgd : o.guard = none) (s x : Operand)
    (ho : o.op = .call { callee := .builtin .append, args := #[s, x], argTypes := #[23, 23] })
    (base : Nat) (hbase : base ≤ w0.heap.size) (v : Value) (l : List Nat) (hs : a.eval s = v) (hown : w0.ownsRow base 71 1 v l.length (lc l))
    (d : Nat) (hx : a.eval x = .slice (some ⟨w0.heap.size, 0, none⟩) 1 1) (hX : X = (d : Int)) (hl : l.length ≤ 10000000)
    (h : ∀ v' w', w'.ownsRow base 71 1 v' (l ++ [d]).length (lc (l ++ [d])) → Below base w0 w' → wpList Tryd.prog ops Q rest (a.put o.dst v') w') :
    wpList Tryd.prog ops Q (o :: rest) a (w0.alloc (.cells #[.int .u32 X] 71)) := by
  obtain ⟨i0, hi, hz0, hz1, hz2⟩ := info_parts infoU32
  subst hX
  refine wpList_append_own _ hgd s x 23 ho base 71 i0 (.int .u32 0) 1 4 Tryd.underlying23 hi hz0 hz1 hz2 rfl (by decide) v l.length (lc l) hs (hown.alloc _) ⟨w0.heap.size, 0, none⟩ 1 1 [.int .u32 (d : Int)] hx rfl (cell_one_new _ _ _) (by intro u hu; simp at hu; subst hu; rfl) (by unfold maxLen; omega) (by omega) (by simp; omega) ?_
  intro v' w1 hown1 hgrow _
  refine h v' w1 ?_ ?_
  · rw [lc_append, List.length_append]; exact hown1
  · refine ((Below.refl base w0).alloc hbase _).trans (grown_below hgrow (by simp; omega) ?_)
    intro k hk
    exact (hown.lt k hk).1
theorem own_lim' {w : World} {base : Nat} {v : Value} {l : List Nat} (h : w.ownsRow base 71 1 v l.length (lc l)) (hl : Lims l) : Lim w v l := own_lim h hl
theorem own_nil (w : World) (base : Nat) : w.ownsRow base 71 1 (.slice none 0 0) ([] : List Nat).length (lc []) := World.ownsRow_nil _ _ _ _

theorem take_madeCells (n cap : Nat) (h : n ≤ cap) : (madeCells #[Value.int .u32 0] cap).toList.take n = lc (List.replicate n 0) := by
  rw [toList_madeCells_one, List.take_replicate, Nat.min_eq_left h]
  simp [lc]

theorem wpList_make_limbs {ops : Array Oper} {rest : List Oper} {o : Oper} {a : Act} {Q : Exit → Act → World → Prop} {w : World} (hg : o.guard = none) (l c : Operand)
    (hop : o.op = Op.makeSlice 23 l c) (LI CI : Int) (n cap : Nat) (hl : a.eval l = .int .i64 LI) (hc : a.eval c = .int .i64 CI) (hL : LI = (n : Int)) (hC : CI = (cap : Int)) (hle : n ≤ cap) (hcap : cap ≤ 10000000)
    (hK : ∀ w', w'.ownsRow w.heap.size 71 1 (.slice (some ⟨w.heap.size, 0, none⟩) n cap) n (lc (List.replicate n 0)) → Below w.heap.size w w' → wpList Tryd.prog ops Q rest (a.put o.dst (.slice (some ⟨w.heap.size, 0, none⟩) n cap)) w') :
    wpList Tryd.prog ops Q (o :: rest) a w := by
  obtain ⟨i0, hi, hz0, hz1, hz2⟩ := info_parts infoU32
  refine wpList_plain hg fun K hK' => ?_
  subst hL hC
  obtain ⟨w', hrun, r1, r2⟩ : ∃ w', (Instr.makeSlice 23 (.int .i64 (n : Int)) (.int .i64 (cap : Int))).run Tryd.prog w = .ok (.slice (some ⟨w.heap.size, 0, none⟩) n cap) w' ∧
      w'.ownsRow w.heap.size 71 1 (.slice (some ⟨w.heap.size, 0, none⟩) n cap) n (lc (List.replicate n 0)) ∧ Below w.heap.size w w' := by
    have hrun := run_make (P := Tryd.prog) w 23 71 i0 (.int .u32 0) Tryd.underlying23 hi hz0 .i64 .i64 n cap (by omega) (by omega) (by rw [hz2]; omega) (by omega)
    rw [Int.toNat_natCast, Int.toNat_natCast, hz1, Nat.mul_one] at hrun
    refine ⟨_, hrun, ?_, (Below.refl _ _).alloc (Nat.le_refl _) _⟩
    refine ⟨by rw [lc_length]; simp, Or.inr ⟨w.heap.size, cap, _, rfl, Nat.le_refl _, heap_alloc_new w _, hle, by unfold maxLen; omega, by rw [size_madeCells]; omega, ?_⟩⟩
    rw [Nat.mul_one]
    exact take_madeCells n cap hle
  unfold Oper.wp
  simp [execOp, hop, hl, hc, hrun, Result.andThen]
  exact hK' _ _ (hK w' r1 r2)

/-- a cell of what is owned -/
theorem own_cell {w : World} {base g n cap : Nat} {o : List Nat} (h : w.ownsRow base 71 1 (.slice (some ⟨g, 0, none⟩) n cap) n (lc o)) (j : Nat) (hj : j < n) :
    w.cell? ⟨g, j, none⟩ = some (.int .u32 ((o.getD j 0 : Nat) : Int)) ∧ w.frozen? ⟨g, j, none⟩ = false := by
  have hn : o.length = n := by have := h.1; rw [lc_length] at this; omega
  refine ⟨?_, h.frozenAt j⟩
  rw [h.cellAt j (by omega)]
  simp [lc, List.getD, show j < o.length by omega]
/-- a store into what is owned -/
theorem own_store {w : World} {base g n cap : Nat} {o : List Nat} (h : w.ownsRow base 71 1 (.slice (some ⟨g, 0, none⟩) n cap) n (lc o)) (j : Nat) {X : Int} (d : Nat) (hX : X = (d : Int)) :
    (w.setCell ⟨g, j, none⟩ (.int .u32 X)).ownsRow base 71 1 (.slice (some ⟨g, 0, none⟩) n cap) n (lc (o.set j d)) := by
  subst hX
  have := (h.stored j (.int .u32 (d : Int))).1
  have e : lc (o.set j d) = (lc o).set j (.int .u32 (d : Int)) := by unfold lc; rw [List.map_set]
  rw [e]; exact this
theorem own_lim2 {w : World} {base g n cap : Nat} {o : List Nat} (h : w.ownsRow base 71 1 (.slice (some ⟨g, 0, none⟩) n cap) n (lc o)) (hl : Lims o) : Lim w (.slice (some ⟨g, 0, none⟩) n cap) o := own_lim h hl
end Go.Proofs.YtdknfdncgmeimaaDoor
