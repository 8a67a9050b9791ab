/-
  A ROW OF STRINGS of a call's own: one laid behind; slices.Reverse.
-/
import Derived.Test.YtmpdbmaokbhcjaaDoorSl
import Derived.Sort.WalkB12
import Derived.Deep.LoopGhost
import Derived.Lib.SlicesMore
import Derived.Lib.Walk
set_option linter.unusedVariables false
set_option linter.unusedSimpArgs false
namespace Go.Proofs.YtmpdbmaokbhcjaaDoor
open Go.RowKit Go.Lib Go.Sort Nt

abbrev encL : List UInt8 → Value := fun l => .string ⟨l.toArray⟩
/-- the cells of some texts -/
def lst (l : List (List UInt8)) : List Value := l.map encL
theorem lst_length (l : List (List UInt8)) : (lst l).length = l.length := by simp [lst]
theorem infoStr : (Tryd.prog.info? 9).map (fun i => (i.zero, i.size, i.bytes)) = some (some (.string ⟨#[]⟩), 1, 16) := by kernel_rfl
theorem ownS_below {w w' : World} {base n : Nat} {T : TypeId} {v : Value} {xs : List Value} (h : w.ownsRow base T 1 v n xs) (hb : Below w.heap.size w w') : w'.ownsRow base T 1 v n xs := by
  refine ⟨h.1, ?_⟩
  rcases h.2 with h0 | ⟨g, cap, cur, rfl, h1, hg, h2⟩
  · exact Or.inl h0
  · exact Or.inr ⟨g, cap, cur, rfl, h1, by rw [hb.block g (Array.getElem?_eq_some_iff.1 hg).1]; exact hg, h2⟩
theorem ownS_nil (w : World) (base : Nat) : w.ownsRow base 9 1 (.slice none 0 0) ([] : List (List UInt8)).length (lst []) := World.ownsRow_nil _ _ _ _


theorem heap_putRowS {w : World} {g : Nat} {cur : Array Value} {T : TypeId} {f : Nat × Nat} (d : Array (List UInt8)) (h : w.heap[g]? = some (.cells cur T f)) : (putRow encL w g 0 d).heap[g]? = some (.cells (putCells encL 0 d cur) T f) := by
  unfold putRow mapBlock
  simp [Array.getElem?_modify, h, onCells]
theorem below_putRowS {w : World} {base g : Nat} (n : Nat) (d : Array (List UInt8)) (hb : base ≤ g) : Below base w (putRow encL (Sort.ahead w n) g 0 d) := by
  refine ⟨rfl, rfl, rfl, ?_, fun k hk => ?_⟩
  · unfold putRow mapBlock Sort.ahead; simp
  · unfold putRow mapBlock Sort.ahead
    simp [Array.getElem?_modify, show g ≠ k by omega]
theorem putCellsS_take (d : Array (List UInt8)) (cur : Array Value) (h : d.size ≤ cur.size) : (putCells encL 0 d cur).toList.take d.size = d.toList.map encL := by
  apply List.ext_getElem?
  intro i
  rw [List.getElem?_take]
  by_cases hi : i < d.size
  · have hc : i < cur.size := by omega
    rw [if_pos hi]
    simp [putCells, hi, hc]
  · rw [if_neg hi]
    simp [Nat.le_of_not_lt hi]
end Go.Proofs.YtmpdbmaokbhcjaaDoor
