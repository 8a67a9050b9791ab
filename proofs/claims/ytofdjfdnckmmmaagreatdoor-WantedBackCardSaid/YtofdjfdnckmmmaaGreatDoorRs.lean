/-
  A ROW OF STRINGS of a call's own: one laid behind; slices.Reverse.
-/
import Derived.Test.YtofdjfdnckmmmaaGreatDoorSl
import Derived.Sort.WalkB12
import Derived.Deep.LoopGhost
import Derived.Lib.SlicesMore
import Derived.Lib.Walk
set_option linter.unusedVariables false
set_option linter.unusedSimpArgs false
namespace Go.Proofs.YtofdjfdnckmmmaaGreatDoor
open Go.RowKit Go.Lib Go.Sort Nt

abbrev encL : List UInt8 → Value := fun l => .string ⟨l.toArray⟩
/-- the cells of some texts -/
def lst (l : List (List UInt8)) : List Value := l.map encL
theorem lst_length (l : List (List UInt8)) : (lst l).length = l.length := by simp [lst]
theorem infoStr : (Tryz.prog.info? 9).map (fun i => (i.zero, i.size, i.bytes)) = some (some (.string ⟨#[]⟩), 1, 16) := by kernel_rfl
theorem ownS_below {w w' : World} {base n : Nat} {T : TypeId} {v : Value} {xs : List Value} (h : w.ownsRow base T 1 v n xs) (hb : Below w.heap.size w w') : w'.ownsRow base T 1 v n xs := by
  refine ⟨h.1, ?_⟩
  rcases h.2 with h0 | ⟨g, cap, cur, rfl, h1, hg, h2⟩
  · exact Or.inl h0
  · exact Or.inr ⟨g, cap, cur, rfl, h1, by rw [hb.block g (Array.getElem?_eq_some_iff.1 hg).1]; exact hg, h2⟩
theorem ownS_nil (w : World) (base : Nat) : w.ownsRow base 9 1 (.slice none 0 0) ([] : List (List UInt8)).length (lst []) := World.ownsRow_nil _ _ _ _
theorem wpList_pushS {ops : Array Oper} {rest : List Oper} {o : Oper} {a : Act} {Q : Exit → Act → World → Prop} {w0 : World} {X : ByteArray} (hgd : o.guard = none) (s x : Operand)
    (ho : o.op = .call { callee := .builtin .append, args := #[s, x], argTypes := #[40, 40] })
    (base : Nat) (hbase : base ≤ w0.heap.size) (v : Value) (l : List (List UInt8)) (hs : a.eval s = v) (hown : w0.ownsRow base 9 1 v l.length (lst l))
    (d : List UInt8) (hx : a.eval x = .slice (some ⟨w0.heap.size, 0, none⟩) 1 1) (hX : X = ⟨d.toArray⟩) (hl : l.length ≤ 10000000)
    (h : ∀ v' w', w'.ownsRow base 9 1 v' (l ++ [d]).length (lst (l ++ [d])) → Below base w0 w' → (w0.alloc (.cells #[.string X] 9)).grownBy w' v.ownBlock → wpList Tryz.prog ops Q rest (a.put o.dst v') w') :
    wpList Tryz.prog ops Q (o :: rest) a (w0.alloc (.cells #[.string X] 9)) := by
  obtain ⟨i0, hi, hz0, hz1, hz2⟩ := info_parts infoStr
  subst hX
  refine wpList_append_own _ hgd s x 40 ho base 9 i0 (.string ⟨#[]⟩) 1 16 Tryz.underlying40 hi hz0 hz1 hz2 rfl (by decide) v l.length (lst l) hs (hown.alloc _) ⟨w0.heap.size, 0, none⟩ 1 1 [.string ⟨d.toArray⟩] hx rfl (cell_one_new _ _ _) (by intro u hu; simp at hu; subst hu; rfl) (by unfold maxLen; omega) (by omega) (by simp; omega) ?_
  intro v' w1 hown1 hgrow _
  refine h v' w1 ?_ ?_ hgrow
  · rw [List.length_append]
    have : lst (l ++ [d]) = lst l ++ [.string ⟨d.toArray⟩] := by simp [lst]
    rw [this]; exact hown1
  · refine ((Below.refl base w0).alloc hbase _).trans (grown_below hgrow (by simp; omega) ?_)
    intro k hk
    exact (hown.lt k hk).1

set_option maxHeartbeats 1600000 in
set_option maxRecDepth 1000000 in
theorem reverseS_arr (blk off cap : Nat) (d : Array (List UInt8)) (w : World) (hH : Holds encL w blk off d) (hsz : d.size ≤ 9223372036854775807) :
    Calls Tryz.prog 128 #[.slice (some ⟨blk, off, none⟩) d.size cap] w fun e w' => e = .returned (.tuple #[]) ∧ ∃ n, w' = putRow encL (Sort.ahead w n) blk off d.reverse := by
  go_enter Tryz.func128, Tryz.ntmps128
  go_wp2
  go_loopg [2, 3] d.size (fun k s2 s3 wr => ∃ (i jn : Nat) (jz : Int) (dk : Array (List UInt8)) (n : Nat), s2 = .int .i64 i ∧ s3 = .int .i64 jz ∧ ((i : Int) < jz → jz = jn ∧ jn < d.size) ∧ (¬ (i : Int) < jz → ¬ i < jn) ∧ jn - i ≤ k ∧
    dk.size = d.size ∧ wr = putRow encL (Sort.ahead w n) blk off dk ∧ reverseLoop i jn dk = reverseLoop 0 (d.size - 1) d)
  case atStart => exact ⟨0, d.size - 1, (d.size : Int) - 1, d, 0, rfl, rfl, fun h => ⟨by omega, by omega⟩, fun h => by omega, by omega, rfl, (putRow_self encL w blk off d hH).symm, rfl⟩
  case round =>
    obtain ⟨i, jn, jz, dk, n, rfl, rfl, h1, h2, hk, hds, hwr, heq⟩ := hrel
    by_cases hlt : (i : Int) < jz
    · obtain ⟨rfl, hjn⟩ := h1 hlt
      have hij : i < jn := by omega
      have hHk : Holds encL wr blk off dk := by rw [hwr]; exact holds_putRow encL _ blk off d dk (holds_ahead encL w n blk off d hH) hds
      obtain ⟨ci, fi⟩ := hHk i (by omega)
      obtain ⟨cj, fj⟩ := hHk jn (by omega)
      have A : Aside (wr = putRow encL (Sort.ahead w n) blk off dk) := hwr
      clear hwr hHk hH h1 h2
      go_wp2_with fail
      go_region
      go_wp2
      go_roundg (jn - 1 - (i + 1))
      case measure => omega
      case rel =>
        rw [reverseLoop, if_pos hij] at heq
        exact ⟨i + 1, jn - 1, (jn : Int) - 1, swp dk i jn, n + 1, by simp, rfl, fun h => ⟨by omega, by omega⟩, fun h => by omega, Nat.le_refl _, by rw [size_swp]; exact hds,
          swap_world encL (by omega) (by omega) A.out (by first | rfl | simp [encL, getElem!_pos, show jn < dk.size by omega]) (by first | rfl | simp [encL, getElem!_pos, show i < dk.size by omega]), heq⟩
    · have hnot := h2 hlt
      go_wp2
      go_end0
      refine ⟨rfl, n, ?_⟩
      rw [reverseLoop, if_neg hnot] at heq
      rw [← Lib.reverseLoop_reverse, ← heq]

set_option maxHeartbeats 1000000 in
theorem reverseS_none (a : Option Addr) (cap : Nat) (w : World) :
    Calls Tryz.prog 128 #[.slice a 0 cap] w fun e w' => e = .returned (.tuple #[]) ∧ w' = w := by
  go_enter Tryz.func128, Tryz.ntmps128
  go_wp2
  go_loopg [2, 3] 0 (fun _ s2 s3 wr => s2 = .int .i64 0 ∧ s3 = .int .i64 (-1) ∧ wr = w)
  case atStart => exact ⟨rfl, rfl, rfl⟩
  case round =>
    obtain ⟨rfl, rfl, rfl⟩ := hrel
    go_wp2
    go_end0
    exact ⟨rfl, rfl⟩
theorem heap_putRowS {w : World} {g : Nat} {cur : Array Value} {T : TypeId} {f : Nat × Nat} (d : Array (List UInt8)) (h : w.heap[g]? = some (.cells cur T f)) : (putRow encL w g 0 d).heap[g]? = some (.cells (putCells encL 0 d cur) T f) := by
  unfold putRow mapBlock
  simp [Array.getElem?_modify, h, onCells]
theorem below_putRowS {w : World} {base g : Nat} (n : Nat) (d : Array (List UInt8)) (hb : base ≤ g) : Below base w (putRow encL (Sort.ahead w n) g 0 d) := by
  refine ⟨rfl, rfl, rfl, ?_, fun k hk => ?_⟩
  · unfold putRow mapBlock Sort.ahead; simp
  · unfold putRow mapBlock Sort.ahead
    simp [Array.getElem?_modify, show g ≠ k by omega]
theorem putCellsS_take (d : Array (List UInt8)) (cur : Array Value) (h : d.size ≤ cur.size) : (putCells encL 0 d cur).toList.take d.size = d.toList.map encL := by
  apply List.ext_getElem?
  intro i
  rw [List.getElem?_take]
  by_cases hi : i < d.size
  · have hc : i < cur.size := by omega
    rw [if_pos hi]
    simp [putCells, hi, hc]
  · rw [if_neg hi]
    simp [Nat.le_of_not_lt hi]
set_option maxHeartbeats 1000000 in
theorem revS_own {base : Nat} (v : Value) (l : List (List UInt8)) (w : World) (h : w.ownsRow base 9 1 v l.length (lst l)) :
    Calls Tryz.prog 128 #[v] w fun e w' => e = .returned (.tuple #[]) ∧ w'.ownsRow base 9 1 v l.length (lst l.reverse) ∧ Below base w w' := by
  rcases h.2 with ⟨rfl, h0⟩ | ⟨g, cap, cur, rfl, hb, hg, h1, h2, h3, h4⟩
  · refine (reverseS_none none 0 w).mono ?_
    rintro e w' ⟨rfl, rfl⟩
    have : l = [] := List.length_eq_zero_iff.1 h0
    subst this
    exact ⟨rfl, h, Below.refl _ _⟩
  · have hm : cap ≤ 9223372036854775807 := by unfold maxLen at h2; omega
    have hH : Holds encL w g 0 l.toArray := by
      intro j hj
      have hj2 : j < l.length := by simpa using hj
      refine ⟨?_, ?_⟩
      · have := h.cells (g := g) (by simp [Value.ownBlock]) j (encL l[j]) (by simp [lst, hj2])
        rw [show (⟨g, 0, none⟩ : Addr).add j = ⟨g, 0 + j, none⟩ from by unfold Addr.add; split <;> simp_all] at this
        rw [this]; simp [hj2]
      · simp [World.frozen?, hg]
    have hr := reverseS_arr g 0 cap l.toArray w hH (by simp; omega)
    rw [show l.toArray.size = l.length by simp] at hr
    refine hr.mono ?_
    rintro e w' ⟨rfl, n, rfl⟩
    refine ⟨rfl, ⟨by simp [lst], Or.inr ⟨g, cap, _, rfl, hb, heap_putRowS _ hg, h1, h2, ?_, ?_⟩⟩, below_putRowS n _ hb⟩
    · simp [putCells]; omega
    · have := putCellsS_take l.toArray.reverse cur (by simp; omega)
      rw [Nat.mul_one]
      rw [show l.toArray.reverse.size = l.length by simp] at this
      rw [this]; simp [lst]
end Go.Proofs.YtofdjfdnckmmmaaGreatDoor
