/-
  A SLICE OF uint64s of a call's own (plain seats): what it owns reads as the numbers; slices.Clone, Sort of it.
-/
import Derived.Test.YthibhlimogcpeaaSuW
import Derived.Lib.SlicesMore
import Derived.Lib.Walk
import Derived.Lib.Hide
import Derived.Lib.SliceRun
import Derived.Lib.LazyBuf
import Derived.BigQuiet
import Derived.Deep.QuietTactic
set_option linter.unusedVariables false
set_option linter.unusedSimpArgs false
namespace Go.Proofs.Ythibhlimogcpeaa
open Go.RowKit Go.Lib Go.Sort

/-- a slice of uint64s that reads as the list l -/
def LU (w : World) (v : Value) (l : List Int) : Prop :=
  (∀ d ∈ l, 0 ≤ d ∧ d ≤ 18446744073709551615) ∧ ∃ (ao : Option Addr) (cap : Nat), v = .slice ao l.length cap ∧ l.length ≤ cap ∧ cap ≤ maxLen ∧
    (l.length ≤ 0 ∨ ∃ b off, ao = some ⟨b, off, none⟩ ∧ b < w.heap.size ∧ ∀ i, i < l.length → w.cell? ⟨b, off + i, none⟩ = some (.int .u64 (l.getD i 0)))
theorem LU.below {w w' : World} {v : Value} {l : List Int} (h : LU w v l) (hb : Below w.heap.size w w') : LU w' v l := by
  obtain ⟨h1, ao, cap, h2, h3, h4, h5⟩ := h
  refine ⟨h1, ao, cap, h2, h3, h4, ?_⟩
  rcases h5 with h5 | ⟨b, off, h5, h6, h7⟩
  · exact Or.inl h5
  · exact Or.inr ⟨b, off, h5, Nat.lt_of_lt_of_le h6 hb.size, fun i hi => (hb.cell (p := ⟨b, off + i, none⟩) h6).trans (h7 i hi)⟩

def lu (l : List Int) : List Value := l.map (Value.int .u64)
theorem lu_length (l : List Int) : (lu l).length = l.length := by simp [lu]
theorem own_below {w w' : World} {base n : Nat} {T : TypeId} {v : Value} {xs : List Value} (h : w.ownsRow base T 1 v n xs) (hb : Below w.heap.size w w') : w'.ownsRow base T 1 v n xs := by
  refine ⟨h.1, ?_⟩
  rcases h.2 with h0 | ⟨g, cap, cur, rfl, h1, hg, h2⟩
  · exact Or.inl h0
  · exact Or.inr ⟨g, cap, cur, rfl, h1, by rw [hb.block g (Array.getElem?_eq_some_iff.1 hg).1]; exact hg, h2⟩
theorem own_ge {w : World} {base n : Nat} {T : TypeId} {v : Value} {xs : List Value} (h : w.ownsRow base T 1 v n xs) (k : Nat) (hk : v.ownBlock = some k) : base ≤ k := by
  rcases h.2 with ⟨rfl, -⟩ | ⟨g, cap, cur, rfl, h1, -⟩
  · simp [Value.ownBlock] at hk
  · simp [Value.ownBlock] at hk; omega
theorem own_nil64 (w : World) (base : Nat) (T : TypeId) : w.ownsRow base T 1 (.slice none 0 0) 0 [] := ⟨rfl, Or.inl ⟨rfl, rfl⟩⟩
theorem infoU64 : (Try.prog.info? 24).map (fun i => (i.zero, i.size, i.bytes)) = some (some (.int .u64 0), 1, 8) := by kernel_rfl
theorem own_lu {w : World} {base n : Nat} {v : Value} {l : List Int} (h : w.ownsRow base 24 1 v n (lu l)) (hl : ∀ d ∈ l, 0 ≤ d ∧ d ≤ 18446744073709551615) : LU w v l := by
  have hn : l.length = n := by have := h.1; simpa [lu] using this
  refine ⟨hl, ?_⟩
  rcases h.2 with ⟨rfl, h0⟩ | ⟨g, cap, cur, rfl, hb, hg, h1, h2, h3, h4⟩
  · exact ⟨none, 0, by rw [hn, h0], by omega, Nat.zero_le _, Or.inl (by omega)⟩
  · refine ⟨some ⟨g, 0, none⟩, cap, by rw [hn], by omega, h2, Or.inr ⟨g, 0, rfl, (Array.getElem?_eq_some_iff.1 hg).1, ?_⟩⟩
    intro i hi
    have := h.cells (g := g) (by simp [Value.ownBlock]) i (Value.int .u64 (l.getD i 0)) (by simp [lu, List.getD, hi])
    rw [show (⟨g, 0, none⟩ : Addr).add i = ⟨g, 0 + i, none⟩ from by unfold Addr.add; split <;> simp_all] at this
    exact this
set_option maxHeartbeats 2000000 in
theorem clone64_any (v : Value) (l : List Int) (w : World) (hv : LU w v l) (hr : l.length * 8 ≤ 140737488351232) :
    Calls Try.prog 5 #[v] w fun e w' => ∃ v', e = .returned v' ∧ w'.ownsRow w.heap.size 24 1 v' l.length (lu l) ∧ Below w.heap.size w w' := by
  obtain ⟨hl, ao, cap, rfl, hcap, hmx, hc⟩ := hv
  have hmx' := hmx
  unfold maxLen at hmx'
  have HMX := Lib.hid hmx
  clear hmx
  have q22 : ∀ (w : World) (a : Option Addr) (n c n' c' : Nat), (binOp .eql 22 (.slice a n c) (.slice none n' c')).run Try.prog w = .ok (.bool a.isNone) w := fun w a n c n' c' => Lib.run_eql_slice_nil w _ _ a n c n' c' Try.underlying22
  have hnone : ao = none → l.length ≤ 0 := by
    rintro rfl
    rcases hc with h | ⟨b, off, h, _⟩
    · exact h
    · cases h
  cases ao with
  | none =>
    have h0 : l = [] := List.length_eq_zero_iff.1 (by have := hnone rfl; omega)
    subst h0
    clear hc hnone
    go_enter Try.func5, Try.ntmps5
    go_wp2
    go_ret
    exact ⟨_, rfl, ⟨rfl, Or.inl ⟨rfl, rfl⟩⟩, Below.refl _ _⟩
  | some p =>
    have hA : ∃ (b off : Nat) (spot : _), p = ⟨b, off, spot⟩ := ⟨_, _, _, rfl⟩
    obtain ⟨b, off, spot, rfl⟩ := hA
    have hcc : ∀ j u, (lu l)[j]? = some u → w.cell? ((⟨b, off, spot⟩ : Addr).add j) = some u := by
      intro j u hj
      rcases hc with h | ⟨b', off', h, h2, h3⟩
      · have : l = [] := List.length_eq_zero_iff.1 (by omega)
        subst this; simp [lu] at hj
      · cases h
        have hj2 : j < l.length := by
          have := (List.getElem?_eq_some_iff.1 hj).1; rw [lu_length] at this; exact this
        rw [show (⟨b, off, none⟩ : Addr).add j = ⟨b, off + j, none⟩ from by unfold Addr.add; split <;> simp_all, h3 j hj2, ← hj]
        simp [lu, List.getD, hj2]
    have A := Lib.hid hcc
    clear hc hcc hnone
    obtain ⟨i0, hi, hz0, hz1, hz2⟩ := info_parts infoU64
    have HI := Lib.hid hi
    have HZ0 := Lib.hid hz0
    have HZ1 := Lib.hid hz1
    have HZ2 := Lib.hid hz2
    clear hi hz0 hz1 hz2
    go_enter Try.func5, Try.ntmps5
    go_wp2_with (at_builtin; refine wpList_append_own _ rfl _ _ 22 rfl w.heap.size 24 i0 (.int .u64 0) 1 8 Try.underlying22 HI.out HZ0.out HZ1.out HZ2.out rfl (by decide) _ _ _ rfl (World.ownsRow_made w #[] 0 (Nat.le_refl _) (Nat.zero_le _) (by simp)) ⟨b, off, spot⟩ l.length cap (lu l) rfl ?qc1 ?qc2 ?qc3 ?qc4 ?qc5 ?qc6 ?_)
    case qc1 => rw [lu_length]; omega
    case qc2 =>
      intro j u hj
      have := A.out j u hj
      exact Lib.cell?_alloc_some _ this
    case qc3 => intro u hu; simp [lu] at hu; obtain ⟨x, _, rfl⟩ := hu; rfl
    case qc4 => rw [Nat.zero_add]; unfold maxLen; omega
    case qc5 => rw [Nat.zero_add]; omega
    case qc6 => simp
    intro v' w1 hown hgrow hnil
    go_wp2
    go_ret
    refine ⟨v', rfl, ?_, ?_⟩
    · simpa using hown
    · exact ((Below.refl _ w).alloc (Nat.le_refl _) _).grown hgrow (by simp) (by intro k hk; simp [Value.ownBlock] at hk; omega)
theorem heap_putRow {w : World} {g : Nat} {cur : Array Value} {T : TypeId} {f : Nat × Nat} (d : Array Int) (h : w.heap[g]? = some (.cells cur T f)) : (putRow encU w g 0 d).heap[g]? = some (.cells (putCells encU 0 d cur) T f) := by
  unfold putRow mapBlock
  simp [Array.getElem?_modify, h, onCells]
theorem below_putRow {w : World} {base g : Nat} (n : Nat) (d : Array Int) (hb : base ≤ g) : Below base w (putRow encU (Sort.ahead w n) g 0 d) := by
  refine ⟨rfl, rfl, rfl, ?_, fun k hk => ?_⟩
  · unfold putRow mapBlock Sort.ahead; simp
  · unfold putRow mapBlock Sort.ahead
    simp [Array.getElem?_modify, show g ≠ k by omega]
theorem putCells_take (d : Array Int) (cur : Array Value) (h : d.size ≤ cur.size) : (putCells encU 0 d cur).toList.take d.size = d.toList.map encU := by
  apply List.ext_getElem?
  intro i
  rw [List.getElem?_take]
  by_cases hi : i < d.size
  · have hc : i < cur.size := by omega
    rw [if_pos hi]
    simp [putCells, hi, hc]
  · rw [if_neg hi]
    simp [Nat.le_of_not_lt hi]
/-- what a sort of a row of one's own leaves: a row of one's own -/
theorem own_sorted {base g cap : Nat} {cur : Array Value} {l l' : List Int} {w : World} {n : Nat} {os : Array Obj} (hb : base ≤ g) (hg : w.heap[g]? = some (.cells cur 24 (0, 0))) (h1 : l.length ≤ cap) (h2 : cap ≤ maxLen) (h3 : cur.size = cap) (hl : l'.length = l.length) :
    (grow (putRow encU (Sort.ahead w n) g 0 l'.toArray) os).ownsRow base 24 1 (.slice (some ⟨g, 0, none⟩) l.length cap) l.length (lu l') ∧ Below base w (grow (putRow encU (Sort.ahead w n) g 0 l'.toArray) os) := by
  have hg2 : (grow (putRow encU (Sort.ahead w n) g 0 l'.toArray) os).heap[g]? = some (.cells (putCells encU 0 l'.toArray cur) 24 (0, 0)) := by
    have h4 := heap_putRow (w := Sort.ahead w n) l'.toArray hg
    rw [heap_grow_old _ _ (Array.getElem?_eq_some_iff.1 h4).1]
    exact h4
  refine ⟨⟨by simp [lu, hl], Or.inr ⟨g, cap, _, rfl, hb, hg2, h1, h2, ?_, ?_⟩⟩, ?_⟩
  · simp [putCells]; omega
  · have := putCells_take l'.toArray cur (by simp; omega)
    rw [Nat.mul_one]
    rw [show l'.toArray.size = l.length by simp [hl]] at this
    rw [this]; simp [lu]
  · have hb2 := below_putRow (w := w) n l'.toArray hb
    have hgl := (Array.getElem?_eq_some_iff.1 hg).1
    refine ⟨hb2.os, hb2.tape, hb2.output, ?_, fun k hk => ?_⟩
    · have := hb2.size
      simp only [size_grow]; omega
    · rw [heap_grow_old _ _ (by simp [putRow, mapBlock, Sort.ahead]; omega)]
      exact hb2.block k hk
theorem own_holds {base g cap : Nat} {cur : Array Value} {l : List Int} {w : World} (h : w.ownsRow base 24 1 (.slice (some ⟨g, 0, none⟩) l.length cap) l.length (lu l)) (hg : w.heap[g]? = some (.cells cur 24 (0, 0))) : Holds encU w g 0 l.toArray := by
  intro j hj
  have hj2 : j < l.length := by simpa using hj
  refine ⟨?_, ?_⟩
  · have := h.cells (g := g) (by simp [Value.ownBlock]) j (Value.int .u64 l[j]) (by simp [lu, hj2])
    rw [show (⟨g, 0, none⟩ : Addr).add j = ⟨g, 0 + j, none⟩ from by unfold Addr.add; split <;> simp_all] at this
    rw [this]; simp [encU, hj2]
  · simp [World.frozen?, hg]
/-- only the block of v is turned -/
def Oth (v : Value) (w w' : World) : Prop := ∀ k, k < w.heap.size → v.ownBlock ≠ some k → w'.heap[k]? = w.heap[k]?
theorem oth_put {w : World} {g n0 n cap : Nat} {d : Array Int} {os : Array Obj} : Oth (.slice (some ⟨g, 0, none⟩) n0 cap) w (grow (putRow encU (Sort.ahead w n) g 0 d) os) := by
  intro k hk hne
  have hg : g ≠ k := fun h => hne (by rw [← h]; rfl)
  rw [heap_grow_old _ _ (by simp [putRow, mapBlock, Sort.ahead]; exact hk)]
  unfold putRow mapBlock Sort.ahead
  simp [Array.getElem?_modify, hg]
theorem own_oth {w w' : World} {base n : Nat} {T : TypeId} {v u : Value} {xs : List Value} (h : w.ownsRow base T 1 v n xs) (hne : ∀ k, v.ownBlock = some k → u.ownBlock ≠ some k) (hb : Oth u w w') : w'.ownsRow base T 1 v n xs := by
  refine ⟨h.1, ?_⟩
  rcases h.2 with h0 | ⟨g, cap, cur, rfl, h1, hg, h2⟩
  · exact Or.inl h0
  · exact Or.inr ⟨g, cap, cur, rfl, h1, by rw [hb g (Array.getElem?_eq_some_iff.1 hg).1 (hne g rfl)]; exact hg, h2⟩
set_option maxHeartbeats 1000000 in
theorem sort_own {base : Nat} (v : Value) (l : List Int) (w : World) (hsz : l.length < 4611686018427387904) (h : w.ownsRow base 24 1 v l.length (lu l)) :
    Calls Try.prog 6 #[v] w fun e w' => e = .returned (.tuple #[]) ∧ w'.ownsRow base 24 1 v l.length (lu (l.mergeSort fun x y => decide (x ≤ y))) ∧ Below base w w' ∧ Oth v w w' := by
  have h' := h
  rcases h.2 with ⟨rfl, h0⟩ | ⟨g, cap, cur, rfl, hb, hg, h1, h2, h3, h4⟩
  · have hl : l = [] := List.length_eq_zero_iff.1 h0
    subst hl
    refine (SoU.Sort_int_nil none 0 w).mono ?_
    rintro e w' ⟨rfl, rfl⟩
    refine ⟨rfl, ?_, Below.refl _ _, fun k _ _ => rfl⟩
    rw [List.mergeSort_nil]; exact h'
  · refine (sortU_some g 0 cap l w (own_holds h' hg) (Array.getElem?_eq_some_iff.1 hg).1 hsz).mono ?_
    rintro e w' ⟨rfl, n, os, rfl⟩
    have hs := own_sorted (w := w) (n := n) (os := os) hb hg h1 h2 (by omega) (List.length_mergeSort (le := fun x y => decide (x ≤ y)) l)
    exact ⟨rfl, hs.1, hs.2, oth_put⟩
set_option maxHeartbeats 2000000 in
theorem equal64_same (va vb : Value) (l : List Int) (w : World) (ha : LU w va l) (hb : LU w vb l) :
    Calls Try.prog 10 #[va, vb] w fun e w' => e = .returned (.bool true) ∧ ∃ n, w' = w.drewN n := by
  obtain ⟨-, aa, ca, rfl, hca, hma, hA⟩ := ha
  obtain ⟨-, ab, cb, rfl, hcb, hmb, hB⟩ := hb
  unfold maxLen at hma hmb
  have hb0 : ((l.length : Int) != (l.length : Int)) = false := by simp
  rcases hA with hA | ⟨ba, oa, rfl, hba, hcA⟩
  all_goals rcases hB with hB | ⟨bb, ob, rfl, hbb, hcB⟩
  all_goals
    go_enter Try.func10, Try.ntmps10
    go_wp2
    go_loopw [13] (fun i wr => ∃ k : Nat, k ≤ l.length ∧ i = .int .i64 k ∧ ∃ n, wr = w.drewN n) (fun i _ => l.length - (intOf i).toNat)
    case atStart => exact ⟨0, Nat.zero_le _, rfl, 0, rfl⟩
    case round =>
      obtain ⟨k, hk, rfl, nw, rfl⟩ := hrel
      by_cases hk0 : k < l.length
      · first
          | (exfalso; omega)
          | (have hcx := hcA k (by omega)
             have hcy := hcB k (by omega)
             generalize l.getD k 0 = x at hcx hcy
             clear hcA hcB
             have i1 : (k : Int) < (l.length : Int) := by omega
             have hb1 : ((x : Int) != (x : Int)) = false := by simp
             go_wp2
             go_quiet (fail)
             go_wp2
             go_roundw
             case rel => exact ⟨k + 1, by omega, by go_num, _, rfl⟩
             case measure => simp [intOf]; omega)
      · go_wp2
        go_ret
        exact ⟨rfl, _, rfl⟩
end Go.Proofs.Ythibhlimogcpeaa
