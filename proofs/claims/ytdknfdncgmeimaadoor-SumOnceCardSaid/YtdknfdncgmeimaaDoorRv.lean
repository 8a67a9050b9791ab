/-
  THE WALKS of slices.Reverse, slices.Clone at uint64s; sum.All.
-/
import Derived.Test.YtdknfdncgmeimaaDoorSa
import Derived.Test.YtdknfdncgmeimaaDoorSl
import Derived.Sort.WalkB12
import Derived.Deep.LoopGhost
import Derived.Lib.SlicesMore
import Derived.Lib.Walk
set_option linter.unusedVariables false
set_option linter.unusedSimpArgs false
namespace Go.Proofs.YtdknfdncgmeimaaDoor
open Go.RowKit Go.Lib Go.Sort Nt Fm Fl

def lu (l : List Int) : List Value := l.map (Value.int .u64)
theorem lu_length (l : List Int) : (lu l).length = l.length := by simp [lu]
abbrev encU : Int → Value := Value.int .u64
set_option maxHeartbeats 1600000 in
set_option maxRecDepth 1000000 in
theorem reverse_arr (blk off cap : Nat) (d : Array Int) (w : World) (hH : Holds encU w blk off d) (hsz : d.size ≤ 9223372036854775807) :
    Calls Tryd.prog 51 #[.slice (some ⟨blk, off, none⟩) d.size cap] w fun e w' => e = .returned (.tuple #[]) ∧ ∃ n, w' = putRow encU (Sort.ahead w n) blk off d.reverse := by
  go_enter Tryd.func51, Tryd.ntmps51
  go_wp2
  go_loopg [2, 3] d.size (fun k s2 s3 wr => ∃ (i jn : Nat) (jz : Int) (dk : Array Int) (n : Nat), s2 = .int .i64 i ∧ s3 = .int .i64 jz ∧ ((i : Int) < jz → jz = jn ∧ jn < d.size) ∧ (¬ (i : Int) < jz → ¬ i < jn) ∧ jn - i ≤ k ∧
    dk.size = d.size ∧ wr = putRow encU (Sort.ahead w n) blk off dk ∧ reverseLoop i jn dk = reverseLoop 0 (d.size - 1) d)
  case atStart => exact ⟨0, d.size - 1, (d.size : Int) - 1, d, 0, rfl, rfl, fun h => ⟨by omega, by omega⟩, fun h => by omega, by omega, rfl, (putRow_self encU w blk off d hH).symm, rfl⟩
  case round =>
    obtain ⟨i, jn, jz, dk, n, rfl, rfl, h1, h2, hk, hds, hwr, heq⟩ := hrel
    by_cases hlt : (i : Int) < jz
    · obtain ⟨rfl, hjn⟩ := h1 hlt
      have hij : i < jn := by omega
      have hHk : Holds encU wr blk off dk := by rw [hwr]; exact holds_putRow encU _ blk off d dk (holds_ahead encU w n blk off d hH) hds
      obtain ⟨ci, fi⟩ := hHk i (by omega)
      obtain ⟨cj, fj⟩ := hHk jn (by omega)
      have A : Aside (wr = putRow encU (Sort.ahead w n) blk off dk) := hwr
      clear hwr hHk hH h1 h2
      go_wp2_with fail
      go_region
      go_wp2
      go_roundg (jn - 1 - (i + 1))
      case measure => omega
      case rel =>
        rw [reverseLoop, if_pos hij] at heq
        exact ⟨i + 1, jn - 1, (jn : Int) - 1, swp dk i jn, n + 1, by simp, rfl, fun h => ⟨by omega, by omega⟩, fun h => by omega, Nat.le_refl _, by rw [size_swp]; exact hds,
          swap_world encU (by omega) (by omega) A.out (by first | rfl | simp [encU, getElem!_pos, show jn < dk.size by omega]) (by first | rfl | simp [encU, getElem!_pos, show i < dk.size by omega]), heq⟩
    · have hnot := h2 hlt
      go_wp2
      go_end0
      refine ⟨rfl, n, ?_⟩
      rw [reverseLoop, if_neg hnot] at heq
      rw [← Lib.reverseLoop_reverse, ← heq]

set_option maxHeartbeats 1000000 in
theorem reverse_none (a : Option Addr) (cap : Nat) (w : World) :
    Calls Tryd.prog 51 #[.slice a 0 cap] w fun e w' => e = .returned (.tuple #[]) ∧ w' = w := by
  go_enter Tryd.func51, Tryd.ntmps51
  go_wp2
  go_loopg [2, 3] 0 (fun _ s2 s3 wr => s2 = .int .i64 0 ∧ s3 = .int .i64 (-1) ∧ wr = w)
  case atStart => exact ⟨rfl, rfl, rfl⟩
  case round =>
    obtain ⟨rfl, rfl, rfl⟩ := hrel
    go_wp2
    go_end0
    exact ⟨rfl, rfl⟩
theorem heap_putRow {w : World} {g : Nat} {cur : Array Value} {T : TypeId} {f : Nat × Nat} (d : Array Int) (h : w.heap[g]? = some (.cells cur T f)) : (putRow encU w g 0 d).heap[g]? = some (.cells (putCells encU 0 d cur) T f) := by
  unfold putRow mapBlock
  simp [Array.getElem?_modify, h, onCells]
theorem below_putRow {w : World} {base g : Nat} (n : Nat) (d : Array Int) (hb : base ≤ g) : Below base w (putRow encU (Sort.ahead w n) g 0 d) := by
  refine ⟨rfl, rfl, rfl, ?_, fun k hk => ?_⟩
  · unfold putRow mapBlock Sort.ahead; simp
  · unfold putRow mapBlock Sort.ahead
    simp [Array.getElem?_modify, show g ≠ k by omega]
theorem putCells_take (d : Array Int) (cur : Array Value) (h : d.size ≤ cur.size) : (putCells encU 0 d cur).toList.take d.size = d.toList.map encU := by
  apply List.ext_getElem?
  intro i
  rw [List.getElem?_take]
  by_cases hi : i < d.size
  · have hc : i < cur.size := by omega
    rw [if_pos hi]
    simp [putCells, hi, hc]
  · rw [if_neg hi]
    simp [Nat.le_of_not_lt hi]
set_option maxHeartbeats 1000000 in
theorem rev_own {base : Nat} (v : Value) (l : List Int) (w : World) (h : w.ownsRow base 22 1 v l.length (lu l)) :
    Calls Tryd.prog 51 #[v] w fun e w' => e = .returned (.tuple #[]) ∧ w'.ownsRow base 22 1 v l.length (lu l.reverse) ∧ Below base w w' := by
  rcases h.2 with ⟨rfl, h0⟩ | ⟨g, cap, cur, rfl, hb, hg, h1, h2, h3, h4⟩
  · refine (reverse_none none 0 w).mono ?_
    rintro e w' ⟨rfl, rfl⟩
    have : l = [] := List.length_eq_zero_iff.1 h0
    subst this
    exact ⟨rfl, h, Below.refl _ _⟩
  · have hm : cap ≤ 9223372036854775807 := by unfold maxLen at h2; omega
    have hH : Holds encU w g 0 l.toArray := by
      intro j hj
      have hj2 : j < l.length := by simpa using hj
      refine ⟨?_, ?_⟩
      · have := h.cells (g := g) (by simp [Value.ownBlock]) j (Value.int .u64 l[j]) (by simp [lu, hj2])
        rw [show (⟨g, 0, none⟩ : Addr).add j = ⟨g, 0 + j, none⟩ from by unfold Addr.add; split <;> simp_all] at this
        rw [this]; simp [encU, hj2]
      · simp [World.frozen?, hg]
    have hr := reverse_arr g 0 cap l.toArray w hH (by simp; omega)
    rw [show l.toArray.size = l.length by simp] at hr
    refine hr.mono ?_
    rintro e w' ⟨rfl, n, rfl⟩
    refine ⟨rfl, ⟨by simp [lu], Or.inr ⟨g, cap, _, rfl, hb, heap_putRow _ hg, h1, h2, ?_, ?_⟩⟩, below_putRow n _ hb⟩
    · simp [putCells]; omega
    · have := putCells_take l.toArray.reverse cur (by simp; omega)
      rw [Nat.mul_one]
      rw [show l.toArray.reverse.size = l.length by simp] at this
      rw [this]; simp [lu]
theorem infoU64 : (Tryd.prog.info? 22).map (fun i => (i.zero, i.size, i.bytes)) = some (some (.int .u64 0), 1, 8) := by kernel_rfl
theorem own_lu {w : World} {base n : Nat} {v : Value} {l : List Int} (h : w.ownsRow base 22 1 v n (lu l)) (hl : ∀ d ∈ l, 0 ≤ d ∧ d ≤ 18446744073709551615) : LU w v l := by
  have hn : l.length = n := by have := h.1; simpa [lu] using this
  refine ⟨hl, ?_⟩
  rcases h.2 with ⟨rfl, h0⟩ | ⟨g, cap, cur, rfl, hb, hg, h1, h2, h3, h4⟩
  · exact ⟨none, 0, by rw [hn, h0], by omega, Nat.zero_le _, Or.inl (by omega)⟩
  · refine ⟨some ⟨g, 0, none⟩, cap, by rw [hn], by omega, h2, Or.inr ⟨g, 0, rfl, (Array.getElem?_eq_some_iff.1 hg).1, ?_⟩⟩
    intro i hi
    have := h.cells (g := g) (by simp [Value.ownBlock]) i (Value.int .u64 (l.getD i 0)) (by simp [lu, List.getD, hi])
    rw [show (⟨g, 0, none⟩ : Addr).add i = ⟨g, 0 + i, none⟩ from by unfold Addr.add; split <;> simp_all] at this
    exact this
set_option maxHeartbeats 2000000 in
theorem clone64_any (v : Value) (l : List Int) (w : World) (hv : LU w v l) (hr : l.length * 8 ≤ 140737488351232) :
    Calls Tryd.prog 50 #[v] w fun e w' => ∃ v', e = .returned v' ∧ w'.ownsRow w.heap.size 22 1 v' l.length (lu l) ∧ Below w.heap.size w w' := by
  obtain ⟨hl, ao, cap, rfl, hcap, hmx, hc⟩ := hv
  have hmx' := hmx
  unfold maxLen at hmx'
  have HMX := Lib.hid hmx
  clear hmx
  have q22 : ∀ (w : World) (a : Option Addr) (n c n' c' : Nat), (binOp .eql 59 (.slice a n c) (.slice none n' c')).run Tryd.prog w = .ok (.bool a.isNone) w := fun w a n c n' c' => Lib.run_eql_slice_nil w _ _ a n c n' c' Tryd.underlying59
  have hnone : ao = none → l.length ≤ 0 := by
    rintro rfl
    rcases hc with h | ⟨b, off, h, _⟩
    · exact h
    · cases h
  cases ao with
  | none =>
    have h0 : l = [] := List.length_eq_zero_iff.1 (by have := hnone rfl; omega)
    subst h0
    clear hc hnone
    go_enter Tryd.func50, Tryd.ntmps50
    go_wp2
    go_ret
    exact ⟨_, rfl, ⟨rfl, Or.inl ⟨rfl, rfl⟩⟩, Below.refl _ _⟩
  | some p =>
    have hA : ∃ (b off : Nat) (spot : _), p = ⟨b, off, spot⟩ := ⟨_, _, _, rfl⟩
    obtain ⟨b, off, spot, rfl⟩ := hA
    have hcc : ∀ j u, (lu l)[j]? = some u → w.cell? ((⟨b, off, spot⟩ : Addr).add j) = some u := by
      intro j u hj
      rcases hc with h | ⟨b', off', h, h2, h3⟩
      · have : l = [] := List.length_eq_zero_iff.1 (by omega)
        subst this; simp [lu] at hj
      · cases h
        have hj2 : j < l.length := by
          have := (List.getElem?_eq_some_iff.1 hj).1; rw [lu_length] at this; exact this
        rw [show (⟨b, off, none⟩ : Addr).add j = ⟨b, off + j, none⟩ from by unfold Addr.add; split <;> simp_all, h3 j hj2, ← hj]
        simp [lu, List.getD, hj2]
    have A := Lib.hid hcc
    clear hc hcc hnone
    obtain ⟨i0, hi, hz0, hz1, hz2⟩ := info_parts infoU64
    have HI := Lib.hid hi
    have HZ0 := Lib.hid hz0
    have HZ1 := Lib.hid hz1
    have HZ2 := Lib.hid hz2
    clear hi hz0 hz1 hz2
    go_enter Tryd.func50, Tryd.ntmps50
    go_wp2_with (at_builtin; refine wpList_append_own _ rfl _ _ 59 rfl w.heap.size 22 i0 (.int .u64 0) 1 8 Tryd.underlying59 HI.out HZ0.out HZ1.out HZ2.out rfl (by decide) _ _ _ rfl (World.ownsRow_made w #[] 0 (Nat.le_refl _) (Nat.zero_le _) (by simp)) ⟨b, off, spot⟩ l.length cap (lu l) rfl ?qc1 ?qc2 ?qc3 ?qc4 ?qc5 ?qc6 ?_)
    case qc1 => rw [lu_length]; omega
    case qc2 =>
      intro j u hj
      have := A.out j u hj
      exact Lib.cell?_alloc_some _ this
    case qc3 => intro u hu; simp [lu] at hu; obtain ⟨x, _, rfl⟩ := hu; rfl
    case qc4 => rw [Nat.zero_add]; unfold maxLen; omega
    case qc5 => rw [Nat.zero_add]; omega
    case qc6 => simp
    intro v' w1 hown hgrow hnil
    go_wp2
    go_ret
    refine ⟨v', rfl, ?_, ?_⟩
    · simpa using hown
    · exact ((Below.refl _ w).alloc (Nat.le_refl _) _).grown hgrow (by simp) (by intro k hk; simp [Value.ownBlock] at hk; omega)
/-- what sum.All tells -/
def slE (n : Nat) (mode : Int) : Int := if knownB mode = true then (if 200 < n then 2 else 0) else 1
def slV (l : List Int) (mode : Int) : Int := if slE l.length mode = 0 then allV l mode else 0
def slC (l : List Int) (mode : Int) : Bool := if slE l.length mode = 0 then allC l else false
set_option maxHeartbeats 2000000 in
theorem sall_any (v : Value) (l : List Int) (mode : Int) (w : World) (hT : Tab w) (hv : LU w v l) :
    Calls Tryd.prog 49 #[v, .int .i64 mode] w fun e w' => e = .returned (.tuple #[.int .u64 (slV l mode), .bool (slC l mode), .int .i64 (slE l.length mode)]) ∧ Below w.heap.size w w' := by
  have hv' := hv
  obtain ⟨-, ao, cap, rfl, hcap, hmx, -⟩ := hv
  unfold maxLen at hmx
  cases hk : knownB mode
  · have e3 : slE l.length mode = 1 := by unfold slE; rw [hk]; rfl
    have e1 : slV l mode = 0 := by unfold slV; rw [e3]; rfl
    have e2 : slC l mode = false := by unfold slC; rw [e3]; rfl
    rw [e1, e2, e3]; clear e1 e2 e3 hT hv'
    go_enter Tryd.func49, Tryd.ntmps49
    go_wp2_with (go_at_call 64; refine (known_any _ _).mono ?_; rintro e w' ⟨rfl, rfl⟩)
    go_ret3
    exact ⟨rfl, Below.refl _ _⟩
  · have hm : 0 ≤ mode ∧ mode ≤ 4 := by unfold knownB at hk; simpa using hk
    by_cases hlen : 200 < l.length
    · have e3 : slE l.length mode = 2 := by unfold slE; rw [hk, if_pos rfl, if_pos hlen]
      have e1 : slV l mode = 0 := by unfold slV; rw [e3]; rfl
      have e2 : slC l mode = false := by unfold slC; rw [e3]; rfl
      rw [e1, e2, e3]; clear e1 e2 e3 hT hv' hm
      have HK : Hid (knownB mode = true) := Lib.hid hk
      have hl2 : (200 : Int) < (l.length : Int) := by omega
      go_enter Tryd.func49, Tryd.ntmps49
      go_wp2_with (go_at_call 64; refine (known_any _ _).mono ?_; rintro e w' ⟨rfl, rfl⟩)
      go_ret3
      exact ⟨rfl, Below.refl _ _⟩
    · have e3 : slE l.length mode = 0 := by unfold slE; rw [hk, if_pos rfl, if_neg hlen]
      have e1 : slV l mode = allV l mode := by unfold slV; rw [e3]; rfl
      have e2 : slC l mode = allC l := by unfold slC; rw [e3]; rfl
      rw [e1, e2, e3]; clear e1 e2 e3
      have hall := fun w' h0 h1 => all_any (.slice ao l.length cap) l mode w' h0 h1 (by omega) hm.1 hm.2
      generalize allV l mode = V at *
      generalize allC l = C at *
      have HALL := Lib.hid hall
      have HLU := Lib.hid hv'
      have HT := Lib.hid hT
      have HK : Hid (knownB mode = true) := Lib.hid hk
      have hl2 : (l.length : Int) ≤ 200 := by omega
      clear hT hall hm hv'
      go_enter Tryd.func49, Tryd.ntmps49
      go_wp2_with (go_at_call 64; refine (known_any _ _).mono ?_; rintro e w' ⟨rfl, rfl⟩)
      refine (HALL.out _ HT.out HLU.out).mono ?_
      rintro r w1 ⟨rfl, hb⟩
      have B1 := Lib.hid hb
      clear hb
      go_wp2
      go_ret3
      exact ⟨rfl, B1.out⟩
end Go.Proofs.YtdknfdncgmeimaaDoor
