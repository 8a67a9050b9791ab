/-
  A SLICE OF uint64s of a call's own: what it owns reads as the numbers; slices.Clone of it.
-/
import Derived.Test.YtapdjclhpcakeaaDoorBm
import Derived.Lib.SlicesMore
import Derived.Lib.Walk
set_option linter.unusedVariables false
set_option linter.unusedSimpArgs false
namespace Go.Proofs.YtapdjclhpcakeaaDoor
open Go.RowKit Go.Lib Nt Fm Fl

def lu (l : List Int) : List Value := l.map (Value.int .u64)
theorem lu_length (l : List Int) : (lu l).length = l.length := by simp [lu]
theorem own_below {w w' : World} {base n : Nat} {T : TypeId} {v : Value} {xs : List Value} (h : w.ownsRow base T 1 v n xs) (hb : Below w.heap.size w w') : w'.ownsRow base T 1 v n xs := by
  refine ⟨h.1, ?_⟩
  rcases h.2 with h0 | ⟨g, cap, cur, rfl, h1, hg, h2⟩
  · exact Or.inl h0
  · exact Or.inr ⟨g, cap, cur, rfl, h1, by rw [hb.block g (Array.getElem?_eq_some_iff.1 hg).1]; exact hg, h2⟩
theorem own_ge {w : World} {base n : Nat} {T : TypeId} {v : Value} {xs : List Value} (h : w.ownsRow base T 1 v n xs) (k : Nat) (hk : v.ownBlock = some k) : base ≤ k := by
  rcases h.2 with ⟨rfl, -⟩ | ⟨g, cap, cur, rfl, h1, -⟩
  · simp [Value.ownBlock] at hk
  · simp [Value.ownBlock] at hk; omega
theorem two_src (w : World) (o : Obj) (x y : Int) (T : TypeId) : ∀ (j : Nat) (u : Value), [Value.int .u64 x, Value.int .u64 y][j]? = some u → ((w.alloc o).alloc (.cells #[.int .u64 x, .int .u64 y] T)).cell? ((⟨w.heap.size + 1, 0, none⟩ : Addr).add j) = some u := by
  intro j u hj
  have e : w.heap.size + 1 = (w.alloc o).heap.size := by simp
  rw [e]
  match j, hj with
  | 0, h => simp at h; subst h; simp [Addr.add, go_sem]
  | 1, h => simp at h; subst h; simp [Addr.add, go_sem]
theorem two_one (x y : Int) : ∀ u ∈ [Value.int .u64 x, Value.int .u64 y], u.oneCell' = true := by
  intro u hu; simp at hu; rcases hu with rfl | rfl <;> rfl
theorem one_src (w : World) (x y : Int) (T : TypeId) : ∀ (j : Nat) (u : Value), [Value.int .u64 x, Value.int .u64 y][j]? = some u → (w.alloc (.cells #[.int .u64 x, .int .u64 y] T)).cell? ((⟨w.heap.size, 0, none⟩ : Addr).add j) = some u := by
  intro j u hj
  match j, hj with
  | 0, h => simp at h; subst h; simp [Addr.add, go_sem]
  | 1, h => simp at h; subst h; simp [Addr.add, go_sem]
theorem own_nil64 (w : World) (base : Nat) (T : TypeId) : w.ownsRow base T 1 (.slice none 0 0) 0 [] := ⟨rfl, Or.inl ⟨rfl, rfl⟩⟩
theorem infoU64 : (Tryd.prog.info? 23).map (fun i => (i.zero, i.size, i.bytes)) = some (some (.int .u64 0), 1, 8) := by kernel_rfl
theorem own_lu {w : World} {base n : Nat} {v : Value} {l : List Int} (h : w.ownsRow base 23 1 v n (lu l)) (hl : ∀ d ∈ l, 0 ≤ d ∧ d ≤ 18446744073709551615) : LU w v l := by
  have hn : l.length = n := by have := h.1; simpa [lu] using this
  refine ⟨hl, ?_⟩
  rcases h.2 with ⟨rfl, h0⟩ | ⟨g, cap, cur, rfl, hb, hg, h1, h2, h3, h4⟩
  · exact ⟨none, 0, by rw [hn, h0], by omega, Nat.zero_le _, Or.inl (by omega)⟩
  · refine ⟨some ⟨g, 0, none⟩, cap, by rw [hn], by omega, h2, Or.inr ⟨g, 0, rfl, (Array.getElem?_eq_some_iff.1 hg).1, ?_⟩⟩
    intro i hi
    have := h.cells (g := g) (by simp [Value.ownBlock]) i (Value.int .u64 (l.getD i 0)) (by simp [lu, List.getD, hi])
    rw [show (⟨g, 0, none⟩ : Addr).add i = ⟨g, 0 + i, none⟩ from by unfold Addr.add; split <;> simp_all] at this
    exact this
set_option maxHeartbeats 2000000 in
theorem clone64_any (v : Value) (l : List Int) (w : World) (hv : LU w v l) (hr : l.length * 8 ≤ 140737488351232) :
    Calls Tryd.prog 120 #[v] w fun e w' => ∃ v', e = .returned v' ∧ w'.ownsRow w.heap.size 23 1 v' l.length (lu l) ∧ Below w.heap.size w w' := by
  obtain ⟨hl, ao, cap, rfl, hcap, hmx, hc⟩ := hv
  have hmx' := hmx
  unfold maxLen at hmx'
  have HMX := Lib.hid hmx
  clear hmx
  have q22 : ∀ (w : World) (a : Option Addr) (n c n' c' : Nat), (binOp .eql 22 (.slice a n c) (.slice none n' c')).run Tryd.prog w = .ok (.bool a.isNone) w := fun w a n c n' c' => Lib.run_eql_slice_nil w _ _ a n c n' c' Tryd.underlying22
  have hnone : ao = none → l.length ≤ 0 := by
    rintro rfl
    rcases hc with h | ⟨b, off, h, _⟩
    · exact h
    · cases h
  cases ao with
  | none =>
    have h0 : l = [] := List.length_eq_zero_iff.1 (by have := hnone rfl; omega)
    subst h0
    clear hc hnone
    go_enter Tryd.func120, Tryd.ntmps120
    go_wp2
    go_ret
    exact ⟨_, rfl, ⟨rfl, Or.inl ⟨rfl, rfl⟩⟩, Below.refl _ _⟩
  | some p =>
    have hA : ∃ (b off : Nat) (spot : _), p = ⟨b, off, spot⟩ := ⟨_, _, _, rfl⟩
    obtain ⟨b, off, spot, rfl⟩ := hA
    have hcc : ∀ j u, (lu l)[j]? = some u → w.cell? ((⟨b, off, spot⟩ : Addr).add j) = some u := by
      intro j u hj
      rcases hc with h | ⟨b', off', h, h2, h3⟩
      · have : l = [] := List.length_eq_zero_iff.1 (by omega)
        subst this; simp [lu] at hj
      · cases h
        have hj2 : j < l.length := by
          have := (List.getElem?_eq_some_iff.1 hj).1; rw [lu_length] at this; exact this
        rw [show (⟨b, off, none⟩ : Addr).add j = ⟨b, off + j, none⟩ from by unfold Addr.add; split <;> simp_all, h3 j hj2, ← hj]
        simp [lu, List.getD, hj2]
    have A := Lib.hid hcc
    clear hc hcc hnone
    obtain ⟨i0, hi, hz0, hz1, hz2⟩ := info_parts infoU64
    have HI := Lib.hid hi
    have HZ0 := Lib.hid hz0
    have HZ1 := Lib.hid hz1
    have HZ2 := Lib.hid hz2
    clear hi hz0 hz1 hz2
    go_enter Tryd.func120, Tryd.ntmps120
    go_wp2_with (at_builtin; refine wpList_append_own _ rfl _ _ 22 rfl w.heap.size 23 i0 (.int .u64 0) 1 8 Tryd.underlying22 HI.out HZ0.out HZ1.out HZ2.out rfl (by decide) _ _ _ rfl (World.ownsRow_made w #[] 0 (Nat.le_refl _) (Nat.zero_le _) (by simp)) ⟨b, off, spot⟩ l.length cap (lu l) rfl ?qc1 ?qc2 ?qc3 ?qc4 ?qc5 ?qc6 ?_)
    case qc1 => rw [lu_length]; omega
    case qc2 =>
      intro j u hj
      have := A.out j u hj
      exact Lib.cell?_alloc_some _ this
    case qc3 => intro u hu; simp [lu] at hu; obtain ⟨x, _, rfl⟩ := hu; rfl
    case qc4 => rw [Nat.zero_add]; unfold maxLen; omega
    case qc5 => rw [Nat.zero_add]; omega
    case qc6 => simp
    intro v' w1 hown hgrow hnil
    go_wp2
    go_ret
    refine ⟨v', rfl, ?_, ?_⟩
    · simpa using hown
    · exact ((Below.refl _ w).alloc (Nat.le_refl _) _).grown hgrow (by simp) (by intro k hk; simp [Value.ownBlock] at hk; omega)
end Go.Proofs.YtapdjclhpcakeaaDoor
