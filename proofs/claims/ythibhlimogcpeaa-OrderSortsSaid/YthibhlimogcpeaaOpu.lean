/-
  A slice of uint64s that is handed in: what it reads as; the reach.
-/
import Derived.Test.YthibhlimogcpeaaOsa
import Derived.ChangeSlices
import Derived.Lib.SmallJoins
import Derived.SizedLaws
set_option linter.unusedVariables false
set_option linter.unusedSimpArgs false
namespace Go.Proofs.Ythibhlimogcpeaa
open Go.RowKit Go.Joins Go.ChangeShapes Go.WideShapes Go.ChangeAt

theorem open_u64s {H : Type} {P : Program} {enc : TypeId × Value → H} {w : World} {spare : Nat → Bool} {held : Bool} {t e : TypeId} {v : Value} {d : DataW H} {p : List MemPlace} {ts : List TypeId} {ds : List (DataW H)} {j : Nat} {r : Reach} {b0 : Nat}
    (ht : P.underlying t = some (.slice e)) (he : P.underlying e = some (.int .u64)) (hc : P.cellsOf e = 1) (hb8 : P.bytesOf e = 8) (hv : Value.okWide P w r b0 t v) (h : DataW.Trod enc P w 0 spare held t v d p)
    (hsz : (DataW.weightsEach P ts ds).all (fun x => decide (x ≤ reachBytes)) = true) (hj : ts[j]? = some t) (hd : ds[j]? = some d) : ∃ l, LU w v l ∧ l.length * 8 ≤ 140737488351232 := by
  obtain ⟨a0, len0, cap0, rfl⟩ := okWide_slice ht hv
  clear hv
  obtain ⟨fuel, h⟩ := h
  rcases open_ints ht he hc h with ⟨hv, _⟩ | ⟨a, len, cap, zs, hv, _, hlc, hm, hz, hx, hcell, hwf⟩
  · obtain ⟨rfl, rfl, rfl⟩ : a0 = none ∧ len0 = 0 ∧ cap0 = 0 := by simpa [Value.cells] using hv
    exact ⟨[], ⟨by simp, none, 0, rfl, Nat.zero_le _, Nat.zero_le _, Or.inl (by simp)⟩, by simp⟩
  · obtain ⟨rfl, rfl, rfl⟩ : some a = a0 ∧ len = len0 ∧ cap = cap0 := by simp [Value.cells] at hv; exact ⟨hv.1.symm, hv.2.1.symm, hv.2.2.symm⟩
    simp only [Prod.mk.injEq] at hx
    obtain ⟨rfl, -⟩ := hx
    have hlz : len ≤ zs.length := by rw [hz]; split <;> omega
    have hreach : len * 8 ≤ 140737488351232 := by
      have := sized_slice hsz hj hd ht
      rw [hb8] at this
      simp only [lits, List.length_map, List.length_take, List.length_drop, reachBytes] at this
      omega
    refine ⟨zs.take len, ⟨fun d hd => bounds_u64 (hwf d (List.mem_of_mem_take hd)), some a, cap, by simp [Nat.min_eq_left hlz], by simp [Nat.min_eq_left hlz]; omega, hm, ?_⟩, by simp [Nat.min_eq_left hlz]; exact hreach⟩
    simp only [List.length_take, Nat.min_eq_left hlz]
    by_cases h0 : len ≤ 0
    · exact Or.inl h0
    · right
      have hc0 := hcell 0 (by omega)
      have ea : a.add 0 = a := by unfold Addr.add; rw [if_pos rfl]
      rw [ea] at hc0
      obtain ⟨b, off, spot⟩ := a
      have hsp : spot = none ∧ b < w.heap.size := by
        unfold World.cell? at hc0
        split at hc0
        · rename_i hh
          split at hc0
          · cases hc0
          · rename_i hs
            refine ⟨by cases spot with | none => rfl | some _ => simp at hs, (Array.getElem?_eq_some_iff.1 hh).1⟩
        · cases hc0
      obtain ⟨rfl, hb⟩ := hsp
      refine ⟨b, off, rfl, hb, fun i hi => ?_⟩
      have h1 := hcell i (by omega)
      have e1 : (⟨b, off, none⟩ : Addr).add i = ⟨b, off + i, none⟩ := by unfold Addr.add; split <;> simp_all
      rw [e1] at h1
      rw [h1]
      have hi2 : i < zs.length := by omega
      simp [List.getD, hi, hi2]
end Go.Proofs.Ythibhlimogcpeaa
