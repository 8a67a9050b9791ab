/-
  SOME OF MY TEXTS in one: OpenD OpenP. Each says what it proves.
-/
import Derived.Test.YtmpdbmaokbhcjaaGreatDoorBe
import Derived.Lib.SmallJoins
import Derived.ChangeSlices
set_option linter.unusedVariables false
set_option linter.unusedSimpArgs false
/-
  A Dyad that is handed in, by value: its fields.
-/
namespace Go.Proofs.YtmpdbmaokbhcjaaGreatDoor
open Go.RowKit Nt Fm Go.Deep Go.Joins Go.ChangeShapes Go.WideShapes Go.ChangeAt

theorem open_limbs {H : Type} {P : Program} {enc : TypeId × Value → H} {w : World} {spare : Nat → Bool} {held : Bool} {t e : TypeId} {fuel : Nat} {v : Value} {x : DataW H × List MemPlace}
    (ht : P.underlying t = some (.slice e)) (he : P.underlying e = some (.int .u32)) (hc : P.cellsOf e = 1)
    (h : DataW.trod enc P w 0 spare held fuel t [v] = some x) : ∃ l, Lim w v l := by
  rcases open_ints ht he hc h with ⟨hv, _⟩ | ⟨a, len, cap, zs, hv, _, hlc, hm, hz, _, hcell, hwf⟩
  · obtain rfl : v = .slice none 0 0 := by simpa using hv
    exact ⟨[], Lims.nil, none, 0, rfl, Nat.zero_le _, Nat.zero_le _, Or.inl (by simp)⟩
  · obtain rfl : v = .slice (some a) len cap := by simpa using hv
    have hlz : len ≤ zs.length := by rw [hz]; split <;> omega
    refine ⟨(zs.take len).map Int.toNat, ?_, some a, cap, by simp [Nat.min_eq_left hlz], by simp [Nat.min_eq_left hlz]; omega, hm, ?_⟩
    · intro d hd
      rw [List.mem_map] at hd
      obtain ⟨z, hz1, rfl⟩ := hd
      have := bounds_u32 (hwf z (List.mem_of_mem_take hz1))
      omega
    · simp only [List.length_map, List.length_take, Nat.min_eq_left hlz]
      by_cases h0 : len ≤ 0
      · exact Or.inl h0
      · right
        have hc0 := hcell 0 (by omega)
        have ea : a.add 0 = a := by unfold Addr.add; rw [if_pos rfl]
        rw [ea] at hc0
        obtain ⟨b, off, spot⟩ := a
        have hsp : spot = none ∧ b < w.heap.size := by
          unfold World.cell? at hc0
          split at hc0
          · rename_i hh
            split at hc0
            · cases hc0
            · rename_i hs
              refine ⟨by cases spot with | none => rfl | some _ => simp at hs, (Array.getElem?_eq_some_iff.1 hh).1⟩
          · cases hc0
        obtain ⟨rfl, hb⟩ := hsp
        refine ⟨b, off, rfl, hb, fun i hi => ?_⟩
        have h1 := hcell i (by omega)
        have e1 : (⟨b, off, none⟩ : Addr).add i = ⟨b, off + i, none⟩ := by unfold Addr.add; split <;> simp_all
        rw [e1] at h1
        rw [h1]
        have hi2 : i < zs.length := by omega
        have e2 : ((zs.take len).map Int.toNat).getD i 0 = (zs[i]).toNat := by simp [List.getD, hi, hi2]
        have e3 : zs.getD i 0 = zs[i] := by simp [List.getD, hi2]
        rw [e2, e3]
        have := bounds_u32 (hwf _ (List.getElem_mem hi2))
        rw [Int.toNat_of_nonneg this.1]

theorem open_dyad {H : Type} {P : Program} {enc : TypeId × Value → H} {w : World} {spare : Nat → Bool} {held : Bool} {r : Reach} {b0 : Nat} {t : TypeId} {f0 f1 f2 : Field} {e : TypeId} {v : Value} {d : DataW H} {p : List MemPlace}
    (hs : P.underlying t = some (.struct #[f0, f1, f2])) (hone : oneCellFields P #[f0, f1, f2] = true) (hC : P.cellsOf t = 3)
    (h0 : P.underlying f0.type = some .bool) (h1 : P.underlying f1.type = some (.slice e)) (h1e : P.underlying e = some (.int .u32)) (hce : P.cellsOf e = 1) (h2 : P.underlying f2.type = some (.int .i64))
    (hv : Value.okWide P w r b0 t v) (h : DataW.Trod enc P w 0 spare held t v d p) :
    ∃ (neg : Bool) (l : List Nat) (x : Int), SV w v neg l x ∧ -9223372036854775808 ≤ x ∧ x ≤ 9223372036854775807 := by
  obtain ⟨c0, c1, c2, y0, y1, y2, m, rfl, _, _, g0, g1, g2⟩ := open_agg3 hs hone hC hv h
  obtain ⟨b, hb, _⟩ := DataW.trod_bool h0 g0
  obtain ⟨l, hl⟩ := open_limbs h1 h1e hce g1
  obtain ⟨x, hx, _, wx⟩ := DataW.trod_int h2 g2
  simp at hb hx
  subst hb hx
  exact ⟨b, l, x, ⟨c1, rfl, hl⟩, (bounds_i64 wx).1, (bounds_i64 wx).2⟩
end Go.Proofs.YtmpdbmaokbhcjaaGreatDoor

/-
  A struct of two uint64s that is handed in, by value: its fields.
-/
namespace Go.Proofs.YtmpdbmaokbhcjaaGreatDoor
open Go.RowKit Go.Deep Go.Joins Go.ChangeShapes Go.WideShapes Go.ChangeAt

theorem open_span {H : Type} {P : Program} {enc : TypeId × Value → H} {w : World} {spare : Nat → Bool} {held : Bool} {r : Reach} {b0 : Nat} {t : TypeId} {f0 f1 : Field} {v : Value} {d : DataW H} {p : List MemPlace}
    (hs : P.underlying t = some (.struct #[f0, f1])) (hone : oneCellFields P #[f0, f1] = true) (hC : P.cellsOf t = 2)
    (h0 : P.underlying f0.type = some (.int .u64)) (h1 : P.underlying f1.type = some (.int .u64))
    (hv : Value.okWide P w r b0 t v) (h : DataW.Trod enc P w 0 spare held t v d p) :
    ∃ (x y : Int), v = .agg #[.int .u64 x, .int .u64 y] ∧ (0 ≤ x ∧ x ≤ 18446744073709551615) ∧ (0 ≤ y ∧ y ≤ 18446744073709551615) := by
  obtain ⟨c0, c1, y0, y1, m, rfl, _, _, g0, g1⟩ := open_agg2 hs hone hC hv h
  obtain ⟨x, hx, _, wx⟩ := DataW.trod_int h0 g0
  obtain ⟨y, hy, _, wy⟩ := DataW.trod_int h1 g1
  simp at hx hy
  subst hx hy
  exact ⟨x, y, rfl, bounds_u64 wx, bounds_u64 wy⟩
end Go.Proofs.YtmpdbmaokbhcjaaGreatDoor
