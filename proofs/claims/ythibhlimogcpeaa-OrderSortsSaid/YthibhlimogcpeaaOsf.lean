/-
  slices.SortFunc at []uint64 by order.Total, on a row of a call's own (by the shelf); order.Sort.
-/
import Derived.Test.YthibhlimogcpeaaOsa
import Derived.Test.YthibhlimogcpeaaOrder
import Derived.Shelf.SlSortCmp.NoneTotal
import Derived.Shelf.Lay
import Derived.Ground.SlsfProg
set_option linter.unusedVariables false
set_option linter.unusedSimpArgs false
namespace Go.Proofs
open Go.Shelf
shelf_lay_g SlLaysF.n6 Slsf 6 at Try 11 as Try.sortL
end Go.Proofs
namespace Go.Proofs.Ythibhlimogcpeaa
open Go.RowKit Go.Lib Go.Sort Go.Shelf Fl

abbrev U64 := Fin 18446744073709551616
abbrev vF (x : U64) : Int := (x.val : Int)
abbrev encF : U64 → Value := fun x => .int .u64 (vF x)
def cfT (x y : U64) : Int := otot (vF x) (vF y)
theorem vF_bd (x : U64) : 0 ≤ vF x ∧ vF x ≤ 18446744073709551615 := by have := x.isLt; unfold vF; omega
theorem ltT (x y : U64) : ltOf cfT x y = decide (okey (vF x) < okey (vF y)) := by
  unfold ltOf cfT otot sgnc
  by_cases h1 : okey (vF x) < okey (vF y)
  · simp [h1]
  · by_cases h2 : okey (vF y) < okey (vF x) <;> simp [h1, h2]
theorem okeyF_inj {x y : U64} (h : okey (vF x) = okey (vF y)) : x = y := by
  have hx := vF_bd x
  have hy := vF_bd y
  unfold okey at h
  apply Fin.ext
  unfold vF at *
  split at h <;> split at h <;> omega
theorem swoT : SWO (ltOf cfT) where
  irrefl x := by rw [ltT]; simp
  trans x y z h1 h2 := by rw [ltT] at *; simp at *; omega
  ntrans x y z h1 h2 := by rw [ltT] at *; simp at *; omega
theorem totT (x y : U64) (h1 : ltOf cfT x y = false) (h2 : ltOf cfT y x = false) : x = y := by
  rw [ltT] at *
  simp at h1 h2
  exact okeyF_inj (by omega)
theorem readsT (blk off size : Nat) (w : World) : CmpReads Try.prog 7 #[] encF cfT blk off size w := fun m os dk hs x y => by
  refine (total_any (vF x) (vF y) (vF_bd x).1 (vF_bd x).2 (vF_bd y).1 (vF_bd y).2 _).mono ?_
  rintro e w' ⟨rfl, rfl⟩
  exact ⟨rfl, 0, rfl⟩
/-- in order of the keys -/
def leT (x y : U64) : Bool := !(ltOf cfT) y x
theorem putF (w : World) (g : Nat) (l : List U64) : putRow encF w g 0 l.toArray = putRow encU w g 0 (l.map vF).toArray := by
  unfold putRow
  congr 1
  funext c
  apply Array.ext_getElem?
  intro k
  simp only [putCells, Array.getElem?_mapIdx]
  cases c[k]? with
  | none => rfl
  | some u =>
    simp only [Option.map_some, List.size_toArray, List.length_map]
    by_cases h : 0 ≤ k ∧ k < 0 + l.length
    · rw [if_pos h, if_pos h]
      have hk : k < l.length := by omega
      simp [encF, encU, hk]
    · rw [if_neg h, if_neg h]
set_option maxHeartbeats 1000000 in
theorem sf_own {base : Nat} (v : Value) (l : List U64) (w : World) (hsz : l.length < 4611686018427387904) (h : w.ownsRow base 24 1 v l.length (lu (l.map vF))) :
    Calls Try.prog 11 #[v, .func (.func 7) #[] #[]] w fun e w' => e = .returned (.tuple #[]) ∧ w'.ownsRow base 24 1 v l.length (lu ((l.mergeSort leT).map vF)) ∧ Below base w w' := by
  have h' := h
  rcases h.2 with ⟨rfl, h0⟩ | ⟨g, cap, cur, rfl, hb, hg, h1, h2, h3, h4⟩
  · have hl : l = [] := List.length_eq_zero_iff.1 h0
    subst hl
    have hS := AnyF.slices_SortFunc_none (P := Try.prog) (ρ := Try.sortL_ren) { Try.sortL with } none 0 (.func (.func 7) #[] #[]) w
    refine Calls.mono hS ?_
    rintro e w' ⟨rfl, rfl⟩
    refine ⟨rfl, ?_, Below.refl _ _⟩
    rw [List.mergeSort_nil]; exact h'
  · have eg : ∀ args w, (callFunc 7 args).run Try.prog w = .ok (.enter 7 args) w := enters_of Try.func7 (by kernel_rfl) rfl
    have hH : Holds encF w g 0 l.toArray := by
      have := own_holds (l := l.map vF) (by rw [List.length_map]; exact h') hg
      intro j hj
      have hj2 : j < l.length := by simpa using hj
      have k := this j (by simpa using hj2)
      refine ⟨k.1.trans ?_, k.2⟩
      simp [encF, encU, hj2]
    have hS := Any.slices_SortFunc_total Try.sortL encF (fun _ => rfl) cfT swoT 7 #[] g 0 cap l.toArray w eg (readsT g 0 l.toArray.size w).lays hH (Array.getElem?_eq_some_iff.1 hg).1 (by simpa using hsz) totT
    rw [show l.toArray.size = l.length by simp] at hS
    refine Calls.mono hS ?_
    rintro e w' ⟨rfl, n, os, rfl⟩
    have := own_sorted (w := w) (n := n) (os := os) (l := l.map vF) (l' := (l.mergeSort leT).map vF) hb hg (by simpa using h1) h2 (by omega) (by simp [List.length_mergeSort])
    rw [List.length_map] at this
    refine ⟨rfl, ?_⟩
    unfold sortWorld
    rw [putF]
    exact this
end Go.Proofs.Ythibhlimogcpeaa
