/-
  slices.SortFunc at []uint64 by order.Total, on a row of a call's own (by the shelf); order.Sort.
-/
import Derived.Test.YthibhlimogcpeaaOsa
import Derived.Test.YthibhlimogcpeaaOrder
import Derived.Shelf.SlSortCmp.NoneTotal
import Derived.Shelf.Lay
import Derived.Ground.SlsfProg
set_option linter.unusedVariables false
set_option linter.unusedSimpArgs false
namespace Go.Proofs
open Go.Shelf
def Try.sortL_ren : Go.Shelf.Ren := ⟨fun | 6 => 11 | 15 => 13 | 14 => 19 | 28 => 29 | 29 => 30 | 20 => 36 | 21 => 37 | 22 => 38 | 23 => 39 | 24 => 40 | 25 => 41 | 26 => 42 | 27 => 43 | 46 => 50 | 47 => 45 | 48 => 46 | 49 => 51 | 50 => 52 | 57 => 54 | n => n, fun | 22 => 22 | 24 => 24 | 25 => 26 | 3 => 3 | 39 => 35 | 0 => 0 | 53 => 52 | 55 => 24 | 4 => 4 | 46 => 45 | 45 => 44 | 50 => 27 | 5 => 5 | 9 => 9 | 66 => 62 | 70 => 66 | 76 => 72 | 77 => 73 | n => n, fun | n => n⟩
theorem Try.sortL : Go.Proofs.SlLaysF.n6 Try.prog Try.sortL_ren := {
  mixed := by kernel_rfl
  f6 := ⟨Try.f11.name, by decide, Try.func11.trans (congrArg some (by kernel_rfl))⟩
  f14 := ⟨Try.f19.name, by decide, Try.func19.trans (congrArg some (by kernel_rfl))⟩
  f15 := Try.func13.trans (congrArg some (by kernel_rfl))
  f20 := ⟨Try.f36.name, by decide, Try.func36.trans (congrArg some (by kernel_rfl))⟩
  f21 := ⟨Try.f37.name, by decide, Try.func37.trans (congrArg some (by kernel_rfl))⟩
  f22 := ⟨Try.f38.name, by decide, Try.func38.trans (congrArg some (by kernel_rfl))⟩
  f23 := ⟨Try.f39.name, by decide, Try.func39.trans (congrArg some (by kernel_rfl))⟩
  f24 := ⟨Try.f40.name, by decide, Try.func40.trans (congrArg some (by kernel_rfl))⟩
  f25 := ⟨Try.f41.name, by decide, Try.func41.trans (congrArg some (by kernel_rfl))⟩
  f26 := ⟨Try.f42.name, by decide, Try.func42.trans (congrArg some (by kernel_rfl))⟩
  f27 := ⟨Try.f43.name, by decide, Try.func43.trans (congrArg some (by kernel_rfl))⟩
  f28 := Try.func29.trans (congrArg some (by kernel_rfl))
  f29 := Try.func30.trans (congrArg some (by kernel_rfl))
  f46 := ⟨Try.f50.name, by decide, Try.func50.trans (congrArg some (by kernel_rfl))⟩
  f47 := Try.func45.trans (congrArg some (by kernel_rfl))
  f48 := Try.func46.trans (congrArg some (by kernel_rfl))
  f49 := ⟨Try.f51.name, by decide, Try.func51.trans (congrArg some (by kernel_rfl))⟩
  f50 := ⟨Try.f52.name, by decide, Try.func52.trans (congrArg some (by kernel_rfl))⟩
  f57 := ⟨Try.f54.name, by decide, Try.func54.trans (congrArg some (by kernel_rfl))⟩
  t0 := Try.underlying0
  a0 := Try.isAgg0
  z0 := Try.sizeOf0
  v0 := Try.zeroValue0
  t3 := Try.underlying3
  a3 := Try.isAgg3
  z3 := Try.sizeOf3
  v3 := Try.zeroValue3
  t4 := Try.underlying4
  a4 := Try.isAgg4
  z4 := Try.sizeOf4
  v4 := Try.zeroValue4
  t5 := Try.underlying5
  a5 := Try.isAgg5
  z5 := Try.sizeOf5
  v5 := Try.zeroValue5
  t9 := Try.underlying9
  a9 := Try.isAgg9
  z9 := Try.sizeOf9
  v9 := Try.zeroValue9
  t22 := Try.underlying22
  a22 := Try.isAgg22
  z22 := Try.sizeOf22
  v22 := Try.zeroValue22
  a24 := Try.isAgg24
  z24 := Try.sizeOf24
  t25 := Try.underlying26
  a25 := Try.isAgg26
  z25 := Try.sizeOf26
  v25 := Try.zeroValue26
  t39 := Try.underlying35
  a39 := Try.isAgg35
  z39 := Try.sizeOf35
  v39 := Try.zeroValue35
  t45 := Try.underlying44
  a45 := Try.isAgg44
  z45 := Try.sizeOf44
  v45 := Try.zeroValue44
  t46 := Try.underlying45
  a46 := Try.isAgg45
  z46 := Try.sizeOf45
  v46 := Try.zeroValue45
  t50 := Try.underlying27
  a50 := Try.isAgg27
  z50 := Try.sizeOf27
  v50 := Try.zeroValue27
  t53 := Try.underlying52
  a53 := Try.isAgg52
  z53 := Try.sizeOf52
  v53 := Try.zeroValue52
  t55 := Try.underlying24
  a55 := Try.isAgg24
  z55 := Try.sizeOf24
  v55 := Try.zeroValue24
  t66 := Try.underlying62
  a66 := Try.isAgg62
  z66 := Try.sizeOf62
  v66 := Try.zeroValue62
  t70 := Try.underlying66
  a70 := Try.isAgg66
  z70 := Try.sizeOf66
  v70 := Try.zeroValue66
  t76 := Try.underlying72
  a76 := Try.isAgg72
  z76 := Try.sizeOf72
  v76 := Try.zeroValue72
  t77 := Try.underlying73
  a77 := Try.isAgg73
  z77 := Try.sizeOf73
  v77 := Try.zeroValue73 }
end Go.Proofs
namespace Go.Proofs.Ythibhlimogcpeaa
open Go.RowKit Go.Lib Go.Sort Go.Shelf Fl

abbrev U64 := Fin 18446744073709551616
abbrev vF (x : U64) : Int := (x.val : Int)
abbrev encF : U64 → Value := fun x => .int .u64 (vF x)
def cfT (x y : U64) : Int := otot (vF x) (vF y)
theorem vF_bd (x : U64) : 0 ≤ vF x ∧ vF x ≤ 18446744073709551615 := by have := x.isLt; unfold vF; omega
theorem ltT (x y : U64) : ltOf cfT x y = decide (okey (vF x) < okey (vF y)) := by
  unfold ltOf cfT otot sgnc
  by_cases h1 : okey (vF x) < okey (vF y)
  · simp [h1]
  · by_cases h2 : okey (vF y) < okey (vF x) <;> simp [h1, h2]
theorem okeyF_inj {x y : U64} (h : okey (vF x) = okey (vF y)) : x = y := by
  have hx := vF_bd x
  have hy := vF_bd y
  unfold okey at h
  apply Fin.ext
  unfold vF at *
  split at h <;> split at h <;> omega
theorem swoT : SWO (ltOf cfT) := {
  irrefl x := by rw [ltT]; simp
  trans x y z h1 h2 := by rw [ltT] at *; simp at *; omega
  ntrans x y z h1 h2 := by rw [ltT] at *; simp at *; omega }
theorem totT (x y : U64) (h1 : ltOf cfT x y = false) (h2 : ltOf cfT y x = false) : x = y := by
  rw [ltT] at *
  simp at h1 h2
  exact okeyF_inj (by omega)
theorem readsT (blk off size : Nat) (w : World) : CmpReads Try.prog 7 #[] encF cfT blk off size w := fun m os dk hs x y => by
  refine (total_any (vF x) (vF y) (vF_bd x).1 (vF_bd x).2 (vF_bd y).1 (vF_bd y).2 _).mono ?_
  rintro e w' ⟨rfl, rfl⟩
  exact ⟨rfl, 0, rfl⟩
/-- in order of the keys -/
def leT (x y : U64) : Bool := !(ltOf cfT) y x
theorem putF (w : World) (g : Nat) (l : List U64) : putRow encF w g 0 l.toArray = putRow encU w g 0 (l.map vF).toArray := by
  unfold putRow
  congr 1
  funext c
  apply Array.ext_getElem?
  intro k
  simp only [putCells, Array.getElem?_mapIdx]
  cases c[k]? with
  | none => rfl
  | some u =>
    simp only [Option.map_some, List.size_toArray, List.length_map]
    by_cases h : 0 ≤ k ∧ k < 0 + l.length
    · rw [if_pos h, if_pos h]
      have hk : k < l.length := by omega
      simp [encF, encU, hk]
    · rw [if_neg h, if_neg h]
set_option maxHeartbeats 1000000 in
theorem sf_own {base : Nat} (v : Value) (l : List U64) (w : World) (hsz : l.length < 4611686018427387904) (h : w.ownsRow base 24 1 v l.length (lu (l.map vF))) :
    Calls Try.prog 11 #[v, .func (.func 7) #[] #[]] w fun e w' => e = .returned (.tuple #[]) ∧ w'.ownsRow base 24 1 v l.length (lu ((l.mergeSort leT).map vF)) ∧ Below base w w' := by
  have h' := h
  rcases h.2 with ⟨rfl, h0⟩ | ⟨g, cap, cur, rfl, hb, hg, h1, h2, h3, h4⟩
  · have hl : l = [] := List.length_eq_zero_iff.1 h0
    subst hl
    have hS := AnyF.slices_SortFunc_none (P := Try.prog) (ρ := Try.sortL_ren) { Try.sortL with } none 0 (.func (.func 7) #[] #[]) w
    refine Calls.mono hS ?_
    rintro e w' ⟨rfl, rfl⟩
    refine ⟨rfl, ?_, Below.refl _ _⟩
    rw [List.mergeSort_nil]; exact h'
  · have eg : ∀ args w, (callFunc 7 args).run Try.prog w = .ok (.enter 7 args) w := enters_of Try.func7 (by kernel_rfl) rfl
    have hH : Holds encF w g 0 l.toArray := by
      have := own_holds (l := l.map vF) (by rw [List.length_map]; exact h') hg
      intro j hj
      have hj2 : j < l.length := by simpa using hj
      have k := this j (by simpa using hj2)
      refine ⟨k.1.trans ?_, k.2⟩
      simp [encF, encU, hj2]
    have hS := Any.slices_SortFunc_total Try.sortL encF (fun _ => rfl) cfT swoT 7 #[] g 0 cap l.toArray w eg (readsT g 0 l.toArray.size w).lays hH (Array.getElem?_eq_some_iff.1 hg).1 (by simpa using hsz) totT
    rw [show l.toArray.size = l.length by simp] at hS
    refine Calls.mono hS ?_
    rintro e w' ⟨rfl, n, os, rfl⟩
    have := own_sorted (w := w) (n := n) (os := os) (l := l.map vF) (l' := (l.mergeSort leT).map vF) hb hg (by simpa using h1) h2 (by omega) (by simp [List.length_mergeSort])
    rw [List.length_map] at this
    refine ⟨rfl, ?_⟩
    unfold sortWorld
    rw [putF]
    exact this
end Go.Proofs.Ythibhlimogcpeaa
