/-
  PLAIN: the law of OrderSorts; the walk of order.Sort.
-/
import Derived.Test.YthibhlimogcpeaaOsf
import Derived.Test.YthibhlimogcpeaaOrderLives
set_option linter.unusedVariables false
set_option linter.unusedSimpArgs false
namespace Go.Proofs.Ythibhlimogcpeaa
open Go.RowKit Go.Lib Go.Sort Go.Shelf Fl

theorem of_bd : ∀ (li : List Int), (∀ d ∈ li, 0 ≤ d ∧ d ≤ 18446744073709551615) → ∃ l : List U64, li = l.map vF
  | [], _ => ⟨[], rfl⟩
  | d :: r, h => by
    obtain ⟨l, hl⟩ := of_bd r (fun x hx => h x (List.mem_cons_of_mem _ hx))
    obtain ⟨h0, h1⟩ := h d (List.mem_cons_self ..)
    refine ⟨⟨d.toNat, by omega⟩ :: l, ?_⟩
    rw [List.map_cons, ← hl]
    congr 1
    show d = ((d.toNat : Nat) : Int)
    omega
theorem leT_iff (x y : U64) : leT x y = true ↔ okey (vF x) ≤ okey (vF y) := by
  unfold leT
  rw [ltT]
  simp
theorem sorted_pw (l : List U64) : (l.mergeSort leT).Pairwise (fun a b => leT a b = true) := by
  refine List.pairwise_mergeSort (fun a b c h1 h2 => ?_) (fun a b => ?_) l
  · rw [leT_iff] at *; omega
  · rw [Bool.or_eq_true, leT_iff, leT_iff]; omega
theorem sort_eq (l : List U64) : ((l.map vF).mergeSort fun x y => decide (x ≤ y)) = (((l.mergeSort leT).map vF).mergeSort fun x y => decide (x ≤ y)) := by
  refine List.Perm.eq_of_pairwise (le := fun x y => decide (x ≤ y) = true) (fun a b _ _ h1 h2 => by simp at h1 h2; omega) (List.pairwise_mergeSort (fun a b c h1 h2 => by simp at *; omega) (fun a b => by simp; omega) _) (List.pairwise_mergeSort (fun a b c h1 h2 => by simp at *; omega) (fun a b => by simp; omega) _) ?_
  exact (List.mergeSort_perm _ _).trans (((List.mergeSort_perm l leT).symm.map vF).trans (List.mergeSort_perm _ _).symm)
theorem ocmp_le {x y : Int} (h0 : 0 ≤ x) (h1 : x ≤ 18446744073709551615) (y0 : 0 ≤ y) (y1 : y ≤ 18446744073709551615) (h : okey x ≤ okey y) : ois x y = true → ocmp x y ≤ 0 := by
  intro hi
  unfold ocmp
  rw [if_pos hi]
  have hi' : frerr x = 0 ∧ frerr y = 0 := by unfold ois at hi; simpa using hi
  obtain ⟨e1, e2⟩ := hi'
  unfold frerr at e1 e2
  unfold sgnc frank okey fabs at *
  omega
end Go.Proofs.Ythibhlimogcpeaa
