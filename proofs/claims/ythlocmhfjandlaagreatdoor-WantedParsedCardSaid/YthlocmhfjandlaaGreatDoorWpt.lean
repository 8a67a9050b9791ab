/-
  PLAIN: the flags twice.
-/
import Derived.Test.YthlocmhfjandlaaGreatDoorWls
import Derived.Lib.ConvBytes
import Derived.Lib.SlBytesRow
set_option linter.unusedVariables false
set_option linter.unusedSimpArgs false
namespace Go.Proofs.YthlocmhfjandlaaGreatDoor
open Go.RowKit Go.Lib Nt Fm Fl

def isFl (c : UInt8) : Bool := c == 45 || c == 43 || c == 32 || c == 48 || c == 35
theorem fpS_char : ∀ (t : List UInt8) (mi pl bl ze al : Bool), fpS (mi, pl, bl, ze, al) t =
    ((mi || (t.takeWhile isFl).contains 45, pl || (t.takeWhile isFl).contains 43, bl || (t.takeWhile isFl).contains 32, ze || (t.takeWhile isFl).contains 48, al || (t.takeWhile isFl).contains 35), t.dropWhile isFl)
  | [], mi, pl, bl, ze, al => by simp [fpS]
  | c :: t, mi, pl, bl, ze, al => by
    simp only [fpS]
    by_cases h1 : c = 45
    · rw [if_pos h1, fpS_char t, List.takeWhile_cons_of_pos (by simp [isFl, h1]), List.dropWhile_cons_of_pos (by simp [isFl, h1])]; simp [h1]
    rw [if_neg h1]
    by_cases h2 : c = 43
    · rw [if_pos h2, fpS_char t, List.takeWhile_cons_of_pos (by simp [isFl, h2]), List.dropWhile_cons_of_pos (by simp [isFl, h2])]; simp [h2]
    rw [if_neg h2]
    by_cases h3 : c = 32
    · rw [if_pos h3, fpS_char t, List.takeWhile_cons_of_pos (by simp [isFl, h3]), List.dropWhile_cons_of_pos (by simp [isFl, h3])]; simp [h3]
    rw [if_neg h3]
    by_cases h4 : c = 48
    · rw [if_pos h4, fpS_char t, List.takeWhile_cons_of_pos (by simp [isFl, h4]), List.dropWhile_cons_of_pos (by simp [isFl, h4])]; simp [h4]
    rw [if_neg h4]
    by_cases h5 : c = 35
    · rw [if_pos h5, fpS_char t, List.takeWhile_cons_of_pos (by simp [isFl, h5]), List.dropWhile_cons_of_pos (by simp [isFl, h5])]; simp [h5]
    rw [if_neg h5, List.takeWhile_cons_of_neg (by simp [isFl, h1, h2, h3, h4, h5]), List.dropWhile_cons_of_neg (by simp [isFl, h1, h2, h3, h4, h5])]
    simp
theorem tw_app (p t : List UInt8) (hp : ∀ c ∈ p, isFl c = true) : (p ++ t).takeWhile isFl = p ++ t.takeWhile isFl ∧ (p ++ t).dropWhile isFl = t.dropWhile isFl := by
  induction p with
  | nil => exact ⟨rfl, rfl⟩
  | cons c p ih =>
    obtain ⟨h1, h2⟩ := ih (fun c hc => hp c (by simp [hc]))
    rw [List.cons_append, List.takeWhile_cons_of_pos (hp c (by simp)), List.dropWhile_cons_of_pos (hp c (by simp)), h1, h2]
    exact ⟨rfl, rfl⟩
theorem tw_all : ∀ (t : List UInt8), ∀ c ∈ t.takeWhile isFl, isFl c = true
  | [], c, h => by simp at h
  | b :: t, c, h => by
    by_cases hb : isFl b = true
    · rw [List.takeWhile_cons_of_pos hb] at h
      rcases List.mem_cons.1 h with g | g
      · rw [g]; exact hb
      · exact tw_all t c g
    · rw [List.takeWhile_cons_of_neg hb] at h
      simp at h
theorem con_app (a b : List UInt8) (c : UInt8) (h : b.contains c = a.contains c) : (a ++ b).contains c = b.contains c := by
  rw [h]
  cases g : a.contains c with
  | true =>
    rw [List.contains_iff_mem] at g ⊢
    exact List.mem_append_left _ g
  | false =>
    rw [g] at h
    cases k : (a ++ b).contains c with
    | false => rfl
    | true =>
      rw [List.contains_iff_mem] at k
      rcases List.mem_append.1 k with q | q
      · rw [← List.contains_iff_mem] at q; rw [q] at g; exact absurd g (by decide)
      · rw [← List.contains_iff_mem] at q; rw [q] at h; exact absurd h (by decide)
theorem con_rev (a : List UInt8) (c : UInt8) : a.reverse.contains c = a.contains c := by
  cases g : a.contains c with
  | true => rw [List.contains_iff_mem] at g ⊢; exact List.mem_reverse.2 g
  | false =>
    cases k : a.reverse.contains c with
    | false => rfl
    | true =>
      rw [List.contains_iff_mem] at k
      have := List.mem_reverse.1 k
      rw [← List.contains_iff_mem] at this
      rw [this] at g
      exact absurd g (by decide)
/-- the flags once more, the other way round -/
theorem wp1_again (t : List UInt8) : wp1 ((t.takeWhile isFl).reverse ++ t) = wp1 t := by
  unfold wp1
  have hp : ∀ c ∈ (t.takeWhile isFl).reverse, isFl c = true := fun c hc => tw_all t c (List.mem_reverse.1 hc)
  obtain ⟨h1, h2⟩ := tw_app (t.takeWhile isFl).reverse t hp
  rw [fpS_char, fpS_char, h1, h2]
  have k := fun c => con_app (t.takeWhile isFl).reverse (t.takeWhile isFl) c (con_rev _ c).symm
  rw [k, k, k, k, k]
theorem trim37 (t : List UInt8) : Lib.trimPrefix (37 :: t) [37] = t ∧ Lib.hasPrefix (37 :: t) [37] = true := by
  constructor
  · simp [Lib.trimPrefix, Lib.hasPrefix]
  · simp [Lib.hasPrefix]
theorem wp_again (t : List UInt8) : wpE (37 :: ((t.takeWhile isFl).reverse ++ t)) = wpE (37 :: t) ∧ wpF (37 :: ((t.takeWhile isFl).reverse ++ t)) = wpF (37 :: t) := by
  have h := wp1_again t
  have e1 : wpW ((t.takeWhile isFl).reverse ++ t) = wpW t := by unfold wpW; rw [h]
  have e2 : wp2 ((t.takeWhile isFl).reverse ++ t) = wp2 t := by unfold wp2; rw [h]
  have e3 : wpD ((t.takeWhile isFl).reverse ++ t) = wpD t := by unfold wpD; rw [e2]
  have e4 : wpP ((t.takeWhile isFl).reverse ++ t) = wpP t := by unfold wpP; rw [e3, e2]
  have e5 : wp4 ((t.takeWhile isFl).reverse ++ t) = wp4 t := by unfold wp4; rw [e3, e2]
  have hE : wpE (37 :: ((t.takeWhile isFl).reverse ++ t)) = wpE (37 :: t) := by
    unfold wpE
    rw [(trim37 _).1, (trim37 _).1, (trim37 _).2, (trim37 _).2, e5, e1, e4]
  refine ⟨hE, ?_⟩
  unfold wpF
  rw [hE, (trim37 _).1, (trim37 _).1]
  unfold wpG
  rw [h, e5, e1, e4]
theorem flags_has (c : UInt8) : (0 ≤ Lib.indexByte [45, 43, 32, 48, 35] c) ↔ isFl c = true := by
  have h := w_has c [45, 43, 32, 48, 35]
  constructor
  · intro g
    rw [decide_eq_true g] at h
    have := of_decide_eq_true h.symm
    simp at this
    simp [isFl, this]
    rcases this with h | h | h | h | h <;> simp [h]
  · intro g
    have : c ∈ [45, 43, 32, 48, 35] := by
      simp [isFl] at g
      simp
      rcases g with (((h | h) | h) | h) | h <;> simp [h]
    rw [decide_eq_true this] at h
    exact of_decide_eq_true h
theorem byte_conv (w : World) (c : UInt8) : (convert 68 9 (.slice (some ⟨w.heap.size, 0, none⟩) 1 1)).run Tryz.prog (w.alloc (.cells #[.int .u8 (c.toNat : Int)] 5)) =
    .ok (.string ⟨#[c]⟩) (w.alloc (.cells #[.int .u8 (c.toNat : Int)] 5)) := by
  have hb : Lib.Bytes (w.alloc (.cells #[.int .u8 (c.toNat : Int)] 5)) w.heap.size 0 ⟨#[c]⟩ := by
    intro i hi
    have h2 : (w.alloc (.cells #[.int .u8 (c.toNat : Int)] 5)).heap[w.heap.size]? = some (.cells #[.int .u8 (c.toNat : Int)] 5 (0, 0)) := heap_alloc_new w _
    have hi0 : i = 0 := by
      have : i < 1 := hi
      omega
    subst hi0
    unfold World.cell?
    simp only [h2]
    rfl
  exact Lib.run_convert_whole _ 68 5 9 Tryz.underlying68 Tryz.underlying5 Tryz.underlying9 _ _ _ hb 1

end Go.Proofs.YthlocmhfjandlaaGreatDoor
