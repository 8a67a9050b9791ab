/-
  THE WALKS of nat.Decimal, nat.Text.
-/
import Derived.Test.YtjmmgffdagcflaaDoorNs
import Derived.Test.YtjmmgffdagcflaaDoorBd
import Derived.Test.YtjmmgffdagcflaaDoorNa
import Derived.Test.YtjmmgffdagcflaaDoorRs
import Derived.Test.YtjmmgffdagcflaaDoorDe
import Derived.Shelf.Strconv.Itoa3
import Derived.Shelf.Strings.Repeat
import Derived.Shelf.Strings.OnBuilder
import Derived.Shelf.GgClosure.Gives
import Derived.Shelf.Lay
import Derived.Ground.NamesProg
import Derived.Lib.LaidTab
import Derived.Deep.RegionHeld3
import Derived.Deep.AppendLies
import Derived.Lib.ItoaMem
set_option linter.unusedVariables false
set_option linter.unusedSimpArgs false
namespace Go.Proofs.YtjmmgffdagcflaaDoor
open Go.Shelf Go.RowKit Go.Lib Go.Sort Nt

shelf_lay LaysM.n171 Nm 171 at Tryd as Tryd.laysItoa
theorem fItoa : Tryd.laysItoa_ren.f 171 = 123 := by kernel_rfl

/-- strconv's table of powers of ten is there -/
def Tab10 (w : World) : Prop := Lib.TabIs Tryd.prog w "internal/strconv.uint64pow10" .u64 Lib.pow10Tab
theorem gTab10 : Tryd.prog.globalNamed "internal/strconv.uint64pow10" = some 6 := by kernel_rfl
theorem Tab10.below {w w' : World} (h : Tab10 w) (hb : Below w.heap.size w w') : Tab10 w' := by
  have hs : 6 < w.heap.size := World.block_lt_of_cell? w ⟨6, 0, none⟩ (Lib.TabIs.cell h gTab10 0 (by rw [Lib.pow10Tab_length]; omega))
  unfold Tab10 Lib.TabIs World.var? at *
  rw [gTab10] at *
  simp only [Option.bind_eq_bind, Option.bind_some] at *
  rw [hb.block _ hs]
  exact h
theorem itoa_any (n : Nat) (h : n < 1000000000) (w : World) (hT : Tab10 w) :
    Calls Tryd.prog 123 #[.int .i64 (n : Int)] w fun e w' => e = .returned (.string ⟨(Lib.decDigits n).toArray⟩) ∧ Below w.heap.size w w' := by
  have h := Any.strconv_Itoa Tryd.laysItoa (n : Int) (by omega) (by omega) w hT
  rw [fItoa] at h
  refine h.mono ?_
  rintro e w' ⟨rfl, k, os, rfl⟩
  refine ⟨?_, below_grown w k os⟩
  have : Lib.itoa (n : Int) = Lib.decDigits n := by unfold Lib.itoa; rw [if_neg (by omega)]; rfl
  rw [this]

theorem nvc_below {B : Nat} {w w' : World} {v : Value} {n : Nat} (h : NVc B w v n) (hb : Below w.heap.size w w') : NVc B w' v n := by
  obtain ⟨l, ao, h1, h2, h3, h4, h5⟩ := h
  exact ⟨l, ao, h1, h2, h3.below hb, h4, h5⟩
theorem nvc_push {B : Nat} {w w' : World} {v : Value} {n : Nat} {row : Option Nat} (h : NVc B w v n) (hg : w.grownBy w' row) (hr : ∀ k, row = some k → k < B) : NV w' v n := by
  obtain ⟨l, ao, h1, h2, ⟨h3, ao2, cap, h4, h5, h6, h7⟩, h8, h9⟩ := h
  refine ⟨l, h1, h2, h3, ao2, cap, h4, h5, h6, ?_⟩
  rcases h7 with h7 | ⟨b, off, h10, h11, h12⟩
  · exact Or.inl h7
  · rw [h8] at h4
    simp only [Value.slice.injEq] at h4
    have hB := h9 ⟨b, off, none⟩ (by rw [h4.1, h10])
    refine Or.inr ⟨b, off, h10, Nat.lt_of_lt_of_le h11 hg.size, fun i hi => ?_⟩
    rw [hg.cell_far ⟨b, off + i, none⟩ h11 (by intro hh; have := hr b hh.symm; simp at hB; omega)]
    exact h12 i hi
/-- where the loop stands: a number n and what lies behind it -/
def DcI (a n k0 : Nat) (ps : List (List UInt8)) : Prop :=
  decN a = decN n ++ ps.reverse.flatten ∧ (∀ p ∈ ps, p.length ≤ 9) ∧ n * 2 ^ ps.length ≤ a ∧ ps.length ≤ k0 ∧ n ≤ a
theorem DcI.start (a k0 : Nat) : DcI a a k0 [] := ⟨by simp, by simp, by simp, by simp, Nat.le_refl _⟩
theorem DcI.step {a n k0 : Nat} {ps : List (List UInt8)} (h : DcI a n k0 ps) (hn : n ≠ 0) (ha : a < 2 ^ k0) : DcI a (n / 1000000000) k0 (ps ++ [pcD n]) := by
  obtain ⟨h1, h2, h3, h4, h5⟩ := h
  have hlen : ps.length < k0 := by
    have h6 : 2 ^ ps.length < 2 ^ k0 := by
      have : 1 * 2 ^ ps.length ≤ n * 2 ^ ps.length := Nat.mul_le_mul_right _ (by omega)
      omega
    exact (Nat.pow_lt_pow_iff_right (by omega)).1 h6
  refine ⟨?_, ?_, ?_, by simp; omega, by omega⟩
  · rw [h1, decN_step n hn]; simp
  · intro p hp
    simp at hp
    rcases hp with hp | rfl
    · exact h2 p hp
    · exact pcD_len n
  · rw [List.length_append, List.length_singleton, Nat.pow_succ]
    have : n / 1000000000 * 2 ≤ n := by omega
    calc n / 1000000000 * (2 ^ ps.length * 2) = (n / 1000000000 * 2) * 2 ^ ps.length := by rw [Nat.mul_comm (2 ^ ps.length), Nat.mul_assoc]
      _ ≤ n * 2 ^ ps.length := Nat.mul_le_mul_right _ this
      _ ≤ a := h3
theorem DcI.fin {a k0 : Nat} {ps : List (List UInt8)} (h : DcI a 0 k0 ps) (ha : a ≠ 0) : ps.reverse.flatten = Lib.decDigits a := by
  have := h.1
  unfold decN at this
  rw [if_neg ha, if_pos rfl, List.nil_append] at this
  exact this.symm

end Go.Proofs.YtjmmgffdagcflaaDoor
