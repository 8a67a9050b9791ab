/-
  THE WALKS of hex.mantissa, hex.take.
-/
import Derived.Test.YtjmmgffdagcflaaGreatDoorHxp
import Derived.Test.YtjmmgffdagcflaaGreatDoorLb
import Derived.Test.YtjmmgffdagcflaaGreatDoorBd
import Derived.Test.YtjmmgffdagcflaaGreatDoorNa
import Derived.Deep.LoopGhost
import Derived.Shelf.Strings.SlTrimAscii
set_option linter.unusedVariables false
set_option linter.unusedSimpArgs false
namespace Go.Proofs.YtjmmgffdagcflaaGreatDoor
open Go.Shelf Go.RowKit Go.Lib Nt

theorem hxN_two (a : Nat) : ∀ l : List UInt8, hxN a l = a * 2 ^ (4 * l.length) + hxN 0 l
  | [] => by simp [hxN]
  | c :: l => by
    rw [hxN, hxN, hxN_two (a * 16 + hxv c) l, hxN_two (0 * 16 + hxv c) l, Nat.zero_mul, Nat.zero_add, Nat.add_mul, List.length_cons, show 4 * (l.length + 1) = 4 + 4 * l.length by omega, Nat.pow_add, Nat.mul_assoc, Nat.add_assoc]
theorem hxN_bd (l : List UInt8) (h : ∀ c ∈ l, IsHx c) : hxN 0 l < 2 ^ (4 * l.length) := by
  have h1 := hxN_lt l 0 h
  rw [show (16 : Nat) = 2 ^ 4 by decide, ← Nat.pow_mul] at h1
  omega
shelf_lay Lays.n161 Nm 161 at Tryz as Tryz.laysTrimLeft
theorem fTrimLeft : Tryz.laysTrimLeft_ren.f 161 = 33 := by kernel_rfl
theorem trimLeft_any (s : ByteArray) (cs : List UInt8) (hcs : cs.all (fun b => decide (b.toNat < 128)) = true) (hl : cs.length ≤ 1000) (w : World) :
    Calls Tryz.prog 33 #[.string s, .string ⟨cs.toArray⟩] w fun e w' => e = .returned (.string ⟨(s.data.toList.dropWhile (cs.contains ·)).toArray⟩) ∧ Below w.heap.size w w' := by
  have h := Any.strings_TrimLeft_laid Tryz.laysTrimLeft (by kernel_rfl) s ⟨cs.toArray⟩ w (by show cs.toArray.size < _; simp; omega) (by
    intro j b hj
    exact of_decide_eq_true (List.all_eq_true.1 hcs b (List.mem_of_getElem? hj)))
  rw [fTrimLeft] at h
  exact h
theorem dropW_len {p : UInt8 → Bool} (l : List UInt8) : (l.dropWhile p).length ≤ l.length := (List.dropWhile_sublist p).length_le
theorem takeW_len {p : UInt8 → Bool} : ∀ l : List UInt8, l.take (l.length - (l.dropWhile p).length) = l.takeWhile p
  | [] => rfl
  | c :: l => by
    by_cases h : p c = true
    · rw [List.dropWhile_cons_of_pos h, List.takeWhile_cons_of_pos h]
      have := dropW_len (p := p) l
      rw [List.length_cons, show l.length + 1 - (l.dropWhile p).length = (l.length - (l.dropWhile p).length) + 1 by omega, List.take_succ_cons, takeW_len l]
    · rw [List.dropWhile_cons_of_neg h, List.takeWhile_cons_of_neg h]; simp
end Go.Proofs.YtjmmgffdagcflaaGreatDoor
