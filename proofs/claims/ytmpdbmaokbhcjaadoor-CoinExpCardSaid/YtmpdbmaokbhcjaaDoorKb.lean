/-
  THE WALK of coin's tape.bit.
-/
import Derived.Test.YtmpdbmaokbhcjaaDoorChecked
import Derived.WalkKit
import Derived.WalkLawsBesides
import Derived.WalkSpells
import Derived.Handy
import Derived.Lib.Hide
import Derived.Deep.Draws
import Derived.BigQuiet
import Derived.Deep.QuietTactic
import Derived.Test.YtmpdbmaokbhcjaaDoorKp
set_option linter.unusedVariables false
set_option linter.unusedSimpArgs false
namespace Go.Proofs.YtmpdbmaokbhcjaaDoor
open Go.RowKit Kn

theorem and1_u8 (n : Nat) (h : n < 256) : bits .and .u8 (n : Int) 1 = ((n % 2 : Nat) : Int) := by
  have : ∀ k : Fin 256, bits .and .u8 ((k.val : Nat) : Int) 1 = ((k.val % 2 : Nat) : Int) := by decide +kernel
  exact this ⟨n, h⟩
/-- a tape in a block -/
def Bt (w : World) (b : Nat) (s : ByteArray) (i : Nat) (no : Bool) : Prop := w.heap[b]? = some (.cells #[.string s, .int .i64 i, .bool no] 125 (0, 0))
theorem Bt.cells {w : World} {b : Nat} {s : ByteArray} {i : Nat} {no : Bool} (h : Bt w b s i no) :
    w.cell? ⟨b, 0, none⟩ = some (.string s) ∧ w.cell? ⟨b, 1, none⟩ = some (.int .i64 i) ∧ w.cell? ⟨b, 2, none⟩ = some (.bool no) ∧ w.frozen? ⟨b, 0, none⟩ = false ∧ w.frozen? ⟨b, 1, none⟩ = false ∧ w.frozen? ⟨b, 2, none⟩ = false := by
  unfold Bt at h
  refine ⟨?_, ?_, ?_, ?_, ?_, ?_⟩ <;> simp [World.cell?, World.frozen?, h, Array.getElem?_eq_getElem]
theorem Bt.drew {w : World} {b : Nat} {s : ByteArray} {i : Nat} {no : Bool} (h : Bt w b s i no) : Bt w.drew b s i no := h
theorem Bt.lt {w : World} {b : Nat} {s : ByteArray} {i : Nat} {no : Bool} (h : Bt w b s i no) : b < w.heap.size := (Array.getElem?_eq_some_iff.1 h).1
theorem bt_set {w : World} {b o : Nat} {v : Value} {c : Array Value} {T : TypeId} {f : Nat × Nat} (h : w.heap[b]? = some (.cells c T f)) : (w.setCell ⟨b, o, none⟩ v).heap[b]? = some (.cells (c.setIfInBounds o v) T f) := by
  unfold World.setCell
  simp [Array.getElem?_modify, h]
theorem Bt.set1 {w : World} {b : Nat} {s : ByteArray} {i : Nat} {no : Bool} (h : Bt w b s i no) (j : Nat) : Bt (w.setCell ⟨b, 1, none⟩ (.int .i64 j)) b s j no := bt_set h
theorem Bt.set2 {w : World} {b : Nat} {s : ByteArray} {i : Nat} {no : Bool} (h : Bt w b s i no) (m : Bool) : Bt (w.setCell ⟨b, 2, none⟩ (.bool m)) b s i m := bt_set h
theorem Bt.drewN {w : World} {b : Nat} {s : ByteArray} {i : Nat} {no : Bool} (h : Bt w b s i no) (n : Nat) : Bt (w.drewN n) b s i no := h
theorem bl_drewN {B : Nat} {a w : World} (h : Below B a w) (n : Nat) : Below B a (w.drewN n) := ⟨h.os, h.tape, h.output, h.size, h.block⟩
/-- a tape: what is left of it; none: it came to its end -/
def Tp (w : World) (b : Nat) (s : ByteArray) : Option (List Bool) → Prop
  | some l => ∃ i : Nat, i + l.length = 8 * s.size ∧ l = tbits s i ∧ Bt w b s i false
  | none => ∃ i : Nat, i ≤ 8 * s.size ∧ Bt w b s i true
set_option maxRecDepth 100000 in
set_option maxHeartbeats 8000000 in
theorem bit_any (b : Nat) (s : ByteArray) (o : Option (List Bool)) (w : World) (hs : s.size ≤ 64) (h : Tp w b s o) :
    Calls Tryd.prog 128 #[.pointer (some ⟨b, 0, none⟩)] w fun e w' => ∃ v : Bool, e = .returned (.int .i64 (v.toNat : Int)) ∧ (∀ l c r, o = some l → bitP l = some (c, r) → v = c) ∧ Tp w' b s (o.bind fun l => (bitP l).map (·.2)) ∧ Below b w w' := by
  have hsz : (s.size : Int) ≤ 64 := by omega
  match o, h with
  | none, ⟨i, hi, X⟩ =>
    have HX := Lib.hid X
    clear h
    obtain ⟨q0, q1, q2, z0, z1, z2⟩ := X.cells
    go_enter Tryd.func128, Tryd.ntmps128
    go_wp2_with fail
    go_quiet (fail)
    clear q0 q1 q2 z0 z1 z2
    obtain ⟨q0, q1, q2, z0, z1, z2⟩ := (HX.out.drewN nq).cells
    go_wp2
    go_ret
    exact ⟨false, rfl, fun l c r h => absurd h (by simp), ⟨i, hi, (HX.out.drewN nq).set2 true⟩, (bl_drewN (Below.refl b w) nq).setCell (Nat.le_refl _) _⟩
  | some [], ⟨i, hl, he, X⟩ =>
    have hi : i = 8 * s.size := by simpa using hl
    have HX := Lib.hid X
    have hq : ((i : Int) == 8 * (s.size : Int)) = true := by rw [beq_iff_eq]; omega
    clear h
    obtain ⟨q0, q1, q2, z0, z1, z2⟩ := X.cells
    go_enter Tryd.func128, Tryd.ntmps128
    go_wp2_with fail
    go_quiet (fail)
    clear q0 q1 q2 z0 z1 z2
    obtain ⟨q0, q1, q2, z0, z1, z2⟩ := (HX.out.drewN nq).cells
    go_wp2
    go_ret
    exact ⟨false, rfl, fun l c r h h2 => by simp only [Option.some.injEq] at h; subst h; exact absurd h2 (by simp [bitP]), ⟨i, by omega, (HX.out.drewN nq).set2 true⟩, (bl_drewN (Below.refl b w) nq).setCell (Nat.le_refl _) _⟩
  | some (c :: l), ⟨i, hl, he, X⟩ =>
    have hi : i < 8 * s.size := by simp only [List.length_cons] at hl; omega
    have HX := Lib.hid X
    have hq : ((i : Int) == 8 * (s.size : Int)) = false := by rw [beq_eq_false_iff_ne]; omega
    clear h
    obtain ⟨q0, q1, q2, z0, z1, z2⟩ := X.cells
    obtain ⟨q, hq8⟩ : ∃ q, q = i / 8 := ⟨_, rfl⟩
    obtain ⟨B, hB⟩ : ∃ B : UInt8, B = s.data.toList.getD (i / 8) 0 := ⟨_, rfl⟩
    have e1 : IntKind.i64.wrap ((i : Int) / 8) = (q : Int) := by rw [IntWalk.i64_in _ (by omega)]; omega
    have hidx : ∀ w : World, (Instr.index 9 (.string s) (.int .i64 (q : Int))).run Tryd.prog w = .ok (.int .u8 (B.toNat : Int)) w := by
      intro w
      have hlt : q < s.size := by omega
      have hg : s[q]'hlt = B := by
        rw [hB, ← hq8, List.getD_eq_getElem?_getD, Array.getElem?_toList, getElem?_pos s.data q hlt]; rfl
      rw [run_index_string (h := Tryd.underlying9), dif_pos ⟨by omega, by omega⟩]
      simp only [Int.toNat_natCast, hg]
    have hB1 := B.toNat_lt
    have hv : c = (B.toNat / 2 ^ (7 - i % 8) % 2 == 1) := by
      rw [tbits_cons hi] at he
      simp only [List.cons.injEq] at he
      rw [he.1]; unfold tbit; rw [hB]
    have hr : i % 8 = 0 ∨ i % 8 = 1 ∨ i % 8 = 2 ∨ i % 8 = 3 ∨ i % 8 = 4 ∨ i % 8 = 5 ∨ i % 8 = 6 ∨ i % 8 = 7 := by omega
    obtain ⟨r, hr8⟩ : ∃ r, r = i % 8 := ⟨_, rfl⟩
    have e2 : IntKind.i64.wrap ((i : Int) % 8) = (r : Int) := by rw [IntWalk.i64_in _ (by omega)]; omega
    rw [← hr8] at hr hv
    have HE := Lib.hid (show l = tbits s (i + 1) by
      rw [tbits_cons hi] at he
      simp only [List.cons.injEq] at he
      exact he.2)
    clear hB hq8 he hr
    go_enter Tryd.func128, Tryd.ntmps128
    go_wp2_with fail
    go_quiet (fail)
    go_wp2_with fail
    go_quiet (fail)
    go_wp2
    go_ret
    have hval : wrap64 (bits .and .u8 ((B.toNat : Int) / 2 ^ (7 - i % 8)) 1) = (c.toNat : Int) := by
      have h1 : (B.toNat : Int) / 2 ^ (7 - i % 8) = ((B.toNat / 2 ^ (7 - i % 8) : Nat) : Int) := by push_cast; rfl
      rw [h1, and1_u8 _ (Nat.lt_of_le_of_lt (Nat.div_le_self _ _) hB1), hv, ← hr8]
      generalize B.toNat / 2 ^ (7 - r) = z
      rcases Nat.mod_two_eq_zero_or_one z with k | k <;> rw [k] <;> first | rfl | decide +kernel
    have hl2 : i + 1 + l.length = 8 * s.size := by simp only [List.length_cons] at hl; omega
    refine ⟨c, ?_, fun l2 c2 r2 h h2 => ?_, ?_, (bl_drewN (Below.refl b w) _).setCell (Nat.le_refl _) _⟩
    · rw [hval]; rfl
    · simp only [Option.some.injEq] at h; subst h; simp only [bitP, Option.some.injEq, Prod.mk.injEq] at h2; exact h2.1
    · exact ⟨i + 1, hl2, HE.out, (HX.out.drewN _).set1 (i + 1)⟩
end Go.Proofs.YtmpdbmaokbhcjaaDoor
