/-
  THE WALK of hex.parse.
-/
import Derived.Test.YtjmmgffdagcflaaGreatDoorHm
import Derived.Test.YtjmmgffdagcflaaGreatDoorFx
import Derived.Shelf.Small.Wraps
import Derived.Shelf.Strings.Prefix
import Derived.Shelf.Strconv.Atoi
import Derived.Lib.AtoiBound
set_option linter.unusedVariables false
set_option linter.unusedSimpArgs false
namespace Go.Proofs.YtjmmgffdagcflaaGreatDoor
open Go.Shelf Go.RowKit Go.Lib Nt

shelf_lay Lays.n103 Nm 103 at Tryz as Tryz.laysCutPrefix
shelf_lay Lays.n99 Nm 99 at Tryz as Tryz.laysHasPrefix
shelf_lay Lays.n172 Nm 172 at Tryz as Tryz.laysAtoi
theorem fCutPrefix : Tryz.laysCutPrefix_ren.f 103 = 59 := by kernel_rfl
theorem fHasPrefix : Tryz.laysHasPrefix_ren.f 99 = 66 := by kernel_rfl
theorem fAtoi : Tryz.laysAtoi_ren.f 172 = 152 := by kernel_rfl
theorem tAtoi : Tryz.laysAtoi_ren.t 5 = 5 := by kernel_rfl
theorem cutPrefix_any (s p : List UInt8) (S : ByteArray) (hS : S = ⟨s.toArray⟩) (w : World) :
    Calls Tryz.prog 59 #[.string S, .string ⟨p.toArray⟩] w fun e w' => e = .returned (.tuple #[.string ⟨(Lib.trimPrefix s p).toArray⟩, .bool (Lib.hasPrefix s p)]) ∧ w = w' := by
  have h := Any.strings_CutPrefix Tryz.laysCutPrefix S ⟨p.toArray⟩ w
  rw [fCutPrefix] at h
  rw [hS] at h ⊢
  exact h.mono fun e w' k => ⟨k.1, k.2.symm⟩
theorem hasPrefix_any (s p : List UInt8) (S : ByteArray) (hS : S = ⟨s.toArray⟩) (w : World) :
    Calls Tryz.prog 66 #[.string S, .string ⟨p.toArray⟩] w fun e w' => e = .returned (.bool (Lib.hasPrefix s p)) ∧ w = w' := by
  have h := Any.strings_HasPrefix Tryz.laysHasPrefix S ⟨p.toArray⟩ w
  rw [fHasPrefix] at h
  rw [hS] at h ⊢
  exact h.mono fun e w' k => ⟨k.1, k.2.symm⟩
/-- a number in tens -/
def dcN (a : Nat) : List UInt8 → Nat
  | [] => a
  | c :: l => dcN (a * 10 + (c.toNat - 48)) l
theorem dec_from : ∀ (l : List UInt8) (a : Nat), (∀ c ∈ l, dgt c) → Lib.decFrom a l = some (dcN a l)
  | [], a, _ => rfl
  | c :: l, a, h => by
    have hc := h c (by simp)
    unfold dgt at hc
    have hd : Lib.digitVal c = some (c.toNat - 48) := by unfold Lib.digitVal; simp [hc.1, hc.2]
    rw [Lib.decFrom, hd]
    exact dec_from l _ (fun d hd => h d (by simp [hd]))
theorem atoi_dg {l : List UInt8} (hl : l ≠ []) (h : ∀ c ∈ l, dgt c) : Lib.atoi l = some ((dcN 0 l : Nat) : Int) := by
  cases l with
  | nil => exact absurd rfl hl
  | cons c r =>
    have hc := h c (by simp)
    have h1 : (c == 45) = false := by rw [beq_eq_false_iff_ne]; exact (dgt_not hc).2.2
    have h2 : (c == 43) = false := by rw [beq_eq_false_iff_ne]; intro e; subst e; revert hc; unfold dgt; decide
    have h3 : Lib.decNat (c :: r) = some (dcN 0 (c :: r)) := by
      rw [show Lib.decNat (c :: r) = Lib.decFrom 0 (c :: r) from rfl, dec_from _ 0 h]
    simp [Lib.atoi, h1, h2, h3]
theorem atoi_any (l : List UInt8) (S : ByteArray) (hS : S = ⟨l.toArray⟩) (hl : l ≠ []) (h : ∀ c ∈ l, dgt c) (h18 : l.length ≤ 18) (w : World) :
    Calls Tryz.prog 152 #[.string S] w fun e w' => e = .returned (.tuple #[.int .i64 ((dcN 0 l : Nat) : Int), .nilIface]) ∧ Below w.heap.size w w' := by
  have hd : S.data.toList = l := by rw [hS]
  have hz : S.size = l.length := by rw [hS]; rfl
  have h := Any.strconv_Atoi Tryz.laysAtoi S ((dcN 0 l : Nat) : Int) (by omega) (by rw [hd]; exact atoi_dg hl h) w
  rw [fAtoi, tAtoi] at h
  refine h.mono ?_
  rintro e w' ⟨rfl, t, rfl⟩
  exact ⟨rfl, below_bytes w _ t⟩
/-- the signs of the digits -/
def hexCs : List UInt8 := [48, 49, 50, 51, 52, 53, 54, 55, 56, 57, 97, 98, 99, 100, 101, 102]
def decCs : List UInt8 := [48, 49, 50, 51, 52, 53, 54, 55, 56, 57]
/-- the pieces of a text -/
structure Prs (s t1 t2 whole t3 r part t4 t5 t6 power rest : List UInt8) (neg ok pt p down up : Bool) : Prop where
  h1 : t1 = Lib.trimPrefix s [45]
  n1 : neg = Lib.hasPrefix s [45]
  h2 : t2 = Lib.trimPrefix t1 [48, 120]
  n2 : ok = Lib.hasPrefix t1 [48, 120]
  hw : whole = t2.takeWhile (hexCs.contains ·)
  h3 : t3 = t2.dropWhile (hexCs.contains ·)
  hr : r = Lib.trimPrefix t3 [46]
  np : pt = Lib.hasPrefix t3 [46]
  hp : part = if pt = true then r.takeWhile (hexCs.contains ·) else []
  h4 : t4 = if pt = true then r.dropWhile (hexCs.contains ·) else t3
  h5 : t5 = Lib.trimPrefix t4 [112]
  n5 : p = Lib.hasPrefix t4 [112]
  nd : down = Lib.hasPrefix t5 [45]
  nu : up = Lib.hasPrefix t5 [43]
  h6 : t6 = if (down || up) = true then t5.drop 1 else t5
  hq : power = t6.takeWhile (decCs.contains ·)
  he : rest = t6.dropWhile (decCs.contains ·)
/-- a text that is not so -/
def prBad (whole part power rest : List UInt8) (ok p : Bool) : Bool := !ok || !p || (whole ++ part).isEmpty || power.isEmpty || decide (5 < power.length) || !rest.isEmpty
theorem takeW_mem {p : UInt8 → Bool} : ∀ {l : List UInt8} {c : UInt8}, c ∈ l.takeWhile p → p c = true
  | [], _, h => by simp at h
  | d :: l, c, h => by
    by_cases hd : p d = true
    · rw [List.takeWhile_cons_of_pos hd, List.mem_cons] at h
      rcases h with rfl | h
      · exact hd
      · exact takeW_mem h
    · rw [List.takeWhile_cons_of_neg hd] at h; simp at h
theorem dcN_lt : ∀ (l : List UInt8) (a : Nat), (∀ c ∈ l, dgt c) → dcN a l < (a + 1) * 10 ^ l.length := by
  intro l
  induction l with
  | nil => intro a _; show a < (a + 1) * 1; omega
  | cons c l ih =>
    intro a h
    have h1 := ih (a * 10 + (c.toNat - 48)) (fun d hd => h d (List.mem_cons_of_mem _ hd))
    have h2 := h c (List.mem_cons_self ..)
    unfold dgt at h2
    show dcN (a * 10 + (c.toNat - 48)) l < (a + 1) * 10 ^ (l.length + 1)
    have h3 : (a * 10 + (c.toNat - 48) + 1) * 10 ^ l.length ≤ ((a + 1) * 10) * 10 ^ l.length := Nat.mul_le_mul_right _ (by omega)
    have h4 : (a + 1) * 10 ^ (l.length + 1) = ((a + 1) * 10) * 10 ^ l.length := by rw [Nat.pow_succ, Nat.mul_comm (10 ^ l.length), Nat.mul_assoc]
    rw [h4]
    exact Nat.lt_of_lt_of_le h1 h3
theorem trimP_len (s p : List UInt8) : (Lib.trimPrefix s p).length ≤ s.length := by
  unfold Lib.trimPrefix; split
  · rw [List.length_drop]; omega
  · omega
theorem takeW_le {p : UInt8 → Bool} (l : List UInt8) : (l.takeWhile p).length ≤ l.length := (List.takeWhile_sublist p).length_le
theorem hasP_one {s : List UInt8} {c : UInt8} (h : Lib.hasPrefix s [c] = true) : 1 ≤ s.length := by
  cases s with
  | nil => simp [Lib.hasPrefix, List.isPrefixOf] at h
  | cons d l => simp
theorem empt (l : List UInt8) (S : ByteArray) (hS : S = ⟨l.toArray⟩) : S.toList.isEmpty = l.isEmpty := by rw [Lib.toList_data, hS]
/-- what parse tells -/
def RetPr (w : World) (bad neg : Bool) (d : List UInt8) (k : Int) (e : Ending) (w' : World) : Prop :=
  e = .returned (.tuple #[.bool (!bad && neg), .string ⟨(if bad = true then [] else d).toArray⟩, .int .i64 (if bad = true then 0 else k), .bool (!bad)]) ∧ Below w.heap.size w w'
end Go.Proofs.YtjmmgffdagcflaaGreatDoor
