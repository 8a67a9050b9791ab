/-
  SOME OF MY TEXTS in one: Nt Cmp Fl Ok Fm PlP Ring Ord. Each says what it proves.
-/
import Derived.WalkKit
import Derived.Lib.Hide
import Derived.Deep.Draws
import Derived.Test.YtofdjfdnckmmmaaGreatDoorChecked
import Derived.WalkLawsBesides
import Derived.WalkSpells
import Derived.Handy
set_option linter.unusedVariables false
set_option linter.unusedSimpArgs false
/-
  PLAIN: numbers by their limbs; and what it says that a slice in memory reads as a number. No Go function here.
-/
namespace Go.Proofs.YtofdjfdnckmmmaaGreatDoor.Nt
def val : List Nat → Nat
  | [] => 0
  | d :: l => d + 4294967296 * val l

def Lims (l : List Nat) : Prop := ∀ d ∈ l, d < 4294967296
def Nrm (l : List Nat) : Prop := Lims l ∧ l.getLast? ≠ some 0

theorem p32 : (4294967296 : Nat) = 2 ^ 32 := by decide

theorem pow32_succ (n : Nat) : 2 ^ (32 * (n + 1)) = 4294967296 * 2 ^ (32 * n) := by
  rw [p32, ← Nat.pow_add]; congr 1; omega

theorem val_append (l m : List Nat) : val (l ++ m) = val l + 2 ^ (32 * l.length) * val m := by
  induction l with
  | nil => simp [val]
  | cons d l ih =>
    simp only [List.cons_append, val, ih, List.length_cons]
    rw [pow32_succ, Nat.mul_add, Nat.mul_assoc]
    omega

theorem Lims.nil : Lims [] := fun _ h => by cases h
theorem Lims.cons {d : Nat} {l : List Nat} (hd : d < 4294967296) (h : Lims l) : Lims (d :: l) := by
  intro x hx; cases hx with
  | head => exact hd
  | tail _ hx => exact h x hx
theorem Lims.head {d : Nat} {l : List Nat} (h : Lims (d :: l)) : d < 4294967296 := h d (by simp)
theorem Lims.tail {d : Nat} {l : List Nat} (h : Lims (d :: l)) : Lims l := fun x hx => h x (by simp [hx])
theorem Lims.append {l m : List Nat} (h : Lims l) (k : Lims m) : Lims (l ++ m) := by
  intro x hx; rcases List.mem_append.1 hx with hx | hx
  · exact h x hx
  · exact k x hx
theorem Lims.snoc {l : List Nat} {d : Nat} (h : Lims l) (hd : d < 4294967296) : Lims (l ++ [d]) := h.append (Lims.cons hd Lims.nil)
theorem Lims.take {l : List Nat} (h : Lims l) (k : Nat) : Lims (l.take k) := fun x hx => h x (List.mem_of_mem_take hx)
theorem Lims.drop {l : List Nat} (h : Lims l) (k : Nat) : Lims (l.drop k) := fun x hx => h x (List.mem_of_mem_drop hx)
theorem Lims.get {l : List Nat} (h : Lims l) (i : Nat) (hi : i < l.length) : l[i] < 4294967296 := h _ (List.getElem_mem hi)
theorem Lims.getD {l : List Nat} (h : Lims l) (i : Nat) : l[i]?.getD 0 < 4294967296 := by
  by_cases hi : i < l.length
  · simp [hi]; exact h.get i hi
  · simp [List.getElem?_eq_none (Nat.le_of_not_lt hi)]

theorem val_lt {l : List Nat} (h : Lims l) : val l < 2 ^ (32 * l.length) := by
  induction l with
  | nil => simp [val]
  | cons d l ih =>
    have := ih h.tail; have hd := h.head
    simp only [val, List.length_cons, pow32_succ]
    omega

theorem val_snoc (l : List Nat) (d : Nat) : val (l ++ [d]) = val l + 2 ^ (32 * l.length) * d := by
  rw [val_append]; simp [val]

theorem val_take_succ (l : List Nat) (k : Nat) (h : k < l.length) : val (l.take (k + 1)) = val (l.take k) + 2 ^ (32 * k) * l[k] := by
  rw [List.take_succ_eq_append_getElem h, val_snoc, List.length_take, Nat.min_eq_left (Nat.le_of_lt h)]

theorem val_take_drop (l : List Nat) (k : Nat) (h : k ≤ l.length) : val l = val (l.take k) + 2 ^ (32 * k) * val (l.drop k) := by
  have h2 := val_append (l.take k) (l.drop k)
  rw [List.take_append_drop, List.length_take, Nat.min_eq_left h] at h2
  exact h2

theorem val_drop (l : List Nat) (k : Nat) (h : k < l.length) : val (l.drop k) = l[k] + 4294967296 * val (l.drop (k + 1)) := by
  rw [List.drop_eq_getElem_cons h]; rfl

theorem Nrm.nil : Nrm [] := ⟨Lims.nil, by simp⟩

theorem Nrm.ge {l : List Nat} (h : Nrm l) (n : Nat) (hn : l.length = n + 1) : 2 ^ (32 * n) ≤ val l := by
  have hlt : n < l.length := by omega
  have h1 := val_take_succ l n hlt
  rw [List.take_of_length_le (by omega)] at h1
  have h2 : l[n] ≠ 0 := by
    intro h0; apply h.2
    rw [List.getLast?_eq_getElem?, show l.length - 1 = n by omega, List.getElem?_eq_getElem hlt, h0]
  have h3 : 2 ^ (32 * n) * 1 ≤ 2 ^ (32 * n) * l[n] := Nat.mul_le_mul_left _ (by omega)
  omega

/-- what is below a power of two is short -/
theorem Nrm.len {l : List Nat} (h : Nrm l) {k : Nat} (hk : val l < 2 ^ k) : 32 * l.length < k + 32 := by
  rcases Nat.eq_zero_or_pos l.length with h0 | h0
  · omega
  · obtain ⟨n, hn⟩ : ∃ n, l.length = n + 1 := ⟨l.length - 1, by omega⟩
    have h1 := h.ge n hn
    have h2 : 2 ^ (32 * n) < 2 ^ k := Nat.lt_of_le_of_lt h1 hk
    have h3 := (Nat.pow_lt_pow_iff_right (by decide : 1 < 2)).1 h2
    omega

theorem val_eq_zero {l : List Nat} (h : Nrm l) (h0 : val l = 0) : l = [] := by
  rcases Nat.eq_zero_or_pos l.length with h1 | h1
  · exact List.length_eq_zero_iff.1 h1
  · have := h.ge (l.length - 1) (by omega)
    have := Nat.two_pow_pos (32 * (l.length - 1))
    omega

theorem Nrm.tail {d : Nat} {l : List Nat} (h : Nrm (d :: l)) : Nrm l := by
  refine ⟨h.1.tail, ?_⟩
  intro h2; apply h.2
  cases l with
  | nil => simp at h2
  | cons e l => simpa using h2

theorem nrm_inj : ∀ {l m : List Nat}, Nrm l → Nrm m → val l = val m → l = m
  | [], m, _, hm, h => (val_eq_zero hm (by rw [← h]; rfl)).symm
  | d :: l, [], hl, _, h => val_eq_zero hl (by rw [h]; rfl)
  | d :: l, e :: m, hl, hm, h => by
    have hd := hl.1.head; have he := hm.1.head
    simp only [val] at h
    have h1 : d = e := by omega
    have h2 : val l = val m := by omega
    rw [h1, nrm_inj hl.tail hm.tail h2]

/-- of two of one length, alike above place i, the limb there decides -/
theorem val_lt_of {a b : List Nat} (ha : Lims a) (hl : a.length = b.length) (i : Nat) (hi : i < a.length)
    (hd : a.drop (i + 1) = b.drop (i + 1)) (h : a[i] < b[i]'(by omega)) : val a < val b := by
  have h1 := val_take_drop a i (by omega)
  have h2 := val_take_drop b i (by omega)
  have h3 := val_drop a i hi
  have h4 := val_drop b i (by omega)
  rw [hd] at h3
  have h5 := val_lt (ha.take i)
  rw [List.length_take, Nat.min_eq_left (by omega)] at h5
  have h6 : 2 ^ (32 * i) * (val (a.drop i) + 1) ≤ 2 ^ (32 * i) * val (b.drop i) := Nat.mul_le_mul_left _ (by omega)
  rw [Nat.mul_add] at h6
  omega

theorem val_lt_len {a b : List Nat} (ha : Nrm a) (hb : Nrm b) (h : a.length < b.length) : val a < val b := by
  have h1 := val_lt ha.1
  have h2 := hb.ge (b.length - 1) (by omega)
  have h3 : 2 ^ (32 * a.length) ≤ 2 ^ (32 * (b.length - 1)) := Nat.pow_le_pow_right (by decide) (by omega)
  omega

end Go.Proofs.YtofdjfdnckmmmaaGreatDoor.Nt
namespace Go.Proofs.YtofdjfdnckmmmaaGreatDoor
open Go.RowKit Nt

/-- the slice value v reads as the limbs l in the world w -/
def Lim (w : World) (v : Value) (l : List Nat) : Prop :=
  Lims l ∧ ∃ (ao : Option Addr) (cap : Nat), v = .slice ao l.length cap ∧ l.length ≤ cap ∧ cap ≤ maxLen ∧
    (l.length ≤ 0 ∨ ∃ b off, ao = some ⟨b, off, none⟩ ∧ b < w.heap.size ∧ ∀ i, i < l.length → w.cell? ⟨b, off + i, none⟩ = some (.int .u32 ((l.getD i 0 : Nat) : Int)))
/-- .. as the number n, in its form -/
def NV (w : World) (v : Value) (n : Nat) : Prop := ∃ l, Nrm l ∧ val l = n ∧ Lim w v l
/-- a call that tells a number, in new memory -/
def RetNV (w : World) (n : Nat) (e : Ending) (w' : World) : Prop := ∃ v, e = .returned v ∧ NV w' v n ∧ Below w.heap.size w w'

theorem Lim.below {w w' : World} {v : Value} {l : List Nat} (h : Lim w v l) (hb : Below w.heap.size w w') : Lim w' v l := by
  obtain ⟨h1, ao, cap, h2, h3, h4, h5⟩ := h
  refine ⟨h1, ao, cap, h2, h3, h4, ?_⟩
  rcases h5 with h5 | ⟨b, off, h5, h6, h7⟩
  · exact Or.inl h5
  · exact Or.inr ⟨b, off, h5, Nat.lt_of_lt_of_le h6 hb.size, fun i hi => (hb.cell (p := ⟨b, off + i, none⟩) h6).trans (h7 i hi)⟩
theorem NV.below {w w' : World} {v : Value} {n : Nat} (h : NV w v n) (hb : Below w.heap.size w w') : NV w' v n := by
  obtain ⟨l, h1, h2, h3⟩ := h
  exact ⟨l, h1, h2, h3.below hb⟩
theorem Lim.alloc {w : World} {v : Value} {l : List Nat} (h : Lim w v l) (o : Obj) : Lim (w.alloc o) v l := h.below ((Below.refl _ _).alloc (Nat.le_refl _) o)
theorem NV.alloc {w : World} {v : Value} {n : Nat} (h : NV w v n) (o : Obj) : NV (w.alloc o) v n := h.below ((Below.refl _ _).alloc (Nat.le_refl _) o)
theorem NV.drew {w : World} {v : Value} {n : Nat} (h : NV w v n) : NV w.drew v n := h.below (Below.refl _ _).drew
theorem below_of_drewN {B n : Nat} {w w' : World} (h : Below B (w.drewN n) w') : Below B w w' := ⟨h.os, h.tape, h.output, h.size, h.block⟩
theorem below_to_drewN {B n : Nat} {w w' : World} (h : Below B w w') : Below B w (w'.drewN n) := ⟨h.os, h.tape, h.output, h.size, h.block⟩
theorem NV.drewN {w : World} {v : Value} {n : Nat} (h : NV w v n) (k : Nat) : NV (w.drewN k) v n := h.below (below_to_drewN (Below.refl _ _))
theorem NV.len {w : World} {v : Value} {n k : Nat} (h : NV w v n) (hk : n < 2 ^ k) : ∃ l, Nrm l ∧ val l = n ∧ Lim w v l ∧ 32 * l.length < k + 32 := by
  obtain ⟨l, h1, h2, h3⟩ := h
  exact ⟨l, h1, h2, h3, h1.len (by rw [h2]; exact hk)⟩
theorem NV.nil (w : World) : NV w (.slice none 0 0) 0 := ⟨[], Nrm.nil, rfl, Lims.nil, none, 0, rfl, Nat.zero_le _, Nat.zero_le _, Or.inl (by simp)⟩
theorem NV.inj {w : World} {v : Value} {n m : Nat} (h : NV w v n) (k : NV w v m) : n = m := by
  obtain ⟨l, h1, h2, h3, ao, cap, h4, h5, h6, h7⟩ := h
  obtain ⟨l', k1, k2, k3, ao', cap', k4, k5, k6, k7⟩ := k
  rw [h4] at k4
  simp only [Value.slice.injEq] at k4
  obtain ⟨e1, e2, e3⟩ := k4
  have e : l = l' := by
    rcases h7 with h7 | ⟨b, off, h7, _, h8⟩
    · rw [List.length_eq_zero_iff.1 (by omega : l.length = 0), List.length_eq_zero_iff.1 (by omega : l'.length = 0)]
    · rcases k7 with k7 | ⟨b', off', k7, _, k8⟩
      · rw [List.length_eq_zero_iff.1 (by omega : l.length = 0), List.length_eq_zero_iff.1 (by omega : l'.length = 0)]
      · apply List.ext_getElem e2
        intro i i1 i2
        have a := h8 i i1
        have b2 := k8 i i2
        rw [h7] at e1; rw [k7] at e1
        simp only [Option.some.injEq, Addr.mk.injEq] at e1
        rw [e1.1, e1.2.1, b2] at a
        simp only [List.getD, List.getElem?_eq_getElem i1, List.getElem?_eq_getElem i2, Option.getD_some, Option.some.injEq, Value.int.injEq, true_and] at a
        omega
  rw [← h2, ← k2, e]
/-- what is owned reads as limbs -/
theorem own_lim {w : World} {base : Nat} {e : TypeId} {v : Value} {n : Nat} {l : List Nat} (h : w.ownsRow base e 1 v n (l.map fun d => Value.int .u32 ((d : Nat) : Int))) (hl : Lims l) : Lim w v l := by
  have hn : l.length = n := by have := h.1; simpa using this
  refine ⟨hl, ?_⟩
  rcases h.2 with ⟨rfl, h0⟩ | ⟨g, cap, cur, rfl, hb, hg, h1, h2, h3, h4⟩
  · exact ⟨none, 0, by rw [hn, h0], by omega, Nat.zero_le _, Or.inl (by omega)⟩
  · refine ⟨some ⟨g, 0, none⟩, cap, by rw [hn], by omega, h2, Or.inr ⟨g, 0, rfl, (Array.getElem?_eq_some_iff.1 hg).1, ?_⟩⟩
    intro i hi
    have := h.cells (g := g) (by simp [Value.ownBlock]) i (Value.int .u32 ((l.getD i 0 : Nat) : Int)) (by simp [List.getD, hi])
    rw [show (⟨g, 0, none⟩ : Addr).add i = ⟨g, 0 + i, none⟩ from by unfold Addr.add; split <;> simp_all] at this
    exact this
theorem NV.shape {w : World} {v : Value} {n : Nat} (h : NV w v n) : ∃ (ao : Option Addr) (k c : Nat), v = .slice ao k c := by
  obtain ⟨l, _, _, _, ao, c, h, _⟩ := h; exact ⟨ao, _, c, h⟩
/-- what was there reads as it did -/
theorem below_cells {W w1 : World} (hb : Below W.heap.size W w1) : (∀ b o, b < W.heap.size → w1.cell? ⟨b, o, none⟩ = W.cell? ⟨b, o, none⟩) ∧ (∀ b o, b < W.heap.size → w1.frozen? ⟨b, o, none⟩ = W.frozen? ⟨b, o, none⟩) :=
  ⟨fun b o h => hb.cell (p := ⟨b, o, none⟩) h, fun b o h => hb.frozen (p := ⟨b, o, none⟩) h⟩
theorem Lim.nrm {w : World} {v : Value} {l : List Nat} (h : Lim w v l) (hn : Nrm l) : NV w v (val l) := ⟨l, hn, rfl, h⟩
end Go.Proofs.YtofdjfdnckmmmaaGreatDoor

/-
  THE WALKS of cmp.Compare.
-/
namespace Go.Proofs.YtofdjfdnckmmmaaGreatDoor
open Go.RowKit

/-- less: -1, more: 1 -/
def sgn2 (a b : Int) : Int := if a < b then -1 else if b < a then 1 else 0
theorem cmp_int (a b : Int) (w : World) :
    Calls Tryz.prog 137 #[.int .i64 a, .int .i64 b] w fun e w' => e = .returned (.int .i64 (sgn2 a b)) ∧ w' = w := by
  by_cases h1 : a < b
  · have e : sgn2 a b = -1 := by unfold sgn2; omega
    rw [e]; clear e
    go_enter Tryz.func137, Tryz.ntmps137
    go_wp2
    go_ret
    exact ⟨rfl, rfl⟩
  · by_cases h2 : b < a
    · have e : sgn2 a b = 1 := by unfold sgn2; omega
      rw [e]; clear e
      go_enter Tryz.func137, Tryz.ntmps137
      go_wp2
      go_ret
      exact ⟨rfl, rfl⟩
    · have e : sgn2 a b = 0 := by unfold sgn2; omega
      rw [e]; clear e
      go_enter Tryz.func137, Tryz.ntmps137
      go_wp2
      go_ret
      exact ⟨rfl, rfl⟩
theorem cmp_uint32 (a b : Int) (w : World) :
    Calls Tryz.prog 138 #[.int .u32 a, .int .u32 b] w fun e w' => e = .returned (.int .i64 (sgn2 a b)) ∧ w' = w := by
  by_cases h1 : a < b
  · have e : sgn2 a b = -1 := by unfold sgn2; omega
    rw [e]; clear e
    go_enter Tryz.func138, Tryz.ntmps138
    go_wp2
    go_ret
    exact ⟨rfl, rfl⟩
  · by_cases h2 : b < a
    · have e : sgn2 a b = 1 := by unfold sgn2; omega
      rw [e]; clear e
      go_enter Tryz.func138, Tryz.ntmps138
      go_wp2
      go_ret
      exact ⟨rfl, rfl⟩
    · have e : sgn2 a b = 0 := by unfold sgn2; omega
      rw [e]; clear e
      go_enter Tryz.func138, Tryz.ntmps138
      go_wp2
      go_ret
      exact ⟨rfl, rfl⟩
theorem cmp_uint64 (a b : Int) (w : World) :
    Calls Tryz.prog 247 #[.int .u64 a, .int .u64 b] w fun e w' => e = .returned (.int .i64 (sgn2 a b)) ∧ w' = w := by
  by_cases h1 : a < b
  · have e : sgn2 a b = -1 := by unfold sgn2; omega
    rw [e]; clear e
    go_enter Tryz.func247, Tryz.ntmps247
    go_wp2
    go_ret
    exact ⟨rfl, rfl⟩
  · by_cases h2 : b < a
    · have e : sgn2 a b = 1 := by unfold sgn2; omega
      rw [e]; clear e
      go_enter Tryz.func247, Tryz.ntmps247
      go_wp2
      go_ret
      exact ⟨rfl, rfl⟩
    · have e : sgn2 a b = 0 := by unfold sgn2; omega
      rw [e]; clear e
      go_enter Tryz.func247, Tryz.ntmps247
      go_wp2
      go_ret
      exact ⟨rfl, rfl⟩
end Go.Proofs.YtofdjfdnckmmmaaGreatDoor

/-
  PLAIN: the numbers of package float as functions on integers (no Go in sight).
-/
namespace Go.Proofs.YtofdjfdnckmmmaaGreatDoor.Fl

/-- the bits without the sign -/
def fabs (x : Int) : Int := x % 9223372036854775808
def fexp (x : Int) : Int := x / 4503599627370496 % 2048
def ffr (x : Int) : Int := x % 4503599627370496
def fng (x : Int) : Bool := decide (9223372036854775808 ≤ x)
def fneg (x : Int) : Int := if 9223372036854775808 ≤ x then x - 9223372036854775808 else x + 9223372036854775808
def fcls (x : Int) : Int := if fabs x = 0 then 1 else if fabs x < 4503599627370496 then 2 else if fabs x < 9218868437227405312 then 3 else if fabs x = 9218868437227405312 then 4 else 5
def frank (x : Int) : Int := if 9218868437227405312 < fabs x then 0 else if 9223372036854775808 ≤ x then -fabs x else fabs x
def frerr (x : Int) : Int := if 9218868437227405312 < fabs x then 4 else 0
def fof (n : Int) : Int := if n < 0 then 9223372036854775808 - n else n
def fnext (x : Int) : Int := if 9218868437227405312 < fabs x then 9221120237041090560 else if frank x = 9218868437227405312 then x else if frank x = -1 then 9223372036854775808 else fof (frank x + 1)
def fprev (x : Int) : Int := if 9218868437227405312 < fabs x then 9221120237041090560 else if frank x = -9218868437227405312 then x else fof (frank x - 1)

def fmk (s : Bool) (e f : Int) : Int := e * 4503599627370496 + f + if s then 9223372036854775808 else 0
/-- what Of tells, and its error -/
def fofv (n : Int) : Int := if -9218868437227405312 ≤ n ∧ n ≤ 9218868437227405312 then fof n else 0
def fofe (n : Int) : Int := if -9218868437227405312 ≤ n ∧ n ≤ 9218868437227405312 then 0 else 1
theorem fofv_in {n : Int} (h0 : -9218868437227405312 ≤ n) (h1 : n ≤ 9218868437227405312) : fofv n = fof n ∧ fofe n = 0 := by
  unfold fofv fofe; rw [if_pos ⟨h0, h1⟩, if_pos ⟨h0, h1⟩]; exact ⟨rfl, rfl⟩
theorem fofv_out {n : Int} (h : n < -9218868437227405312 ∨ 9218868437227405312 < n) : fofv n = 0 ∧ fofe n = 1 := by
  unfold fofv fofe; rw [if_neg (by omega), if_neg (by omega)]; exact ⟨rfl, rfl⟩
theorem fexp_bd (x : Int) : 0 ≤ fexp x ∧ fexp x ≤ 2047 := by unfold fexp; omega
theorem ffr_bd (x : Int) : 0 ≤ ffr x ∧ ffr x ≤ 4503599627370495 := by unfold ffr; omega
theorem fabs_bd (x : Int) : 0 ≤ fabs x ∧ fabs x ≤ 9223372036854775807 := by unfold fabs; omega
theorem frank_bd (x : Int) : -9218868437227405312 ≤ frank x ∧ frank x ≤ 9218868437227405312 := by have := fabs_bd x; unfold frank; omega
theorem fneg_bd {x : Int} (h0 : 0 ≤ x) (h1 : x ≤ 18446744073709551615) : 0 ≤ fneg x ∧ fneg x ≤ 18446744073709551615 := by unfold fneg; omega
theorem fof_bd {n : Int} (h0 : -9218868437227405312 ≤ n) (h1 : n ≤ 9218868437227405312) : 0 ≤ fof n ∧ fof n ≤ 18446744073709551615 := by unfold fof; omega
theorem fnext_bd {x : Int} (h0 : 0 ≤ x) (h1 : x ≤ 18446744073709551615) : 0 ≤ fnext x ∧ fnext x ≤ 18446744073709551615 := by
  have := frank_bd x; unfold fnext fof; omega
theorem fprev_bd {x : Int} (h0 : 0 ≤ x) (h1 : x ≤ 18446744073709551615) : 0 ≤ fprev x ∧ fprev x ≤ 18446744073709551615 := by
  have := frank_bd x; unfold fprev fof; omega

/-- the five classes by the two parts -/
theorem cls_ways {x : Int} (h0 : 0 ≤ x) (h1 : x ≤ 18446744073709551615) :
    (fexp x = 0 ∧ ffr x = 0 ∧ fcls x = 1) ∨ (fexp x = 0 ∧ 0 < ffr x ∧ fcls x = 2) ∨ (fexp x = 2047 ∧ ffr x = 0 ∧ fcls x = 4) ∨ (fexp x = 2047 ∧ 0 < ffr x ∧ fcls x = 5) ∨ (0 < fexp x ∧ fexp x < 2047 ∧ fcls x = 3) := by
  unfold fexp ffr fcls fabs; omega

theorem u64_wraps (n : Int) (h0 : 0 ≤ n) (h1 : n < 2 ^ 64) : IntKind.u64.wrap n = n := IntWalk.u64_in n ⟨h0, by omega⟩
theorem and_2047 (x : Int) (h0 : 0 ≤ x) (h1 : x ≤ 18446744073709551615) : bits .and .u64 x 2047 = x % 2048 :=
  bits_mask .u64 64 (by decide) u64_wraps 11 (by decide) x h0 (by omega)
theorem and_frac (x : Int) (h0 : 0 ≤ x) (h1 : x ≤ 18446744073709551615) : bits .and .u64 x 4503599627370495 = x % 4503599627370496 :=
  bits_mask .u64 64 (by decide) u64_wraps 52 (by decide) x h0 (by omega)
theorem or_sign (x : Int) (h0 : 0 ≤ x) (h1 : x < 9223372036854775808) : bits .or .u64 x 9223372036854775808 = x + 9223372036854775808 := by
  obtain ⟨a, rfl⟩ := Int.eq_ofNat_of_zero_le h0
  have ha : a < 2 ^ 63 := by omega
  have h := bits_or_u64_nat a 9223372036854775808 (by omega) (by decide)
  rw [show ((9223372036854775808 : Nat) : Int) = 9223372036854775808 from rfl] at h
  rw [h, Nat.or_comm]
  have := Nat.two_pow_add_eq_or_of_lt ha 1
  rw [show (2 ^ 63 * 1 : Nat) = 9223372036854775808 by decide] at this
  rw [← this]; omega
theorem or_frac (e x : Int) (he : 0 ≤ e) (he1 : e ≤ 4095) (h0 : 0 ≤ x) (h1 : x < 4503599627370496) : bits .or .u64 (e * 4503599627370496) x = e * 4503599627370496 + x :=
  bits_join .u64 64 (by decide) u64_wraps 52 _ _ (by omega) (by omega) (by omega) h0 (by omega) (by omega)
theorem xor_sign (x : Int) (h0 : 0 ≤ x) (h1 : x ≤ 18446744073709551615) : bits .xor .u64 x 9223372036854775808 = fneg x := by
  obtain ⟨a, rfl⟩ := Int.eq_ofNat_of_zero_le h0
  have h := u64_xor_nat a 9223372036854775808 (by omega) (by decide)
  rw [show ((9223372036854775808 : Nat) : Int) = 9223372036854775808 from rfl] at h
  rw [h]
  unfold fneg
  by_cases hs : a < 2 ^ 63
  · have h2 : a ^^^ 9223372036854775808 = 9223372036854775808 + a := by
      have h3 := Nat.two_pow_add_eq_or_of_lt hs 1
      rw [show (2 ^ 63 * 1 : Nat) = 9223372036854775808 by decide] at h3
      rw [h3]
      apply Nat.eq_of_testBit_eq; intro i
      rw [Nat.testBit_xor, Nat.testBit_or, show (9223372036854775808 : Nat) = 2 ^ 63 by decide, Nat.testBit_two_pow]
      by_cases hi : 63 = i
      · subst hi; rw [Nat.testBit_lt_two_pow hs]; simp
      · simp [hi]
    rw [h2]; omega
  · have h2 : a ^^^ 9223372036854775808 = a - 9223372036854775808 := by
      obtain ⟨b, hb, rfl⟩ : ∃ b, b < 2 ^ 63 ∧ a = 9223372036854775808 + b := ⟨a - 9223372036854775808, by omega, by omega⟩
      have h3 := Nat.two_pow_add_eq_or_of_lt hb 1
      rw [show (2 ^ 63 * 1 : Nat) = 9223372036854775808 by decide] at h3
      rw [Nat.add_sub_cancel_left]
      conv => lhs; rw [h3]
      apply Nat.eq_of_testBit_eq; intro i
      rw [Nat.testBit_xor, Nat.testBit_or, show (9223372036854775808 : Nat) = 2 ^ 63 by decide, Nat.testBit_two_pow]
      by_cases hi : 63 = i
      · subst hi; rw [Nat.testBit_lt_two_pow hb]; simp
      · simp [hi]
    rw [h2]; omega
theorem andNot_sign (x : Int) (h0 : 0 ≤ x) (h1 : x ≤ 18446744073709551615) : bits .andNot .u64 x 9223372036854775808 = fabs x := by
  obtain ⟨a, rfl⟩ := Int.eq_ofNat_of_zero_le h0
  have h := u64_andNot_nat a 9223372036854775808 (by omega) (by decide)
  rw [show ((9223372036854775808 : Nat) : Int) = 9223372036854775808 from rfl] at h
  rw [h, show (18446744073709551615 - 9223372036854775808 : Nat) = 2 ^ 63 - 1 by decide, Nat.and_two_pow_sub_one_eq_mod]
  unfold fabs; omega
end Go.Proofs.YtofdjfdnckmmmaaGreatDoor.Fl

/-
  THE WALK of the law's own 'ok': none of some errors.
-/
namespace Go.Proofs.YtofdjfdnckmmmaaGreatDoor
open Go.RowKit

theorem all_take (l : List Int) (k : Nat) (h : k < l.length) (hk : (l.take k).all (· == 0) = true) : (l.take (k + 1)).all (· == 0) = (l[k] == 0) := by
  rw [List.take_succ_eq_append_getElem h, List.all_append, hk]; simp
theorem all_not (l : List Int) (k : Nat) (h : k < l.length) (hk : (l[k] == 0) = false) : l.all (· == 0) = false := by
  rw [Bool.eq_false_iff]; intro h2
  rw [List.all_eq_true] at h2
  have := h2 _ (List.getElem_mem h)
  rw [hk] at this; cases this

theorem ok_any (l : List Int) (b off cap : Nat) (w : World) (hl : l.length ≤ 1000) (hc : ∀ i, i < l.length → w.cell? ⟨b, off + i, none⟩ = some (.int .i64 (l.getD i 0))) :
    Calls Tryz.prog 21 #[.slice (some ⟨b, off, none⟩) l.length cap] w fun e w' => e = .returned (.bool (l.all (· == 0))) ∧ w = w' := by
  go_enter Tryz.func21, Tryz.ntmps21
  go_wp2
  go_loop [7] (fun i => ∃ k : Nat, k ≤ l.length ∧ i = .int .i64 k ∧ (l.take k).all (· == 0) = true) (fun i => l.length - (intOf i).toNat)
  case atStart => exact ⟨0, Nat.zero_le _, rfl, by simp⟩
  case round =>
    obtain ⟨k, hk, rfl, ht⟩ := hrel
    by_cases hlt : k < l.length
    · have hck := hc k hlt
      have hts := all_take l k hlt ht
      have hno := all_not l k hlt
      have hg : l.getD k 0 = l[k] := by simp [List.getD, hlt]
      rw [hg] at hck
      cases hz : (l[k] == 0)
      · have hzz := hno hz
        have hz2 : (l[k] != 0) = true := by simp [bne, hz]
        have HZ := Lib.hid hzz
        clear hno hts ht hzz hc hg
        go_wp2
        go_ret
        exact ⟨by rw [HZ.out]; rfl, rfl⟩
      · have hz2 : (l[k] != 0) = false := by simp [bne, hz]
        rw [hz] at hts
        have HT := Lib.hid hts
        clear hno hts ht hc hg
        go_wp2
        go_round
        case rel => exact ⟨k + 1, by omega, by go_num, HT.out⟩
        case measure => simp [intOf]; omega
    · have hk2 : k = l.length := by omega
      have ht2 : l.all (· == 0) = true := by rw [hk2, List.take_length] at ht; exact ht
      have HT := Lib.hid ht2
      clear hk2 ht ht2 hc
      go_wp2
      go_ret
      exact ⟨by rw [HT.out]; rfl, rfl⟩
/-- none of so many -/
def ok1 (x0 : Int) : Bool := (x0 == 0)
theorem ok1_mk : ok1 0 = true := by decide
theorem ok_new1 (x0 : Int) (w : World) (b : Nat) (hb : b = w.heap.size) :
    Calls Tryz.prog 21 #[.slice (some ⟨b, 0, none⟩) 1 1] (w.alloc (.cells #[.int .i64 x0] 27)) fun e w' => e = .returned (.bool (ok1 x0)) ∧ w.alloc (.cells #[.int .i64 x0] 27) = w' := by
  subst hb
  have := ok_any [x0] w.heap.size 0 1 (w.alloc (.cells #[.int .i64 x0] 27)) (by simp) (by intro i hi; match i, hi with | 0, _ => simp [go_sem])
  refine this.mono ?_
  rintro e w' ⟨rfl, rfl⟩
  exact ⟨by simp [ok1, Bool.and_assoc], rfl⟩
def ok2 (x0 x1 : Int) : Bool := (x0 == 0) && (x1 == 0)
theorem ok2_mk : ok2 0 0 = true := by decide
theorem ok_new2 (x0 x1 : Int) (w : World) (b : Nat) (hb : b = w.heap.size) :
    Calls Tryz.prog 21 #[.slice (some ⟨b, 0, none⟩) 2 2] (w.alloc (.cells #[.int .i64 x0, .int .i64 x1] 27)) fun e w' => e = .returned (.bool (ok2 x0 x1)) ∧ w.alloc (.cells #[.int .i64 x0, .int .i64 x1] 27) = w' := by
  subst hb
  have := ok_any [x0, x1] w.heap.size 0 2 (w.alloc (.cells #[.int .i64 x0, .int .i64 x1] 27)) (by simp) (by intro i hi; match i, hi with | 0, _ => simp [go_sem] | 1, _ => simp [go_sem])
  refine this.mono ?_
  rintro e w' ⟨rfl, rfl⟩
  exact ⟨by simp [ok2, Bool.and_assoc], rfl⟩
def ok3 (x0 x1 x2 : Int) : Bool := (x0 == 0) && (x1 == 0) && (x2 == 0)
theorem ok3_mk : ok3 0 0 0 = true := by decide
theorem ok_new3 (x0 x1 x2 : Int) (w : World) (b : Nat) (hb : b = w.heap.size) :
    Calls Tryz.prog 21 #[.slice (some ⟨b, 0, none⟩) 3 3] (w.alloc (.cells #[.int .i64 x0, .int .i64 x1, .int .i64 x2] 27)) fun e w' => e = .returned (.bool (ok3 x0 x1 x2)) ∧ w.alloc (.cells #[.int .i64 x0, .int .i64 x1, .int .i64 x2] 27) = w' := by
  subst hb
  have := ok_any [x0, x1, x2] w.heap.size 0 3 (w.alloc (.cells #[.int .i64 x0, .int .i64 x1, .int .i64 x2] 27)) (by simp) (by intro i hi; match i, hi with | 0, _ => simp [go_sem] | 1, _ => simp [go_sem] | 2, _ => simp [go_sem])
  refine this.mono ?_
  rintro e w' ⟨rfl, rfl⟩
  exact ⟨by simp [ok3, Bool.and_assoc], rfl⟩
def ok4 (x0 x1 x2 x3 : Int) : Bool := (x0 == 0) && (x1 == 0) && (x2 == 0) && (x3 == 0)
theorem ok4_mk : ok4 0 0 0 0 = true := by decide
theorem ok_new4 (x0 x1 x2 x3 : Int) (w : World) (b : Nat) (hb : b = w.heap.size) :
    Calls Tryz.prog 21 #[.slice (some ⟨b, 0, none⟩) 4 4] (w.alloc (.cells #[.int .i64 x0, .int .i64 x1, .int .i64 x2, .int .i64 x3] 27)) fun e w' => e = .returned (.bool (ok4 x0 x1 x2 x3)) ∧ w.alloc (.cells #[.int .i64 x0, .int .i64 x1, .int .i64 x2, .int .i64 x3] 27) = w' := by
  subst hb
  have := ok_any [x0, x1, x2, x3] w.heap.size 0 4 (w.alloc (.cells #[.int .i64 x0, .int .i64 x1, .int .i64 x2, .int .i64 x3] 27)) (by simp) (by intro i hi; match i, hi with | 0, _ => simp [go_sem] | 1, _ => simp [go_sem] | 2, _ => simp [go_sem] | 3, _ => simp [go_sem])
  refine this.mono ?_
  rintro e w' ⟨rfl, rfl⟩
  exact ⟨by simp [ok4, Bool.and_assoc], rfl⟩
def ok5 (x0 x1 x2 x3 x4 : Int) : Bool := (x0 == 0) && (x1 == 0) && (x2 == 0) && (x3 == 0) && (x4 == 0)
theorem ok5_mk : ok5 0 0 0 0 0 = true := by decide
theorem ok_new5 (x0 x1 x2 x3 x4 : Int) (w : World) (b : Nat) (hb : b = w.heap.size) :
    Calls Tryz.prog 21 #[.slice (some ⟨b, 0, none⟩) 5 5] (w.alloc (.cells #[.int .i64 x0, .int .i64 x1, .int .i64 x2, .int .i64 x3, .int .i64 x4] 27)) fun e w' => e = .returned (.bool (ok5 x0 x1 x2 x3 x4)) ∧ w.alloc (.cells #[.int .i64 x0, .int .i64 x1, .int .i64 x2, .int .i64 x3, .int .i64 x4] 27) = w' := by
  subst hb
  have := ok_any [x0, x1, x2, x3, x4] w.heap.size 0 5 (w.alloc (.cells #[.int .i64 x0, .int .i64 x1, .int .i64 x2, .int .i64 x3, .int .i64 x4] 27)) (by simp) (by intro i hi; match i, hi with | 0, _ => simp [go_sem] | 1, _ => simp [go_sem] | 2, _ => simp [go_sem] | 3, _ => simp [go_sem] | 4, _ => simp [go_sem])
  refine this.mono ?_
  rintro e w' ⟨rfl, rfl⟩
  exact ⟨by simp [ok5, Bool.and_assoc], rfl⟩
def ok6 (x0 x1 x2 x3 x4 x5 : Int) : Bool := (x0 == 0) && (x1 == 0) && (x2 == 0) && (x3 == 0) && (x4 == 0) && (x5 == 0)
theorem ok6_mk : ok6 0 0 0 0 0 0 = true := by decide
theorem ok_new6 (x0 x1 x2 x3 x4 x5 : Int) (w : World) (b : Nat) (hb : b = w.heap.size) :
    Calls Tryz.prog 21 #[.slice (some ⟨b, 0, none⟩) 6 6] (w.alloc (.cells #[.int .i64 x0, .int .i64 x1, .int .i64 x2, .int .i64 x3, .int .i64 x4, .int .i64 x5] 27)) fun e w' => e = .returned (.bool (ok6 x0 x1 x2 x3 x4 x5)) ∧ w.alloc (.cells #[.int .i64 x0, .int .i64 x1, .int .i64 x2, .int .i64 x3, .int .i64 x4, .int .i64 x5] 27) = w' := by
  subst hb
  have := ok_any [x0, x1, x2, x3, x4, x5] w.heap.size 0 6 (w.alloc (.cells #[.int .i64 x0, .int .i64 x1, .int .i64 x2, .int .i64 x3, .int .i64 x4, .int .i64 x5] 27)) (by simp) (by intro i hi; match i, hi with | 0, _ => simp [go_sem] | 1, _ => simp [go_sem] | 2, _ => simp [go_sem] | 3, _ => simp [go_sem] | 4, _ => simp [go_sem] | 5, _ => simp [go_sem])
  refine this.mono ?_
  rintro e w' ⟨rfl, rfl⟩
  exact ⟨by simp [ok6, Bool.and_assoc], rfl⟩
def ok7 (x0 x1 x2 x3 x4 x5 x6 : Int) : Bool := (x0 == 0) && (x1 == 0) && (x2 == 0) && (x3 == 0) && (x4 == 0) && (x5 == 0) && (x6 == 0)
theorem ok7_mk : ok7 0 0 0 0 0 0 0 = true := by decide
theorem ok_new7 (x0 x1 x2 x3 x4 x5 x6 : Int) (w : World) (b : Nat) (hb : b = w.heap.size) :
    Calls Tryz.prog 21 #[.slice (some ⟨b, 0, none⟩) 7 7] (w.alloc (.cells #[.int .i64 x0, .int .i64 x1, .int .i64 x2, .int .i64 x3, .int .i64 x4, .int .i64 x5, .int .i64 x6] 27)) fun e w' => e = .returned (.bool (ok7 x0 x1 x2 x3 x4 x5 x6)) ∧ w.alloc (.cells #[.int .i64 x0, .int .i64 x1, .int .i64 x2, .int .i64 x3, .int .i64 x4, .int .i64 x5, .int .i64 x6] 27) = w' := by
  subst hb
  have := ok_any [x0, x1, x2, x3, x4, x5, x6] w.heap.size 0 7 (w.alloc (.cells #[.int .i64 x0, .int .i64 x1, .int .i64 x2, .int .i64 x3, .int .i64 x4, .int .i64 x5, .int .i64 x6] 27)) (by simp) (by intro i hi; match i, hi with | 0, _ => simp [go_sem] | 1, _ => simp [go_sem] | 2, _ => simp [go_sem] | 3, _ => simp [go_sem] | 4, _ => simp [go_sem] | 5, _ => simp [go_sem] | 6, _ => simp [go_sem])
  refine this.mono ?_
  rintro e w' ⟨rfl, rfl⟩
  exact ⟨by simp [ok7, Bool.and_assoc], rfl⟩
end Go.Proofs.YtofdjfdnckmmmaaGreatDoor

/-
  PLAIN: magnitudes, the rounding of exact numbers, and exact numbers themselves (no Go in sight).
-/
namespace Go.Proofs.YtofdjfdnckmmmaaGreatDoor.Fm


/-- magnitude of the number of rank r, counted in the smallest number -/
def mag (r : Nat) : Nat := if r < 4503599627370496 then r else (4503599627370496 + r % 4503599627370496) * 2 ^ (r / 4503599627370496 - 1)
/-- what one more in the last place counts -/
def ulp (r : Nat) : Nat := 2 ^ (r / 4503599627370496 - 1)

theorem mag_of (q j : Nat) (h1 : 4503599627370496 ≤ q ∨ j = 0) (h2 : q ≤ 9007199254740992) : mag (q + j * 4503599627370496) = q * 2 ^ j := by
  unfold mag
  by_cases hq : q < 4503599627370496
  · have hj : j = 0 := by omega
    subst hj; simp [hq]
  · rw [if_neg (by omega)]
    by_cases hq2 : q = 9007199254740992
    · subst hq2
      rw [show (9007199254740992 + j * 4503599627370496) % 4503599627370496 = 0 by omega, show (9007199254740992 + j * 4503599627370496) / 4503599627370496 - 1 = j + 1 by omega, Nat.pow_succ]
      omega
    · rw [show (q + j * 4503599627370496) % 4503599627370496 = q - 4503599627370496 by omega, show (q + j * 4503599627370496) / 4503599627370496 - 1 = j by omega, show 4503599627370496 + (q - 4503599627370496) = q by omega]

theorem mag_succ (r : Nat) : mag (r + 1) = mag r + ulp r := by
  by_cases h : r < 4503599627370496
  · have h1 : ulp r = 1 := by unfold ulp; rw [show r / 4503599627370496 - 1 = 0 by omega]
    rw [h1]
    have h2 := mag_of r 0 (by omega) (by omega)
    have h3 := mag_of (r + 1) 0 (by omega) (by omega)
    simp at h2 h3; omega
  · obtain ⟨j, q, hq1, hq2, hr⟩ : ∃ j q, 4503599627370496 ≤ q ∧ q < 9007199254740992 ∧ r = q + j * 4503599627370496 :=
      ⟨r / 4503599627370496 - 1, r % 4503599627370496 + 4503599627370496, by omega, by omega, by omega⟩
    subst hr
    have h2 := mag_of q j (by omega) (by omega)
    have h3 := mag_of (q + 1) j (by omega) (by omega)
    rw [show q + j * 4503599627370496 + 1 = q + 1 + j * 4503599627370496 by omega, h3, h2]
    unfold ulp
    rw [show (q + j * 4503599627370496) / 4503599627370496 - 1 = j by omega, Nat.add_mul]; omega

theorem ulp_pos (r : Nat) : 0 < ulp r := Nat.two_pow_pos _
theorem mag_lt_succ (r : Nat) : mag r < mag (r + 1) := by have := mag_succ r; have := ulp_pos r; omega
theorem mag_mono {r s : Nat} (h : r ≤ s) : mag r ≤ mag s := by
  induction s with
  | zero => rw [show r = 0 by omega]; exact Nat.le_refl _
  | succ s ih =>
    by_cases h1 : r = s + 1
    · rw [h1]; exact Nat.le_refl _
    · have := ih (by omega); have := mag_lt_succ s; omega
theorem mag_lt {r s : Nat} (h : r < s) : mag r < mag s := Nat.lt_of_lt_of_le (mag_lt_succ r) (mag_mono h)
theorem mag_lt_iff {r s : Nat} : mag r < mag s ↔ r < s := ⟨fun h => by
  rcases Nat.lt_or_ge r s with h1 | h1
  · exact h1
  · have := mag_mono h1; omega, mag_lt⟩
theorem mag_le_iff {r s : Nat} : mag r ≤ mag s ↔ r ≤ s := ⟨fun h => by
  rcases Nat.lt_or_ge s r with h1 | h1
  · have := mag_lt h1; omega
  · exact h1, mag_mono⟩
theorem mag_inj {r s : Nat} (h : mag r = mag s) : r = s := by
  have h1 := mag_le_iff.1 (Nat.le_of_eq h); have h2 := mag_le_iff.1 (Nat.le_of_eq h.symm); omega
theorem mag_zero : mag 0 = 0 := by simp [mag]



def bl (m : Nat) : Nat := if m = 0 then 0 else m.log2 + 1
theorem bl_lt (m : Nat) : m < 2 ^ bl m := by
  unfold bl; split
  · subst_vars; simp
  · exact Nat.lt_log2_self
theorem bl_le {m : Nat} (h : m ≠ 0) : 2 ^ (bl m - 1) ≤ m := by
  unfold bl; rw [if_neg h]; exact Nat.log2_self_le h
theorem bl_pos {m : Nat} (h : m ≠ 0) : 0 < bl m := by unfold bl; rw [if_neg h]; omega
theorem bl_uniq {m k : Nat} (h1 : 2 ^ k ≤ m) (h2 : m < 2 ^ (k + 1)) : bl m = k + 1 := by
  have h0 : m ≠ 0 := by have := Nat.two_pow_pos k; omega
  have a := bl_le h0; have b := bl_lt m; have c := bl_pos h0
  have d : bl m - 1 < k + 1 := (Nat.pow_lt_pow_iff_right (by decide : 1 < 2)).1 (Nat.lt_of_le_of_lt a h2)
  have e : k < bl m := (Nat.pow_lt_pow_iff_right (by decide : 1 < 2)).1 (Nat.lt_of_le_of_lt h1 b)
  omega

/-- the exponent of the last place -/
def kk (m : Nat) (e : Int) : Int := max (bl m + e - 53) (-1074)
def jj (m : Nat) (e : Int) : Nat := (kk m e + 1074).toNat
def ss (m : Nat) (e : Int) : Int := kk m e - e
def qq (m : Nat) (e : Int) : Nat := if ss m e ≤ 0 then m * 2 ^ (-ss m e).toNat else m / 2 ^ (ss m e).toNat
def rr (m : Nat) (e : Int) : Nat := if ss m e ≤ 0 then 0 else m % 2 ^ (ss m e).toNat
/-- the rank below -/
def r0 (m : Nat) (e : Int) : Nat := qq m e + jj m e * 4503599627370496

theorem kk_ge (m : Nat) (e : Int) : -1074 ≤ kk m e := by unfold kk; omega
theorem jj_eq (m : Nat) (e : Int) : (jj m e : Int) = kk m e + 1074 := by unfold jj; have := kk_ge m e; omega

theorem qq_lt (m : Nat) (e : Int) : qq m e < 9007199254740992 := by
  have h1 := bl_lt m
  have h2 : (bl m : Int) - 53 ≤ ss m e := by unfold ss kk; omega
  unfold qq
  rw [show (9007199254740992 : Nat) = 2 ^ 53 by decide]
  split
  · rename_i h
    calc m * 2 ^ (-ss m e).toNat < 2 ^ bl m * 2 ^ (-ss m e).toNat := Nat.mul_lt_mul_of_pos_right h1 (Nat.two_pow_pos _)
      _ = 2 ^ (bl m + (-ss m e).toNat) := (Nat.pow_add _ _ _).symm
      _ ≤ 2 ^ 53 := Nat.pow_le_pow_right (by decide) (by omega)
  · rename_i h
    rw [Nat.div_lt_iff_lt_mul (Nat.two_pow_pos _), ← Nat.pow_add]
    exact Nat.lt_of_lt_of_le h1 (Nat.pow_le_pow_right (by decide) (by omega))

theorem qq_ge {m : Nat} (hm : m ≠ 0) (e : Int) : 4503599627370496 ≤ qq m e ∨ jj m e = 0 := by
  by_cases hk : kk m e = -1074
  · right; unfold jj; omega
  · left
    have h1 := bl_le hm
    have hp := bl_pos hm
    have h2 : ss m e = (bl m : Int) - 53 := by unfold ss; unfold kk at hk ⊢; omega
    unfold qq
    rw [show (4503599627370496 : Nat) = 2 ^ 52 by decide]
    split
    · rename_i h
      calc 2 ^ 52 ≤ 2 ^ (bl m - 1 + (-ss m e).toNat) := Nat.pow_le_pow_right (by decide) (by omega)
        _ = 2 ^ (bl m - 1) * 2 ^ (-ss m e).toNat := Nat.pow_add _ _ _
        _ ≤ _ := Nat.mul_le_mul_right _ h1
    · rename_i h
      rw [Nat.le_div_iff_mul_le (Nat.two_pow_pos _), ← Nat.pow_add]
      exact Nat.le_trans (Nat.pow_le_pow_right (by decide) (by omega)) h1

theorem mag_r0 {m : Nat} (hm : m ≠ 0) (e : Int) : mag (r0 m e) = qq m e * 2 ^ jj m e :=
  mag_of _ _ (qq_ge hm e) (by have := qq_lt m e; omega)
theorem mag_r1 {m : Nat} (hm : m ≠ 0) (e : Int) : mag (r0 m e + 1) = (qq m e + 1) * 2 ^ jj m e := by
  have := mag_of (qq m e + 1) (jj m e) (by have := qq_ge hm e; omega) (by have := qq_lt m e; omega)
  rw [← this]; unfold r0; congr 1; omega

/-- the exact number, counted in 2^-(1074+t) -/
def tt (t m : Nat) (e : Int) : Nat := m * 2 ^ (e + 1074 + t).toNat

theorem tt_eq {t m : Nat} {e : Int} (ht : 0 ≤ e + 1074 + t) :
    tt t m e = qq m e * 2 ^ jj m e * 2 ^ t + rr m e * 2 ^ (e + 1074 + t).toNat := by
  have hj := jj_eq m e
  have hs : ss m e = kk m e - e := rfl
  unfold tt qq rr
  by_cases h : ss m e ≤ 0
  · rw [if_pos h, if_pos h, Nat.mul_assoc, Nat.mul_assoc, ← Nat.pow_add, ← Nat.pow_add, Nat.zero_mul, Nat.add_zero]
    congr 2; omega
  · rw [if_neg h, if_neg h]
    have h1 : jj m e + t = (ss m e).toNat + (e + 1074 + t).toNat := by omega
    rw [Nat.mul_assoc, ← Nat.pow_add, h1, Nat.pow_add, ← Nat.mul_assoc, ← Nat.add_mul]
    congr 1
    rw [Nat.mul_comm]; exact (Nat.div_add_mod _ _).symm

theorem rr_lt {t m : Nat} {e : Int} (ht : 0 ≤ e + 1074 + t) : rr m e * 2 ^ (e + 1074 + t).toNat < 2 ^ jj m e * 2 ^ t := by
  have hj := jj_eq m e
  have hs : ss m e = kk m e - e := rfl
  unfold rr
  by_cases h : ss m e ≤ 0
  · rw [if_pos h, Nat.zero_mul]; exact Nat.mul_pos (Nat.two_pow_pos _) (Nat.two_pow_pos _)
  · rw [if_neg h]
    have h1 : jj m e + t = (ss m e).toNat + (e + 1074 + t).toNat := by omega
    rw [← Nat.pow_add, h1, Nat.pow_add]
    exact Nat.mul_lt_mul_of_pos_right (Nat.mod_lt _ (Nat.two_pow_pos _)) (Nat.two_pow_pos _)

theorem floor_le {t m : Nat} {e : Int} (hm : m ≠ 0) (ht : 0 ≤ e + 1074 + t) : mag (r0 m e) * 2 ^ t ≤ tt t m e := by
  rw [mag_r0 hm, tt_eq ht]; omega
theorem lt_succ {t m : Nat} {e : Int} (hm : m ≠ 0) (ht : 0 ≤ e + 1074 + t) : tt t m e < mag (r0 m e + 1) * 2 ^ t := by
  have := rr_lt (m := m) ht
  rw [mag_r1 hm, tt_eq ht, Nat.add_mul, Nat.add_mul, Nat.one_mul]; omega
theorem rr_zero {t m : Nat} {e : Int} (hm : m ≠ 0) (ht : 0 ≤ e + 1074 + t) : rr m e = 0 ↔ tt t m e = mag (r0 m e) * 2 ^ t := by
  rw [mag_r0 hm, tt_eq ht]
  constructor
  · intro h; rw [h]; simp
  · intro h
    have h1 : rr m e * 2 ^ (e + 1074 + t).toNat = 0 := by omega
    rcases Nat.mul_eq_zero.1 h1 with h2 | h2
    · exact h2
    · have := Nat.two_pow_pos (e + 1074 + t).toNat; omega

/-- twice the rest against the last place -/
theorem half_iff {t m : Nat} {e : Int} (hm : m ≠ 0) (ht : 0 ≤ e + 1074 + t) (hs : 0 < ss m e) :
    (2 ^ (ss m e).toNat < 2 * rr m e ↔ (mag (r0 m e) + mag (r0 m e + 1)) * 2 ^ t < 2 * tt t m e) ∧
    (2 ^ (ss m e).toNat = 2 * rr m e ↔ (mag (r0 m e) + mag (r0 m e + 1)) * 2 ^ t = 2 * tt t m e) := by
  have hj := jj_eq m e
  have hse : ss m e = kk m e - e := rfl
  have h1 : jj m e + t = (ss m e).toNat + (e + 1074 + t).toNat := by omega
  rw [mag_r0 hm, mag_r1 hm, tt_eq ht]
  have h2 : (qq m e * 2 ^ jj m e + (qq m e + 1) * 2 ^ jj m e) * 2 ^ t = 2 * (qq m e * 2 ^ jj m e * 2 ^ t) + 2 ^ (ss m e).toNat * 2 ^ (e + 1074 + t).toNat := by
    rw [← Nat.pow_add 2 (ss m e).toNat, ← h1, Nat.pow_add, Nat.add_mul (qq m e) 1, Nat.one_mul, Nat.add_mul, Nat.add_mul]
    omega
  rw [h2, Nat.mul_add]
  generalize 2 * (qq m e * 2 ^ jj m e * 2 ^ t) = A
  have hp := Nat.two_pow_pos (e + 1074 + t).toNat
  generalize 2 ^ (e + 1074 + t).toNat = U at hp
  rw [← Nat.mul_assoc 2]
  constructor
  · rw [Nat.add_lt_add_iff_left, Nat.mul_lt_mul_right hp]
  · rw [Nat.add_left_cancel_iff, Nat.mul_right_cancel_iff hp]



def MR : Nat := 9218868437227405312
/-- twice the rest against the last place: less, as much, more -/
def hh (m : Nat) (e : Int) : Int := if 2 * rr m e < 2 ^ (ss m e).toNat then -1 else if 2 * rr m e = 2 ^ (ss m e).toNat then 0 else 1
/-- is one added? kind 0: towards 0, 1: away from it, 2: the nearest, the even one, 3: the nearest, the one farther from 0 -/
def upk (k : Nat) (m : Nat) (e : Int) : Bool :=
  match k with
  | 0 => false
  | 1 => true
  | 2 => decide (0 < hh m e) || (decide (hh m e = 0) && decide (qq m e % 2 = 1))
  | _ => decide (0 ≤ hh m e)
def r1 (k : Nat) (m : Nat) (e : Int) : Nat := if rr m e ≠ 0 ∧ upk k m e = true then r0 m e + 1 else r0 m e
def numk (k : Nat) (m : Nat) (e : Int) : Nat :=
  if m = 0 then 0 else if MR ≤ r1 k m e then (if k = 0 then MR - 1 else MR) else r1 k m e
def chg (m : Nat) (e : Int) : Bool := decide (m ≠ 0) && (decide (rr m e ≠ 0) || decide (MR ≤ r0 m e))
/-- the kind of a mode -/
def kd (neg : Bool) (mode : Int) : Nat :=
  if mode = 3 then 0 else if mode = 4 then 3 else if mode = 1 then (if neg then 0 else 1) else if mode = 2 then (if neg then 1 else 0) else 2

/-- what 'n ≤ the rounded one' says -/
def Pk (k t T n : Nat) : Prop :=
  match k with
  | 0 => n ≤ MR - 1 ∧ mag n * 2 ^ t ≤ T
  | 1 => n ≤ MR ∧ (n = 0 ∨ mag (n - 1) * 2 ^ t < T)
  | 2 => n ≤ MR ∧ (n = 0 ∨ (mag (n - 1) + mag n) * 2 ^ t < 2 * T ∨ ((mag (n - 1) + mag n) * 2 ^ t = 2 * T ∧ n % 2 = 0))
  | _ => n ≤ MR ∧ (n = 0 ∨ (mag (n - 1) + mag n) * 2 ^ t ≤ 2 * T)

theorem Pk_mono {k t T T' n : Nat} (h : T ≤ T') (hp : Pk k t T n) : Pk k t T' n := by
  rcases k with _ | _ | _ | k <;> simp only [Pk] at * <;> omega

theorem r0_odd (m : Nat) (e : Int) : r0 m e % 2 = qq m e % 2 := by unfold r0; omega

theorem ss_pos_of_rr {m : Nat} {e : Int} (h : rr m e ≠ 0) : 0 < ss m e := by
  rcases Int.lt_or_le 0 (ss m e) with h1 | h1
  · exact h1
  · exfalso; apply h; unfold rr; rw [if_pos h1]

/-- rank of a kind without the bound -/
theorem r1_iff {t m : Nat} {e : Int} (hm : m ≠ 0) (ht : 0 ≤ e + 1074 + t) (k n : Nat) : n ≤ r1 k m e ↔
    match k with
    | 0 => mag n * 2 ^ t ≤ tt t m e
    | 1 => n = 0 ∨ mag (n - 1) * 2 ^ t < tt t m e
    | 2 => n = 0 ∨ (mag (n - 1) + mag n) * 2 ^ t < 2 * tt t m e ∨ ((mag (n - 1) + mag n) * 2 ^ t = 2 * tt t m e ∧ n % 2 = 0)
    | _ => n = 0 ∨ (mag (n - 1) + mag n) * 2 ^ t ≤ 2 * tt t m e := by
  have f1 := floor_le hm ht
  have f2 := lt_succ hm ht
  have f3 := rr_zero hm ht
  have ho := r0_odd m e
  have hh1 : rr m e ≠ 0 → ((hh m e = -1 ↔ 2 * tt t m e < (mag (r0 m e) + mag (r0 m e + 1)) * 2 ^ t) ∧ (hh m e = 0 ↔ 2 * tt t m e = (mag (r0 m e) + mag (r0 m e + 1)) * 2 ^ t) ∧ (hh m e = -1 ∨ hh m e = 0 ∨ hh m e = 1)) := by
    intro h
    obtain ⟨a, b⟩ := half_iff hm ht (ss_pos_of_rr h)
    unfold hh
    split
    · rename_i h1; refine ⟨⟨fun _ => ?_, fun _ => rfl⟩, ⟨fun h => by simp at h, fun h2 => ?_⟩, Or.inl rfl⟩
      · have : ¬ (2 ^ (ss m e).toNat < 2 * rr m e) := by omega
        have h3 : ¬ (2 ^ (ss m e).toNat = 2 * rr m e) := by omega
        rw [a] at this; rw [b] at h3; omega
      · have := b.2 h2.symm; omega
    · split
      · rename_i h1 h2
        refine ⟨⟨fun h => by simp at h, fun h3 => ?_⟩, ⟨fun _ => (b.1 h2.symm).symm, fun _ => rfl⟩, by simp⟩
        have := b.1 h2.symm; omega
      · rename_i h1 h2
        refine ⟨⟨fun h => by simp at h, fun h3 => ?_⟩, ⟨fun h => by simp at h, fun h3 => ?_⟩, by simp⟩
        · have : 2 ^ (ss m e).toNat < 2 * rr m e := by omega
          rw [a] at this; omega
        · have := b.2 h3.symm; omega
  have hw := Nat.two_pow_pos t
  have mono : ∀ {x y : Nat}, x ≤ y → mag x * 2 ^ t ≤ mag y * 2 ^ t := fun h => Nat.mul_le_mul_right _ (mag_mono h)
  have smono : ∀ {x y : Nat}, x < y → mag x * 2 ^ t < mag y * 2 ^ t := fun h => Nat.mul_lt_mul_of_pos_right (mag_lt h) hw
  have hr : r1 k m e = r0 m e ∨ r1 k m e = r0 m e + 1 := by unfold r1; split <;> simp
  have hr1 : r1 k m e = r0 m e + 1 ↔ rr m e ≠ 0 ∧ upk k m e = true := by unfold r1; split <;> simp_all
  rw [Nat.add_mul]
  rw [Nat.add_mul] at hh1
  rcases Nat.lt_trichotomy n (r0 m e + 1) with hn | hn | hn
  · have h1 := mono (show n ≤ r0 m e by omega)
    have h2 : n ≠ 0 → mag (n - 1) * 2 ^ t < mag n * 2 ^ t := fun h => smono (by omega)
    have h3 : n ≤ r1 k m e := by omega
    refine ⟨fun _ => ?_, fun _ => h3⟩
    split <;> omega
  · subst hn
    rw [show r0 m e + 1 - 1 = r0 m e by omega]
    have h4 : r0 m e + 1 ≤ r1 k m e ↔ rr m e ≠ 0 ∧ upk k m e = true := by rw [← hr1]; omega
    rw [h4]
    by_cases h0 : rr m e = 0
    · have h5 := f3.1 h0
      simp only [h0, ne_eq, not_true_eq_false, false_and, false_iff]
      split <;> omega
    · obtain ⟨c1, c2, c3⟩ := hh1 h0
      have h5 : ¬ (tt t m e = mag (r0 m e) * 2 ^ t) := fun h => h0 (f3.2 h)
      simp only [ne_eq, h0, not_false_eq_true, true_and]
      unfold upk
      split
      · simp; omega
      · simp; omega
      · simp only [Bool.or_eq_true, decide_eq_true_eq, Bool.and_eq_true]
        constructor
        · intro h; right
          rcases h with h | ⟨h, h'⟩
          · left; rcases c3 with c | c | c
            · omega
            · omega
            · have : ¬ hh m e = -1 := by omega
              have h7 : ¬ hh m e = 0 := by omega
              rw [c1] at this; rw [c2] at h7; omega
          · right; have := c2.1 h; omega
        · intro h
          rcases h with h | h | ⟨h, h'⟩
          · omega
          · left
            have : ¬ hh m e = -1 := by rw [c1]; omega
            have h7 : ¬ hh m e = 0 := by rw [c2]; omega
            omega
          · right; exact ⟨c2.2 h.symm, by omega⟩
      · simp only [decide_eq_true_eq]
        constructor
        · intro h; right
          have : ¬ hh m e = -1 := by omega
          rw [c1] at this; omega
        · intro h
          have : ¬ hh m e = -1 := by rw [c1]; omega
          omega
  · have h1 := mono (show r0 m e + 1 ≤ n - 1 by omega)
    have h2 := smono (show n - 1 < n by omega)
    have h3 : ¬ n ≤ r1 k m e := by omega
    refine ⟨fun h => absurd h h3, fun h => absurd h ?_⟩
    split <;> omega

theorem numk_iff {t m : Nat} {e : Int} (ht : 0 ≤ e + 1074 + t) (k n : Nat) : n ≤ numk k m e ↔ Pk k t (tt t m e) n := by
  by_cases hm : m = 0
  · subst hm
    have h0 : tt t 0 e = 0 := by unfold tt; simp
    have hw := Nat.two_pow_pos t
    unfold numk; rw [if_pos rfl, h0]
    have hpos : n ≠ 0 → 0 < mag n * 2 ^ t := fun h => Nat.mul_pos (by have := mag_lt (show 0 < n by omega); rw [mag_zero] at this; exact this) hw
    have hz : n = 0 → mag n * 2 ^ t = 0 := fun h => by subst h; rw [mag_zero]; simp
    unfold Pk
    rw [Nat.add_mul]
    split <;> (unfold MR) <;> omega
  · have h1 := r1_iff hm ht k n
    unfold numk; rw [if_neg hm]
    rcases k with _ | _ | _ | k <;> simp only [Pk, Nat.zero_add, Nat.reduceAdd] at * <;> rw [← h1] <;> split <;> simp <;> (try unfold MR at *) <;> omega


/-- an exact number with its sign, counted in 2^-(1074+t) -/
def sg (t : Nat) (neg : Bool) (m : Nat) (e : Int) : Int := if neg then -(tt t m e : Int) else tt t m e
/-- the rank of the rounded one -/
def rg (neg : Bool) (mode : Int) (m : Nat) (e : Int) : Int := if neg then -(numk (kd neg mode) m e : Int) else numk (kd neg mode) m e

theorem numk_mono {t m m' : Nat} {e e' : Int} (ht : 0 ≤ e + 1074 + t) (ht' : 0 ≤ e' + 1074 + t) (k : Nat) (h : tt t m e ≤ tt t m' e') : numk k m e ≤ numk k m' e' :=
  (numk_iff ht' k _).2 (Pk_mono h ((numk_iff ht k _).1 (Nat.le_refl _)))
theorem numk_eq {t m m' : Nat} {e e' : Int} (ht : 0 ≤ e + 1074 + t) (ht' : 0 ≤ e' + 1074 + t) (k : Nat) (h : tt t m e = tt t m' e') : numk k m e = numk k m' e' :=
  Nat.le_antisymm (numk_mono ht ht' k (by omega)) (numk_mono ht' ht k (by omega))

theorem numk_of_zero {t m : Nat} {e : Int} (k : Nat) (h : tt t m e = 0) : numk k m e = 0 := by
  have hm : m = 0 := by
    unfold tt at h; rcases Nat.mul_eq_zero.1 h with h | h
    · exact h
    · have := Nat.two_pow_pos (e + 1074 + t).toNat; omega
  unfold numk; rw [if_pos hm]

theorem rg_mono {t m m' : Nat} {neg neg' : Bool} {e e' : Int} (ht : 0 ≤ e + 1074 + t) (ht' : 0 ≤ e' + 1074 + t) (mode : Int)
    (h : sg t neg m e ≤ sg t neg' m' e') : rg neg mode m e ≤ rg neg' mode m' e' := by
  unfold sg at h; unfold rg
  cases neg <;> cases neg' <;> simp only [Bool.false_eq_true, if_false, if_true] at h ⊢
  · have := numk_mono (m := m) (m' := m') ht ht' (kd false mode) (by omega); omega
  · have h1 := numk_of_zero (m := m) (kd false mode) (by omega : tt t m e = 0)
    have h2 := numk_of_zero (m := m') (kd true mode) (by omega : tt t m' e' = 0)
    omega
  · omega
  · have := numk_mono (m := m') (m' := m) ht' ht (kd true mode) (by omega); omega

theorem numk_le_MR (k m : Nat) (e : Int) : numk k m e ≤ MR := by
  unfold numk; split
  · omega
  · split
    · split <;> omega
    · omega

theorem kd_not (neg : Bool) (mode : Int) : kd (!neg) (if mode = 1 then 2 else if mode = 2 then 1 else mode) = kd neg mode := by
  unfold kd
  by_cases h1 : mode = 1
  · subst h1; cases neg <;> simp
  · by_cases h2 : mode = 2
    · subst h2; cases neg <;> simp
    · simp [h1, h2]

/-- what is a number is itself -/
theorem numk_exact {t m : Nat} {e : Int} (ht : 0 ≤ e + 1074 + t) (k r : Nat) (hr : r < MR) (h : tt t m e = mag r * 2 ^ t) : numk k m e = r := by
  have hw := Nat.two_pow_pos t
  have smono : ∀ {x y : Nat}, x < y → mag x * 2 ^ t < mag y * 2 ^ t := fun h => Nat.mul_lt_mul_of_pos_right (mag_lt h) hw
  have h1 : r ≤ numk k m e := by
    rw [numk_iff ht, h]
    have := fun h : r ≠ 0 => smono (show r - 1 < r by omega)
    rcases k with _ | _ | _ | k <;> simp only [Pk, Nat.add_mul] <;> omega
  have h2 : ¬ r + 1 ≤ numk k m e := by
    rw [numk_iff ht, h]
    have := smono (show r < r + 1 by omega)
    rcases k with _ | _ | _ | k <;> simp only [Pk, Nat.add_mul, Nat.add_sub_cancel] <;> omega
  omega

theorem chg_iff {t m : Nat} {e : Int} (ht : 0 ≤ e + 1074 + t) : chg m e = false ↔ ∃ r, r < MR ∧ tt t m e = mag r * 2 ^ t := by
  have hw := Nat.two_pow_pos t
  by_cases hm : m = 0
  · subst hm
    have h0 : tt t 0 e = 0 := by unfold tt; simp
    rw [h0]
    constructor
    · intro _; exact ⟨0, by decide, by rw [mag_zero]; simp⟩
    · intro _; simp [chg]
  · have f1 := floor_le hm ht
    have f2 := lt_succ hm ht
    have f3 := rr_zero hm ht
    unfold chg
    simp only [ne_eq, hm, not_false_eq_true, decide_true, Bool.true_and, Bool.or_eq_false_iff, decide_eq_false_iff_not, Decidable.not_not, Nat.not_le]
    constructor
    · rintro ⟨a, b⟩; exact ⟨_, b, f3.1 a⟩
    · rintro ⟨r, h1, h2⟩
      rw [h2] at f1 f2
      have g1 := mag_le_iff.1 (Nat.le_of_mul_le_mul_right f1 hw)
      have g2 := mag_lt_iff.1 (Nat.lt_of_mul_lt_mul_right f2)
      have : r = r0 m e := by omega
      subst this
      exact ⟨f3.2 h2, h1⟩
theorem chg_exact {t m : Nat} {e : Int} (ht : 0 ≤ e + 1074 + t) (k : Nat) (h : chg m e = false) : numk k m e < MR ∧ tt t m e = mag (numk k m e) * 2 ^ t := by
  obtain ⟨r, h1, h2⟩ := (chg_iff ht).1 h
  rw [numk_exact ht k r h1 h2]; exact ⟨h1, h2⟩

/-- something is lost: away from 0 it is the next one of that towards it; each one is one of both -/
theorem numk_sides {m : Nat} {e : Int} (k : Nat) : (chg m e = true → numk 1 m e = numk 0 m e + 1) ∧ (numk k m e = numk 0 m e ∨ numk k m e = numk 1 m e) := by
  unfold chg numk
  by_cases hm : m = 0
  · simp [hm]
  · simp only [ne_eq, hm, not_false_eq_true, decide_true, Bool.true_and, Bool.or_eq_true, decide_eq_true_eq, if_false]
    have h0 : r1 0 m e = r0 m e := by unfold r1 upk; simp
    have h1 : r1 1 m e = if rr m e ≠ 0 then r0 m e + 1 else r0 m e := by unfold r1 upk; simp
    have hk : r1 k m e = r0 m e ∨ (r1 k m e = r0 m e + 1 ∧ rr m e ≠ 0) := by unfold r1; split <;> simp_all
    have hk0 : k = 0 → r1 k m e = r0 m e := fun h => by subst h; exact h0
    rw [h0, h1]
    simp only [Nat.one_ne_zero, if_false, if_true]
    have hMR : MR = 9218868437227405312 := rfl
    constructor
    · intro h; split <;> split <;> (try split) <;> omega
    · split <;> split <;> (try split) <;> (try split) <;> (try split) <;> omega


/-- how often two goes into it (fuel) -/
def tz : Nat → Nat → Nat
  | 0, _ => 0
  | f + 1, m => if m % 2 = 0 then tz f (m / 2) + 1 else 0
def ctz (m : Nat) : Nat := tz (bl m) m

theorem bl_half {m : Nat} (h : m ≠ 0) (h2 : m % 2 = 0) : bl (m / 2) + 1 = bl m := by
  have a := bl_le h; have b := bl_lt m; have c := bl_pos h
  have h1 : bl m ≠ 1 := by intro h1; rw [h1] at b; omega
  obtain ⟨k, hk⟩ : ∃ k, bl m = k + 2 := ⟨bl m - 2, by omega⟩
  rw [hk] at a b
  rw [show k + 2 - 1 = k + 1 by omega, Nat.pow_succ] at a
  rw [show k + 2 = (k + 1) + 1 by omega, Nat.pow_succ] at b
  rw [hk, bl_uniq (show 2 ^ k ≤ m / 2 by omega) (by omega)]

theorem tz_spec : ∀ (f m : Nat), m ≠ 0 → bl m ≤ f → ∃ q, m = q * 2 ^ tz f m ∧ q % 2 = 1
  | 0, m, h, hf => by have := bl_pos h; omega
  | f + 1, m, h, hf => by
    unfold tz
    split
    · rename_i h2
      have hb := bl_half h h2
      obtain ⟨q, h3, h4⟩ := tz_spec f (m / 2) (by omega) (by omega)
      refine ⟨q, ?_, h4⟩
      rw [Nat.pow_succ, ← Nat.mul_assoc, ← h3]; omega
    · exact ⟨m, by simp, by omega⟩
theorem ctz_spec {m : Nat} (h : m ≠ 0) : ∃ q, m = q * 2 ^ ctz m ∧ q % 2 = 1 := tz_spec _ m h (Nat.le_refl _)

structure D where
  neg : Bool
  m : Nat
  e : Int

def nz : D := ⟨false, 0, 0⟩
def norm (neg : Bool) (m : Nat) (e : Int) : D := if m = 0 then nz else ⟨neg, m / 2 ^ ctz m, e + ctz m⟩
/-- is it in its form? -/
def D.Nf (d : D) : Prop := d = nz ∨ d.m % 2 = 1
def D.sm (d : D) : Int := if d.neg then -(d.m : Int) else d.m
/-- the value, counted in 2^-T -/
def D.vl (T : Nat) (d : D) : Int := d.sm * 2 ^ (d.e + T).toNat

theorem norm_nf (neg : Bool) (m : Nat) (e : Int) : (norm neg m e).Nf := by
  unfold norm; split
  · exact Or.inl rfl
  · rename_i h
    obtain ⟨q, h1, h2⟩ := ctz_spec h
    right
    have : m / 2 ^ ctz m = q := by
      conv => lhs; lhs; rw [h1]
      exact Nat.mul_div_cancel _ (Nat.two_pow_pos _)
    simp only [this, h2]

theorem norm_vl (neg : Bool) (m : Nat) (e : Int) (T : Nat) (hT : 0 ≤ e + T) : (norm neg m e).vl T = (⟨neg, m, e⟩ : D).vl T := by
  unfold norm; split
  · rename_i h; subst h; unfold D.vl D.sm nz; simp
  · rename_i h
    obtain ⟨q, h1, h2⟩ := ctz_spec h
    have h3 : m / 2 ^ ctz m = q := by
      conv => lhs; lhs; rw [h1]
      exact Nat.mul_div_cancel _ (Nat.two_pow_pos _)
    unfold D.vl D.sm
    simp only [h3]
    have h4 : (e + ctz m + T).toNat = ctz m + (e + T).toNat := by omega
    rw [h4, Int.pow_add, ← Int.mul_assoc]
    congr 1
    have h5 : (m : Int) = q * 2 ^ ctz m := by
      conv => lhs; rw [h1]
      simp
    rw [h5]; cases neg <;> simp [Int.neg_mul]

theorem odd_pow_inj {p q i j : Nat} (hp : p % 2 = 1) (hq : q % 2 = 1) (h : p * 2 ^ i = q * 2 ^ j) : p = q ∧ i = j := by
  rcases Nat.lt_trichotomy i j with h1 | h1 | h1
  · obtain ⟨k, rfl⟩ : ∃ k, j = i + (k + 1) := ⟨j - i - 1, by omega⟩
    rw [Nat.pow_add, Nat.mul_left_comm, Nat.mul_comm p] at h
    have := Nat.eq_of_mul_eq_mul_left (Nat.two_pow_pos i) h
    rw [Nat.pow_succ] at this
    exfalso
    rw [← Nat.mul_assoc] at this; omega
  · subst h1; exact ⟨Nat.eq_of_mul_eq_mul_right (Nat.two_pow_pos i) h, rfl⟩
  · obtain ⟨k, rfl⟩ : ∃ k, i = j + (k + 1) := ⟨i - j - 1, by omega⟩
    rw [Nat.pow_add, Nat.mul_left_comm, Nat.mul_comm q] at h
    have := Nat.eq_of_mul_eq_mul_left (Nat.two_pow_pos j) h
    rw [Nat.pow_succ] at this
    exfalso
    rw [← Nat.mul_assoc] at this; omega

theorem sm_natAbs (d : D) : d.sm.natAbs = d.m := by unfold D.sm; split <;> simp

theorem vl_natAbs (d : D) (T : Nat) : (d.vl T).natAbs = d.m * 2 ^ (d.e + T).toNat := by
  unfold D.vl; rw [Int.natAbs_mul, sm_natAbs, Int.natAbs_pow]; rfl

theorem nf_inj {c d : D} (hc : c.Nf) (hd : d.Nf) {T : Nat} (h1 : 0 ≤ c.e + T) (h2 : 0 ≤ d.e + T) (h : c.vl T = d.vl T) : c = d := by
  have ha := congrArg Int.natAbs h
  rw [vl_natAbs, vl_natAbs] at ha
  rcases hc with rfl | hc
  · rcases hd with rfl | hd
    · rfl
    · exfalso
      have : d.m * 2 ^ (d.e + T).toNat = 0 := by rw [← ha]; simp [nz]
      rcases Nat.mul_eq_zero.1 this with h | h
      · omega
      · have := Nat.two_pow_pos (d.e + T).toNat; omega
  · rcases hd with rfl | hd
    · exfalso
      have : c.m * 2 ^ (c.e + T).toNat = 0 := by rw [ha]; simp [nz]
      rcases Nat.mul_eq_zero.1 this with h | h
      · omega
      · have := Nat.two_pow_pos (c.e + T).toNat; omega
    · obtain ⟨e1, e2⟩ := odd_pow_inj hc hd ha
      have e3 : c.e = d.e := by omega
      have hp : (0 : Int) < 2 ^ (c.e + T).toNat := Int.pow_pos (by decide)
      have e4 : c.sm = d.sm := by
        unfold D.vl at h; rw [← e3] at h
        exact Int.eq_of_mul_eq_mul_right (by omega) h
      have e5 : c.neg = d.neg := by
        unfold D.sm at e4; rw [e1] at e4
        cases hcn : c.neg <;> cases hdn : d.neg <;> rw [hcn, hdn] at e4 <;> simp at e4 ⊢ <;> omega
      cases c; cases d; simp only at e1 e3 e5; subst e1 e3 e5; rfl

/-- of an integer times a power of two -/
def ofInt (s : Int) (e : Int) : D := norm (decide (s < 0)) s.natAbs e
theorem ofInt_nf (s e : Int) : (ofInt s e).Nf := norm_nf _ _ _
theorem ofInt_vl (s e : Int) (T : Nat) (hT : 0 ≤ e + T) : (ofInt s e).vl T = s * 2 ^ (e + T).toNat := by
  unfold ofInt; rw [norm_vl _ _ _ _ hT]; unfold D.vl D.sm
  congr 1
  simp only [decide_eq_true_eq]; split <;> omega
theorem norm_e {neg : Bool} {m : Nat} {e : Int} : (norm neg m e = nz) ∨ e ≤ (norm neg m e).e := by
  unfold norm; split
  · exact Or.inl rfl
  · right; simp only; omega
theorem norm_eT {neg : Bool} {m : Nat} {e : Int} {T : Nat} (hT : 0 ≤ e + T) : 0 ≤ (norm neg m e).e + T := by
  rcases @norm_e neg m e with h | h
  · rw [h]; unfold nz; simp only; omega
  · omega
theorem ofInt_eT {s e : Int} {T : Nat} (hT : 0 ≤ e + T) : 0 ≤ (ofInt s e).e + T := norm_eT hT

def plus (c d : D) : D := ofInt (c.sm * 2 ^ (c.e - min c.e d.e).toNat + d.sm * 2 ^ (d.e - min c.e d.e).toNat) (min c.e d.e)
def times (c d : D) : D := ofInt (c.sm * d.sm) (c.e + d.e)
def opp (d : D) : D := ⟨!d.neg && decide (d.m ≠ 0), d.m, d.e⟩
def sign (d : D) : Int := if d.m = 0 then 0 else if d.neg then -1 else 1
def cmp (c d : D) : Int := sign (plus c (opp d))

theorem plus_vl (c d : D) (T : Nat) (h1 : 0 ≤ c.e + T) (h2 : 0 ≤ d.e + T) : (plus c d).vl T = c.vl T + d.vl T := by
  unfold plus
  rw [ofInt_vl _ _ _ (by omega), Int.add_mul, Int.mul_assoc, Int.mul_assoc, ← Int.pow_add, ← Int.pow_add]
  unfold D.vl
  congr 3 <;> congr 1 <;> omega
theorem plus_eT {c d : D} {T : Nat} (h1 : 0 ≤ c.e + T) (h2 : 0 ≤ d.e + T) : 0 ≤ (plus c d).e + T := ofInt_eT (by omega)
theorem times_vl (c d : D) (T U : Nat) (h1 : 0 ≤ c.e + T) (h2 : 0 ≤ d.e + U) : (times c d).vl (T + U) = c.vl T * d.vl U := by
  unfold times
  rw [ofInt_vl _ _ _ (by omega)]
  unfold D.vl
  rw [show (c.e + d.e + ((T + U : Nat) : Int)).toNat = (c.e + T).toNat + (d.e + U).toNat by omega, Int.pow_add]
  rw [Int.mul_assoc, Int.mul_assoc, Int.mul_left_comm d.sm]
theorem opp_sm (d : D) : (opp d).sm = -d.sm := by
  unfold opp D.sm
  by_cases h : d.m = 0
  · simp [h]
  · cases d.neg <;> simp [h]
theorem opp_vl (d : D) (T : Nat) : (opp d).vl T = -d.vl T := by
  unfold D.vl; rw [opp_sm]; unfold opp; simp [Int.neg_mul]
theorem sign_vl (d : D) (T : Nat) : sign d = (d.vl T).sign := by
  unfold sign D.vl D.sm
  have hp : (0 : Int) < 2 ^ (d.e + T).toNat := Int.pow_pos (by decide)
  by_cases h : d.m = 0
  · simp [h]
  · rw [if_neg h, Int.sign_mul, Int.sign_eq_one_of_pos hp, Int.mul_one]
    cases d.neg <;> simp only [if_true, Bool.false_eq_true, if_false]
    · rw [Int.sign_eq_one_of_pos (by omega)]
    · rw [Int.sign_eq_neg_one_of_neg (by omega)]
theorem cmp_vl (c d : D) (T : Nat) (h1 : 0 ≤ c.e + T) (h2 : 0 ≤ d.e + T) : cmp c d = (c.vl T - d.vl T).sign := by
  unfold cmp
  rw [sign_vl _ T, plus_vl _ _ _ h1 (by unfold opp; exact h2), opp_vl, Int.sub_eq_add_neg]
end Go.Proofs.YtofdjfdnckmmmaaGreatDoor.Fm

/-
  PLAIN: sums and products of exact numbers, as the code makes them. No Go function here.
-/
namespace Go.Proofs.YtofdjfdnckmmmaaGreatDoor.Fm

theorem plus_of {x c d : D} {T : Nat} (hx : x.Nf) (h1 : 0 ≤ c.e + T) (h2 : 0 ≤ d.e + T) (h3 : 0 ≤ x.e + T) (hv : x.vl T = c.vl T + d.vl T) : x = plus c d :=
  nf_inj hx (ofInt_nf _ _) h3 (plus_eT h1 h2) (by rw [hv, plus_vl _ _ _ h1 h2])
theorem times_of {x c d : D} {T U : Nat} (hx : x.Nf) (h1 : 0 ≤ c.e + T) (h2 : 0 ≤ d.e + U) (h3 : 0 ≤ x.e + ((T + U : Nat) : Int)) (hv : x.vl (T + U) = c.vl T * d.vl U) : x = times c d :=
  nf_inj hx (ofInt_nf _ _) h3 (ofInt_eT (by omega)) (by rw [hv, times_vl _ _ _ _ h1 h2])
theorem vl_zero {d : D} (h : d.m = 0) (T : Nat) : d.vl T = 0 := by unfold D.vl D.sm; rw [h]; simp
theorem exT (x y : Int) : ∃ T : Nat, 0 ≤ x + T ∧ 0 ≤ y + T := ⟨((-x).toNat + (-y).toNat), by omega, by omega⟩
theorem plus_zero_left {c d : D} (hc : c.m = 0) : norm d.neg d.m d.e = plus c d := by
  obtain ⟨T, h1, h2⟩ := exT c.e d.e
  exact plus_of (norm_nf _ _ _) h1 h2 (norm_eT h2) (by rw [norm_vl _ _ _ _ h2, vl_zero hc, Int.zero_add])
theorem plus_zero_right {c d : D} (hd : d.m = 0) : norm c.neg c.m c.e = plus c d := by
  obtain ⟨T, h1, h2⟩ := exT c.e d.e
  exact plus_of (norm_nf _ _ _) h1 h2 (norm_eT h1) (by rw [norm_vl _ _ _ _ h1, vl_zero hd, Int.add_zero])
/-- counted in a smaller power -/
theorem vl_down {d : D} {x : Int} {T : Nat} (hx : x ≤ d.e) (hT : 0 ≤ x + T) : d.vl T = (if d.neg then -((d.m * 2 ^ (d.e - x).toNat : Nat) : Int) else ((d.m * 2 ^ (d.e - x).toNat : Nat) : Int)) * 2 ^ (x + T).toNat := by
  unfold D.vl D.sm
  rw [show (d.e + (T : Int)).toNat = (d.e - x).toNat + (x + T).toNat by omega, Int.pow_add, ← Int.mul_assoc]
  congr 1
  cases d.neg <;> simp [Int.neg_mul]
theorem plus_same {c d : D} {a b : Nat} {x : Int} (hx : x = min c.e d.e) (ha : a = c.m * 2 ^ (c.e - x).toNat) (hb : b = d.m * 2 ^ (d.e - x).toNat) (h : c.neg = d.neg) : norm c.neg (a + b) x = plus c d := by
  obtain ⟨T, h1, h2⟩ := exT c.e d.e
  have h3 : 0 ≤ x + T := by omega
  refine plus_of (norm_nf _ _ _) h1 h2 (norm_eT h3) ?_
  rw [norm_vl _ _ _ _ h3, vl_down (d := c) (x := x) (by omega) h3, vl_down (d := d) (x := x) (by omega) h3, ← ha, ← hb, ← Int.add_mul, ← h]
  unfold D.vl D.sm
  congr 1
  cases c.neg <;> simp <;> omega
theorem plus_more {c d : D} {a b : Nat} {x : Int} (hx : x = min c.e d.e) (ha : a = c.m * 2 ^ (c.e - x).toNat) (hb : b = d.m * 2 ^ (d.e - x).toNat) (h : c.neg ≠ d.neg) (hle : b ≤ a) : norm c.neg (a - b) x = plus c d := by
  obtain ⟨T, h1, h2⟩ := exT c.e d.e
  have h3 : 0 ≤ x + T := by omega
  refine plus_of (norm_nf _ _ _) h1 h2 (norm_eT h3) ?_
  rw [norm_vl _ _ _ _ h3, vl_down (d := c) (x := x) (by omega) h3, vl_down (d := d) (x := x) (by omega) h3, ← ha, ← hb, ← Int.add_mul]
  unfold D.vl D.sm
  congr 1
  cases hc : c.neg <;> cases hd : d.neg <;> simp [hc, hd] at h ⊢ <;> omega
theorem plus_less {c d : D} {a b : Nat} {x : Int} (hx : x = min c.e d.e) (ha : a = c.m * 2 ^ (c.e - x).toNat) (hb : b = d.m * 2 ^ (d.e - x).toNat) (h : c.neg ≠ d.neg) (hle : a ≤ b) : norm d.neg (b - a) x = plus c d := by
  obtain ⟨T, h1, h2⟩ := exT c.e d.e
  have h3 : 0 ≤ x + T := by omega
  refine plus_of (norm_nf _ _ _) h1 h2 (norm_eT h3) ?_
  rw [norm_vl _ _ _ _ h3, vl_down (d := c) (x := x) (by omega) h3, vl_down (d := d) (x := x) (by omega) h3, ← ha, ← hb, ← Int.add_mul]
  unfold D.vl D.sm
  congr 1
  cases hc : c.neg <;> cases hd : d.neg <;> simp [hc, hd] at h ⊢ <;> omega
theorem times_norm (c d : D) : norm (c.neg != d.neg) (c.m * d.m) (c.e + d.e) = times c d := by
  have h1 : 0 ≤ c.e + (((-c.e).toNat : Nat) : Int) := by omega
  have h2 : 0 ≤ d.e + (((-d.e).toNat : Nat) : Int) := by omega
  generalize (-c.e).toNat = T at *
  generalize (-d.e).toNat = U at *
  refine times_of (norm_nf _ _ _) h1 h2 (norm_eT (by omega)) ?_
  rw [norm_vl _ _ _ _ (by omega)]
  unfold D.vl D.sm
  simp only
  rw [show (c.e + d.e + ((T + U : Nat) : Int)).toNat = (c.e + T).toNat + (d.e + U).toNat by omega, Int.pow_add]
  cases c.neg <;> cases d.neg <;> simp [Int.neg_mul, Int.mul_neg, Int.mul_assoc, Int.mul_left_comm]
/-- how long a sum, or a product, can be -/
theorem norm_m_le (neg : Bool) (m : Nat) (e : Int) : (norm neg m e).m ≤ m := by
  unfold norm; split
  · exact Nat.zero_le _
  · exact Nat.div_le_self _ _
theorem ctz_le {m k : Nat} (h : m ≠ 0) (hk : m < 2 ^ k) : ctz m < k := by
  obtain ⟨q, h1, h2⟩ := ctz_spec h
  have h3 : 2 ^ ctz m ≤ m := by
    have : 1 * 2 ^ ctz m ≤ q * 2 ^ ctz m := Nat.mul_le_mul_right _ (by omega)
    omega
  exact (Nat.pow_lt_pow_iff_right (by decide : 1 < 2)).1 (Nat.lt_of_le_of_lt h3 hk)
theorem norm_e_bd (neg : Bool) {m k : Nat} {e : Int} (h : m < 2 ^ k) : (norm neg m e = nz) ∨ (e ≤ (norm neg m e).e ∧ (norm neg m e).e ≤ e + k) := by
  unfold norm; split
  · exact Or.inl rfl
  · rename_i h0
    have := ctz_le h0 h
    right; simp only; omega
end Go.Proofs.YtofdjfdnckmmmaaGreatDoor.Fm

/-
  PLAIN: sums, products and the order of exact numbers. No Go function here.
-/
namespace Go.Proofs.YtofdjfdnckmmmaaGreatDoor.Fm

theorem plus_Nf (c d : D) : (plus c d).Nf := ofInt_nf _ _
theorem times_Nf (c d : D) : (times c d).Nf := ofInt_nf _ _
theorem plus_comm (a b : D) : plus a b = plus b a := by
  obtain ⟨T, h1, h2⟩ := exT a.e b.e
  exact (plus_of (plus_Nf _ _) h1 h2 (plus_eT h2 h1) (by rw [plus_vl _ _ _ h2 h1, Int.add_comm])).symm
theorem times_eT {c d : D} {T U : Nat} (h1 : 0 ≤ c.e + T) (h2 : 0 ≤ d.e + U) : 0 ≤ (times c d).e + ((T + U : Nat) : Int) := ofInt_eT (by omega)
theorem times_comm (a b : D) : times a b = times b a := by
  obtain ⟨T, h1, h2⟩ := exT a.e b.e
  exact (times_of (times_Nf _ _) h1 h2 (times_eT h2 h1) (by rw [times_vl _ _ _ _ h2 h1, Int.mul_comm])).symm
theorem exT3 (x y z : Int) : ∃ T : Nat, 0 ≤ x + T ∧ 0 ≤ y + T ∧ 0 ≤ z + T := ⟨((-x).toNat + (-y).toNat + (-z).toNat), by omega, by omega, by omega⟩
theorem plus_assoc (a b c : D) : plus (plus a b) c = plus a (plus b c) := by
  obtain ⟨T, h1, h2, h3⟩ := exT3 a.e b.e c.e
  have k1 := plus_eT h1 h2
  have k2 := plus_eT h2 h3
  exact plus_of (plus_Nf _ _) h1 k2 (plus_eT k1 h3) (by rw [plus_vl _ _ _ k1 h3, plus_vl _ _ _ h1 h2, plus_vl _ _ _ h2 h3, Int.add_assoc])
theorem times_plus (a b c : D) : times a (plus b c) = plus (times a b) (times a c) := by
  obtain ⟨T, h1, h2, h3⟩ := exT3 a.e b.e c.e
  have k2 := plus_eT h2 h3
  have k3 := times_eT h1 h2
  have k4 := times_eT h1 h3
  exact plus_of (times_Nf _ _) k3 k4 (times_eT h1 k2) (by rw [times_vl _ _ _ _ h1 k2, plus_vl _ _ _ h2 h3, times_vl _ _ _ _ h1 h2, times_vl _ _ _ _ h1 h3, Int.mul_add])
theorem times_assoc (a b c : D) : times (times a b) c = times a (times b c) := by
  obtain ⟨T, h1, h2, h3⟩ := exT3 a.e b.e c.e
  have k1 := times_eT h1 h2
  have k2 := times_eT h2 h3
  have k3 := times_eT k1 h3
  refine times_of (T := T) (U := T + T) (times_Nf _ _) h1 k2 (by rw [← Nat.add_assoc]; exact k3) ?_
  rw [← Nat.add_assoc, times_vl _ _ _ _ k1 h3, times_vl _ _ _ _ h1 h2, times_vl _ _ _ _ h2 h3, Int.mul_assoc]
theorem plus_opp_cancel (a b : D) (ha : a.Nf) : plus (plus a b) (opp b) = a := by
  obtain ⟨T, h1, h2⟩ := exT a.e b.e
  have k1 := plus_eT h1 h2
  have h3 : 0 ≤ (opp b).e + T := h2
  exact (plus_of ha k1 h3 h1 (by rw [plus_vl _ _ _ h1 h2, opp_vl]; omega)).symm
theorem plus_opp_self (a : D) : plus a (opp a) = nz := by
  have h1 : 0 ≤ a.e + (((-a.e).toNat : Nat) : Int) := by omega
  generalize (-a.e).toNat = T at *
  have h3 : 0 ≤ (opp a).e + T := h1
  exact (plus_of (x := nz) (Or.inl rfl) h1 h3 (by unfold nz; simp only; omega) (by rw [vl_zero (d := nz) rfl, opp_vl]; omega)).symm
/-- the order -/
theorem cmp_neg (a b : D) : cmp a b = -cmp b a := by
  obtain ⟨T, h1, h2⟩ := exT a.e b.e
  rw [cmp_vl _ _ T h1 h2, cmp_vl _ _ T h2 h1, ← Int.sign_neg]; congr 1; omega
theorem cmp_zero {a b : D} (ha : a.Nf) (hb : b.Nf) : cmp a b = 0 ↔ a = b := by
  obtain ⟨T, h1, h2⟩ := exT a.e b.e
  rw [cmp_vl _ _ T h1 h2, Int.sign_eq_zero_iff_zero]
  constructor
  · intro h; exact nf_inj ha hb h1 h2 (by omega)
  · intro h; rw [h]; omega
theorem cmp_le {a b : D} {T : Nat} (h1 : 0 ≤ a.e + T) (h2 : 0 ≤ b.e + T) : cmp a b ≤ 0 ↔ a.vl T ≤ b.vl T := by
  rw [cmp_vl _ _ T h1 h2]
  constructor
  · intro h
    have : ¬ 0 < a.vl T - b.vl T := fun h3 => by rw [Int.sign_eq_one_of_pos h3] at h; omega
    omega
  · intro h
    rcases Int.lt_or_le (a.vl T - b.vl T) 0 with h3 | h3
    · rw [Int.sign_eq_neg_one_of_neg h3]; omega
    · have : a.vl T - b.vl T = 0 := by omega
      rw [this]; simp
theorem cmp_trans {a b c : D} (h1 : cmp a b ≤ 0) (h2 : cmp b c ≤ 0) : cmp a c ≤ 0 := by
  obtain ⟨T, k1, k2, k3⟩ := exT3 a.e b.e c.e
  rw [cmp_le (T := T) k1 k2] at h1
  rw [cmp_le (T := T) k2 k3] at h2
  rw [cmp_le (T := T) k1 k3]; omega
theorem cmp_plus (a b c : D) : cmp (plus a c) (plus b c) = cmp a b := by
  obtain ⟨T, k1, k2, k3⟩ := exT3 a.e b.e c.e
  rw [cmp_vl _ _ T (plus_eT k1 k3) (plus_eT k2 k3), cmp_vl _ _ T k1 k2, plus_vl _ _ _ k1 k3, plus_vl _ _ _ k2 k3]
  congr 1; omega
theorem cmp_bd (a b : D) : -1 ≤ cmp a b ∧ cmp a b ≤ 1 := by unfold cmp sign; split <;> (try split) <;> omega
theorem norm_self {d : D} (h : d.Nf) : norm d.neg d.m d.e = d := by
  have h1 : 0 ≤ d.e + (((-d.e).toNat : Nat) : Int) := by omega
  exact nf_inj (norm_nf _ _ _) h (norm_eT h1) h1 (norm_vl _ _ _ _ h1)
theorem norm_shift {d : D} (n : Int) (h : d.Nf) : norm (norm d.neg d.m (d.e + n)).neg (norm d.neg d.m (d.e + n)).m ((norm d.neg d.m (d.e + n)).e + -n) = d := by
  rcases h with h | h
  · rw [h]; unfold norm nz; simp
  · have hz : d.m ≠ 0 := by omega
    have hc : ctz d.m = 0 := by
      obtain ⟨q, h1, h2⟩ := ctz_spec hz
      rcases Nat.eq_zero_or_pos (ctz d.m) with h3 | h3
      · exact h3
      · obtain ⟨k, hk⟩ : ∃ k, ctz d.m = k + 1 := ⟨ctz d.m - 1, by omega⟩
        rw [hk, Nat.pow_succ, ← Nat.mul_assoc] at h1; omega
    have e1 : ∀ x, norm d.neg d.m x = ⟨d.neg, d.m, x⟩ := fun x => by unfold norm; rw [if_neg hz, hc]; simp
    rw [e1]; simp only; rw [e1]
    cases d; simp only [D.mk.injEq, true_and]; omega
end Go.Proofs.YtofdjfdnckmmmaaGreatDoor.Fm

/-
  PLAIN: the comparisons of package order as functions on integers.
-/
namespace Go.Proofs.YtofdjfdnckmmmaaGreatDoor.Fl

def sgnc (a b : Int) : Int := if a < b then -1 else if b < a then 1 else 0
def okey (x : Int) : Int := if 9223372036854775808 ≤ x then 18446744073709551615 - x else x + 9223372036854775808
def otot (x y : Int) : Int := sgnc (okey x) (okey y)
def ois (x y : Int) : Bool := frerr x == 0 && frerr y == 0
def ocmp (x y : Int) : Int := if ois x y then sgnc (frank x) (frank y) else 0
def onan (x y : Int) : Bool := fcls x == 5 || fcls y == 5
def oleast (x y s : Int) : Int := if onan x y then 9221120237041090560 else if otot x y * s ≤ 0 then x else y
theorem sgnc_bd (a b : Int) : -1 ≤ sgnc a b ∧ sgnc a b ≤ 1 := by unfold sgnc; omega
theorem okey_bd {x : Int} (h0 : 0 ≤ x) (h1 : x ≤ 18446744073709551615) : 0 ≤ okey x ∧ okey x ≤ 18446744073709551615 := by unfold okey; omega
theorem oleast_bd {x y s : Int} (h0 : 0 ≤ x) (h1 : x ≤ 18446744073709551615) (y0 : 0 ≤ y) (y1 : y ≤ 18446744073709551615) : 0 ≤ oleast x y s ∧ oleast x y s ≤ 18446744073709551615 := by
  unfold oleast; omega
theorem okey_inj {x y : Int} (h0 : 0 ≤ x) (h1 : x ≤ 18446744073709551615) (y0 : 0 ≤ y) (y1 : y ≤ 18446744073709551615) (h : okey x = okey y) : x = y := by
  unfold okey at h; omega
end Go.Proofs.YtofdjfdnckmmmaaGreatDoor.Fl
