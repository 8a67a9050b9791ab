/-
  PLAIN: numbers by their limbs; and what it says that a slice in memory reads as a number. No Go function here.
-/
import Derived.WalkKit
import Derived.Lib.Hide
import Derived.Deep.Draws
set_option linter.unusedVariables false
set_option linter.unusedSimpArgs false
namespace Go.Proofs.YtdknfdncgmeimaaDoor.Nt
def val : List Nat → Nat
  | [] => 0
  | d :: l => d + 4294967296 * val l

def Lims (l : List Nat) : Prop := ∀ d ∈ l, d < 4294967296
def Nrm (l : List Nat) : Prop := Lims l ∧ l.getLast? ≠ some 0

theorem p32 : (4294967296 : Nat) = 2 ^ 32 := by decide

theorem pow32_succ (n : Nat) : 2 ^ (32 * (n + 1)) = 4294967296 * 2 ^ (32 * n) := by
  rw [p32, ← Nat.pow_add]; congr 1; omega

theorem val_append (l m : List Nat) : val (l ++ m) = val l + 2 ^ (32 * l.length) * val m := by
  induction l with
  | nil => simp [val]
  | cons d l ih =>
    simp only [List.cons_append, val, ih, List.length_cons]
    rw [pow32_succ, Nat.mul_add, Nat.mul_assoc]
    omega

theorem Lims.nil : Lims [] := fun _ h => by cases h
theorem Lims.cons {d : Nat} {l : List Nat} (hd : d < 4294967296) (h : Lims l) : Lims (d :: l) := by
  intro x hx; cases hx with
  | head => exact hd
  | tail _ hx => exact h x hx
theorem Lims.head {d : Nat} {l : List Nat} (h : Lims (d :: l)) : d < 4294967296 := h d (by simp)
theorem Lims.tail {d : Nat} {l : List Nat} (h : Lims (d :: l)) : Lims l := fun x hx => h x (by simp [hx])
theorem Lims.append {l m : List Nat} (h : Lims l) (k : Lims m) : Lims (l ++ m) := by
  intro x hx; rcases List.mem_append.1 hx with hx | hx
  · exact h x hx
  · exact k x hx
theorem Lims.snoc {l : List Nat} {d : Nat} (h : Lims l) (hd : d < 4294967296) : Lims (l ++ [d]) := h.append (Lims.cons hd Lims.nil)
theorem Lims.take {l : List Nat} (h : Lims l) (k : Nat) : Lims (l.take k) := fun x hx => h x (List.mem_of_mem_take hx)
theorem Lims.drop {l : List Nat} (h : Lims l) (k : Nat) : Lims (l.drop k) := fun x hx => h x (List.mem_of_mem_drop hx)
theorem Lims.get {l : List Nat} (h : Lims l) (i : Nat) (hi : i < l.length) : l[i] < 4294967296 := h _ (List.getElem_mem hi)
theorem Lims.getD {l : List Nat} (h : Lims l) (i : Nat) : l[i]?.getD 0 < 4294967296 := by
  by_cases hi : i < l.length
  · simp [hi]; exact h.get i hi
  · simp [List.getElem?_eq_none (Nat.le_of_not_lt hi)]

theorem val_lt {l : List Nat} (h : Lims l) : val l < 2 ^ (32 * l.length) := by
  induction l with
  | nil => simp [val]
  | cons d l ih =>
    have := ih h.tail; have hd := h.head
    simp only [val, List.length_cons, pow32_succ]
    omega

theorem val_snoc (l : List Nat) (d : Nat) : val (l ++ [d]) = val l + 2 ^ (32 * l.length) * d := by
  rw [val_append]; simp [val]

theorem val_take_succ (l : List Nat) (k : Nat) (h : k < l.length) : val (l.take (k + 1)) = val (l.take k) + 2 ^ (32 * k) * l[k] := by
  rw [List.take_succ_eq_append_getElem h, val_snoc, List.length_take, Nat.min_eq_left (Nat.le_of_lt h)]

theorem val_take_drop (l : List Nat) (k : Nat) (h : k ≤ l.length) : val l = val (l.take k) + 2 ^ (32 * k) * val (l.drop k) := by
  have h2 := val_append (l.take k) (l.drop k)
  rw [List.take_append_drop, List.length_take, Nat.min_eq_left h] at h2
  exact h2

theorem val_drop (l : List Nat) (k : Nat) (h : k < l.length) : val (l.drop k) = l[k] + 4294967296 * val (l.drop (k + 1)) := by
  rw [List.drop_eq_getElem_cons h]; rfl

theorem Nrm.nil : Nrm [] := ⟨Lims.nil, by simp⟩

theorem Nrm.ge {l : List Nat} (h : Nrm l) (n : Nat) (hn : l.length = n + 1) : 2 ^ (32 * n) ≤ val l := by
  have hlt : n < l.length := by omega
  have h1 := val_take_succ l n hlt
  rw [List.take_of_length_le (by omega)] at h1
  have h2 : l[n] ≠ 0 := by
    intro h0; apply h.2
    rw [List.getLast?_eq_getElem?, show l.length - 1 = n by omega, List.getElem?_eq_getElem hlt, h0]
  have h3 : 2 ^ (32 * n) * 1 ≤ 2 ^ (32 * n) * l[n] := Nat.mul_le_mul_left _ (by omega)
  omega

/-- what is below a power of two is short -/
theorem Nrm.len {l : List Nat} (h : Nrm l) {k : Nat} (hk : val l < 2 ^ k) : 32 * l.length < k + 32 := by
  rcases Nat.eq_zero_or_pos l.length with h0 | h0
  · omega
  · obtain ⟨n, hn⟩ : ∃ n, l.length = n + 1 := ⟨l.length - 1, by omega⟩
    have h1 := h.ge n hn
    have h2 : 2 ^ (32 * n) < 2 ^ k := Nat.lt_of_le_of_lt h1 hk
    have h3 := (Nat.pow_lt_pow_iff_right (by decide : 1 < 2)).1 h2
    omega

theorem val_eq_zero {l : List Nat} (h : Nrm l) (h0 : val l = 0) : l = [] := by
  rcases Nat.eq_zero_or_pos l.length with h1 | h1
  · exact List.length_eq_zero_iff.1 h1
  · have := h.ge (l.length - 1) (by omega)
    have := Nat.two_pow_pos (32 * (l.length - 1))
    omega

theorem Nrm.tail {d : Nat} {l : List Nat} (h : Nrm (d :: l)) : Nrm l := by
  refine ⟨h.1.tail, ?_⟩
  intro h2; apply h.2
  cases l with
  | nil => simp at h2
  | cons e l => simpa using h2

theorem nrm_inj : ∀ {l m : List Nat}, Nrm l → Nrm m → val l = val m → l = m
  | [], m, _, hm, h => (val_eq_zero hm (by rw [← h]; rfl)).symm
  | d :: l, [], hl, _, h => val_eq_zero hl (by rw [h]; rfl)
  | d :: l, e :: m, hl, hm, h => by
    have hd := hl.1.head; have he := hm.1.head
    simp only [val] at h
    have h1 : d = e := by omega
    have h2 : val l = val m := by omega
    rw [h1, nrm_inj hl.tail hm.tail h2]

/-- of two of one length, alike above place i, the limb there decides -/
theorem val_lt_of {a b : List Nat} (ha : Lims a) (hl : a.length = b.length) (i : Nat) (hi : i < a.length)
    (hd : a.drop (i + 1) = b.drop (i + 1)) (h : a[i] < b[i]'(by omega)) : val a < val b := by
  have h1 := val_take_drop a i (by omega)
  have h2 := val_take_drop b i (by omega)
  have h3 := val_drop a i hi
  have h4 := val_drop b i (by omega)
  rw [hd] at h3
  have h5 := val_lt (ha.take i)
  rw [List.length_take, Nat.min_eq_left (by omega)] at h5
  have h6 : 2 ^ (32 * i) * (val (a.drop i) + 1) ≤ 2 ^ (32 * i) * val (b.drop i) := Nat.mul_le_mul_left _ (by omega)
  rw [Nat.mul_add] at h6
  omega

theorem val_lt_len {a b : List Nat} (ha : Nrm a) (hb : Nrm b) (h : a.length < b.length) : val a < val b := by
  have h1 := val_lt ha.1
  have h2 := hb.ge (b.length - 1) (by omega)
  have h3 : 2 ^ (32 * a.length) ≤ 2 ^ (32 * (b.length - 1)) := Nat.pow_le_pow_right (by decide) (by omega)
  omega

end Go.Proofs.YtdknfdncgmeimaaDoor.Nt
namespace Go.Proofs.YtdknfdncgmeimaaDoor
open Go.RowKit Nt

/-- the slice value v reads as the limbs l in the world w -/
def Lim (w : World) (v : Value) (l : List Nat) : Prop :=
  Lims l ∧ ∃ (ao : Option Addr) (cap : Nat), v = .slice ao l.length cap ∧ l.length ≤ cap ∧ cap ≤ maxLen ∧
    (l.length ≤ 0 ∨ ∃ b off, ao = some ⟨b, off, none⟩ ∧ b < w.heap.size ∧ ∀ i, i < l.length → w.cell? ⟨b, off + i, none⟩ = some (.int .u32 ((l.getD i 0 : Nat) : Int)))
/-- .. as the number n, in its form -/
def NV (w : World) (v : Value) (n : Nat) : Prop := ∃ l, Nrm l ∧ val l = n ∧ Lim w v l
/-- a call that tells a number, in new memory -/
def RetNV (w : World) (n : Nat) (e : Ending) (w' : World) : Prop := ∃ v, e = .returned v ∧ NV w' v n ∧ Below w.heap.size w w'

theorem Lim.below {w w' : World} {v : Value} {l : List Nat} (h : Lim w v l) (hb : Below w.heap.size w w') : Lim w' v l := by
  obtain ⟨h1, ao, cap, h2, h3, h4, h5⟩ := h
  refine ⟨h1, ao, cap, h2, h3, h4, ?_⟩
  rcases h5 with h5 | ⟨b, off, h5, h6, h7⟩
  · exact Or.inl h5
  · exact Or.inr ⟨b, off, h5, Nat.lt_of_lt_of_le h6 hb.size, fun i hi => (hb.cell (p := ⟨b, off + i, none⟩) h6).trans (h7 i hi)⟩
theorem NV.below {w w' : World} {v : Value} {n : Nat} (h : NV w v n) (hb : Below w.heap.size w w') : NV w' v n := by
  obtain ⟨l, h1, h2, h3⟩ := h
  exact ⟨l, h1, h2, h3.below hb⟩
theorem Lim.alloc {w : World} {v : Value} {l : List Nat} (h : Lim w v l) (o : Obj) : Lim (w.alloc o) v l := h.below ((Below.refl _ _).alloc (Nat.le_refl _) o)
theorem NV.alloc {w : World} {v : Value} {n : Nat} (h : NV w v n) (o : Obj) : NV (w.alloc o) v n := h.below ((Below.refl _ _).alloc (Nat.le_refl _) o)
theorem NV.drew {w : World} {v : Value} {n : Nat} (h : NV w v n) : NV w.drew v n := h.below (Below.refl _ _).drew
theorem below_of_drewN {B n : Nat} {w w' : World} (h : Below B (w.drewN n) w') : Below B w w' := ⟨h.os, h.tape, h.output, h.size, h.block⟩
theorem below_to_drewN {B n : Nat} {w w' : World} (h : Below B w w') : Below B w (w'.drewN n) := ⟨h.os, h.tape, h.output, h.size, h.block⟩
theorem NV.drewN {w : World} {v : Value} {n : Nat} (h : NV w v n) (k : Nat) : NV (w.drewN k) v n := h.below (below_to_drewN (Below.refl _ _))
theorem NV.len {w : World} {v : Value} {n k : Nat} (h : NV w v n) (hk : n < 2 ^ k) : ∃ l, Nrm l ∧ val l = n ∧ Lim w v l ∧ 32 * l.length < k + 32 := by
  obtain ⟨l, h1, h2, h3⟩ := h
  exact ⟨l, h1, h2, h3, h1.len (by rw [h2]; exact hk)⟩
theorem NV.nil (w : World) : NV w (.slice none 0 0) 0 := ⟨[], Nrm.nil, rfl, Lims.nil, none, 0, rfl, Nat.zero_le _, Nat.zero_le _, Or.inl (by simp)⟩
theorem NV.inj {w : World} {v : Value} {n m : Nat} (h : NV w v n) (k : NV w v m) : n = m := by
  obtain ⟨l, h1, h2, h3, ao, cap, h4, h5, h6, h7⟩ := h
  obtain ⟨l', k1, k2, k3, ao', cap', k4, k5, k6, k7⟩ := k
  rw [h4] at k4
  simp only [Value.slice.injEq] at k4
  obtain ⟨e1, e2, e3⟩ := k4
  have e : l = l' := by
    rcases h7 with h7 | ⟨b, off, h7, _, h8⟩
    · rw [List.length_eq_zero_iff.1 (by omega : l.length = 0), List.length_eq_zero_iff.1 (by omega : l'.length = 0)]
    · rcases k7 with k7 | ⟨b', off', k7, _, k8⟩
      · rw [List.length_eq_zero_iff.1 (by omega : l.length = 0), List.length_eq_zero_iff.1 (by omega : l'.length = 0)]
      · apply List.ext_getElem e2
        intro i i1 i2
        have a := h8 i i1
        have b2 := k8 i i2
        rw [h7] at e1; rw [k7] at e1
        simp only [Option.some.injEq, Addr.mk.injEq] at e1
        rw [e1.1, e1.2.1, b2] at a
        simp only [List.getD, List.getElem?_eq_getElem i1, List.getElem?_eq_getElem i2, Option.getD_some, Option.some.injEq, Value.int.injEq, true_and] at a
        omega
  rw [← h2, ← k2, e]
/-- what is owned reads as limbs -/
theorem own_lim {w : World} {base : Nat} {e : TypeId} {v : Value} {n : Nat} {l : List Nat} (h : w.ownsRow base e 1 v n (l.map fun d => Value.int .u32 ((d : Nat) : Int))) (hl : Lims l) : Lim w v l := by
  have hn : l.length = n := by have := h.1; simpa using this
  refine ⟨hl, ?_⟩
  rcases h.2 with ⟨rfl, h0⟩ | ⟨g, cap, cur, rfl, hb, hg, h1, h2, h3, h4⟩
  · exact ⟨none, 0, by rw [hn, h0], by omega, Nat.zero_le _, Or.inl (by omega)⟩
  · refine ⟨some ⟨g, 0, none⟩, cap, by rw [hn], by omega, h2, Or.inr ⟨g, 0, rfl, (Array.getElem?_eq_some_iff.1 hg).1, ?_⟩⟩
    intro i hi
    have := h.cells (g := g) (by simp [Value.ownBlock]) i (Value.int .u32 ((l.getD i 0 : Nat) : Int)) (by simp [List.getD, hi])
    rw [show (⟨g, 0, none⟩ : Addr).add i = ⟨g, 0 + i, none⟩ from by unfold Addr.add; split <;> simp_all] at this
    exact this
theorem NV.shape {w : World} {v : Value} {n : Nat} (h : NV w v n) : ∃ (ao : Option Addr) (k c : Nat), v = .slice ao k c := by
  obtain ⟨l, _, _, _, ao, c, h, _⟩ := h; exact ⟨ao, _, c, h⟩
/-- what was there reads as it did -/
theorem below_cells {W w1 : World} (hb : Below W.heap.size W w1) : (∀ b o, b < W.heap.size → w1.cell? ⟨b, o, none⟩ = W.cell? ⟨b, o, none⟩) ∧ (∀ b o, b < W.heap.size → w1.frozen? ⟨b, o, none⟩ = W.frozen? ⟨b, o, none⟩) :=
  ⟨fun b o h => hb.cell (p := ⟨b, o, none⟩) h, fun b o h => hb.frozen (p := ⟨b, o, none⟩) h⟩
theorem Lim.nrm {w : World} {v : Value} {l : List Nat} (h : Lim w v l) (hn : Nrm l) : NV w v (val l) := ⟨l, hn, rfl, h⟩
end Go.Proofs.YtdknfdncgmeimaaDoor
