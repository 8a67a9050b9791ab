/-
  THE WALK of math/bits.TrailingZeros32, under its table.
-/
import Derived.Test.YthkcbjhjhkpclaaDoorNa
import Derived.Shelf.Spec.TrailingZeros
import Derived.Test.YthkcbjhjhkpclaaDoorBd
set_option linter.unusedVariables false
set_option linter.unusedSimpArgs false
namespace Go.Proofs.YthkcbjhjhkpclaaDoor
open Go.RowKit Nt Fm

/-- the table of math/bits is there -/
def Tab (w : World) : Prop := ∀ j, j < 32 → w.cell? ⟨0, j, none⟩ = some (.int .u8 ((Lib.deBruijn32tab.getD j 0 : Nat) : Int))
theorem Tab.size {w : World} (h : Tab w) : 0 < w.heap.size := World.block_lt_of_cell? w ⟨0, 0, none⟩ (h 0 (by decide))
theorem Tab.below {w w' : World} (h : Tab w) (hb : Below w.heap.size w w') : Tab w' := fun j hj => (hb.cell (p := ⟨0, j, none⟩) h.size).trans (h j hj)
theorem Tab.alloc {w : World} (h : Tab w) (o : Obj) : Tab (w.alloc o) := h.below ((Below.refl _ _).alloc (Nat.le_refl _) o)
theorem Tab.drew {w : World} (h : Tab w) : Tab w.drew := h.below (Below.refl _ _).drew

set_option maxHeartbeats 1000000 in
theorem tz_core (x k idx : Nat) (w : World) (hx0 : ((x : Int) == 0) = false)
    (key : bits BinOp.and IntKind.u32 (x : Int) (-(x : Int) % 4294967296) * 125613361 % 4294967296 / 134217728 = (idx : Int))
    (hi : idx < 32) (hk : k < 32) (hcell : w.cell? ⟨0, idx, none⟩ = some (.int .u8 (k : Int))) :
    Calls Tryd.prog 69 #[.int .u32 x] w fun e w' => e = .returned (.int .i64 k) ∧ w' = w := by
  go_enter Tryd.func69, Tryd.ntmps69
  go_wp2_with (simp only [key])
  go_ret
  exact ⟨rfl, rfl⟩
theorem tz_any (x : Nat) (hx0 : x ≠ 0) (hx : x < 4294967296) (w : World) (hT : Tab w) :
    Calls Tryd.prog 69 #[.int .u32 x] w fun e w' => e = .returned (.int .i64 ((Lib.ctz 32 x : Nat) : Int)) ∧ w' = w := by
  obtain ⟨hlow, hk⟩ := Lib.lowest_bit 32 x hx0 hx
  obtain ⟨hi, htab⟩ := Lib.deBruijn32_at _ hk
  have hcell := hT _ hi
  rw [htab] at hcell
  exact tz_core x _ _ w (by simp; omega) (tz32_key x _ hx hx0 hlow) hi hk hcell

/-- how often two goes into it, by its limbs -/
theorem ctz_limbs {l : List Nat} {j d : Nat} (hj : j < l.length) (hd : d = l.getD j 0) (hd0 : d ≠ 0) (hd1 : d < 4294967296) (h0 : val (l.take j) = 0) :
    ctz (val l) = 32 * j + Lib.ctz 32 d ∧ val l ≠ 0 := by
  have e1 : l[j] = d := by rw [hd]; simp [List.getD, hj]
  have hv := val_take_drop l j (by omega)
  rw [h0, Nat.zero_add, val_drop l j hj, e1] at hv
  obtain ⟨m, hm, hlt⟩ := Lib.ctzFrom_spec 32 d (by omega) hd1
  have hc : Lib.ctz 32 d = Lib.ctzFrom 32 d := by unfold Lib.ctz; rw [if_neg hd0]
  rw [← hc] at hm hlt
  generalize Lib.ctz 32 d = t at *
  have e2 : d + 4294967296 * val (l.drop (j + 1)) = 2 ^ t * (2 * (m + 2 ^ (31 - t) * val (l.drop (j + 1))) + 1) := by
    have : (4294967296 : Nat) = 2 ^ t * (2 * 2 ^ (31 - t)) := by
      rw [← Nat.pow_succ', ← Nat.pow_add, show t + (31 - t).succ = 32 by omega]
    rw [hm, this, Nat.mul_add 2, Nat.mul_assoc (2 ^ t), ← Nat.mul_add]
    congr 1
    rw [Nat.mul_assoc]; omega
  have h1 : val l ≠ 0 := by
    rw [hv]; intro h
    rcases Nat.mul_eq_zero.1 h with h | h
    · have := Nat.two_pow_pos (32 * j); omega
    · omega
  refine ⟨?_, h1⟩
  obtain ⟨q, h3, h4⟩ := ctz_spec h1
  rw [e2, ← Nat.mul_assoc, ← Nat.pow_add] at hv
  have h5 : q * 2 ^ ctz (val l) = (2 * (m + 2 ^ (31 - t) * val (l.drop (j + 1))) + 1) * 2 ^ (32 * j + t) := by rw [← h3, hv, Nat.mul_comm]
  exact (odd_pow_inj h4 (by omega) h5).2
end Go.Proofs.YthkcbjhjhkpclaaDoor
