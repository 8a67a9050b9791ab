/-
  SOME OF MY TEXTS in one: Tz Dy1. Each says what it proves.
-/
import Derived.Test.YtofdjfdnckmmmaaGreatDoorNa
import Derived.Shelf.Spec.TrailingZeros
import Derived.Test.YtofdjfdnckmmmaaGreatDoorBd
set_option linter.unusedVariables false
set_option linter.unusedSimpArgs false
/-
  THE WALK of math/bits.TrailingZeros32, under its table.
-/
namespace Go.Proofs.YtofdjfdnckmmmaaGreatDoor
open Go.RowKit Nt Fm

/-- the table of math/bits is there -/
def Tab (w : World) : Prop := ∀ j, j < 32 → w.cell? ⟨1, j, none⟩ = some (.int .u8 ((Lib.deBruijn32tab.getD j 0 : Nat) : Int))
theorem Tab.size {w : World} (h : Tab w) : 1 < w.heap.size := World.block_lt_of_cell? w ⟨1, 0, none⟩ (h 0 (by decide))
theorem Tab.below {w w' : World} (h : Tab w) (hb : Below w.heap.size w w') : Tab w' := fun j hj => (hb.cell (p := ⟨1, j, none⟩) h.size).trans (h j hj)
theorem Tab.alloc {w : World} (h : Tab w) (o : Obj) : Tab (w.alloc o) := h.below ((Below.refl _ _).alloc (Nat.le_refl _) o)
theorem Tab.drew {w : World} (h : Tab w) : Tab w.drew := h.below (Below.refl _ _).drew

set_option maxHeartbeats 1000000 in
theorem tz_core (x k idx : Nat) (w : World) (hx0 : ((x : Int) == 0) = false)
    (key : bits BinOp.and IntKind.u32 (x : Int) (-(x : Int) % 4294967296) * 125613361 % 4294967296 / 134217728 = (idx : Int))
    (hi : idx < 32) (hk : k < 32) (hcell : w.cell? ⟨1, idx, none⟩ = some (.int .u8 (k : Int))) :
    Calls Tryz.prog 105 #[.int .u32 x] w fun e w' => e = .returned (.int .i64 k) ∧ w' = w := by
  go_enter Tryz.func105, Tryz.ntmps105
  go_wp2_with (simp only [key])
  go_ret
  exact ⟨rfl, rfl⟩
theorem tz_any (x : Nat) (hx0 : x ≠ 0) (hx : x < 4294967296) (w : World) (hT : Tab w) :
    Calls Tryz.prog 105 #[.int .u32 x] w fun e w' => e = .returned (.int .i64 ((Lib.ctz 32 x : Nat) : Int)) ∧ w' = w := by
  obtain ⟨hlow, hk⟩ := Lib.lowest_bit 32 x hx0 hx
  obtain ⟨hi, htab⟩ := Lib.deBruijn32_at _ hk
  have hcell := hT _ hi
  rw [htab] at hcell
  exact tz_core x _ _ w (by simp; omega) (tz32_key x _ hx hx0 hlow) hi hk hcell

/-- how often two goes into it, by its limbs -/
theorem ctz_limbs {l : List Nat} {j d : Nat} (hj : j < l.length) (hd : d = l.getD j 0) (hd0 : d ≠ 0) (hd1 : d < 4294967296) (h0 : val (l.take j) = 0) :
    ctz (val l) = 32 * j + Lib.ctz 32 d ∧ val l ≠ 0 := by
  have e1 : l[j] = d := by rw [hd]; simp [List.getD, hj]
  have hv := val_take_drop l j (by omega)
  rw [h0, Nat.zero_add, val_drop l j hj, e1] at hv
  obtain ⟨m, hm, hlt⟩ := Lib.ctzFrom_spec 32 d (by omega) hd1
  have hc : Lib.ctz 32 d = Lib.ctzFrom 32 d := by unfold Lib.ctz; rw [if_neg hd0]
  rw [← hc] at hm hlt
  generalize Lib.ctz 32 d = t at *
  have e2 : d + 4294967296 * val (l.drop (j + 1)) = 2 ^ t * (2 * (m + 2 ^ (31 - t) * val (l.drop (j + 1))) + 1) := by
    have : (4294967296 : Nat) = 2 ^ t * (2 * 2 ^ (31 - t)) := by
      rw [← Nat.pow_succ', ← Nat.pow_add, show t + (31 - t).succ = 32 by omega]
    rw [hm, this, Nat.mul_add 2, Nat.mul_assoc (2 ^ t), ← Nat.mul_add]
    congr 1
    rw [Nat.mul_assoc]; omega
  have h1 : val l ≠ 0 := by
    rw [hv]; intro h
    rcases Nat.mul_eq_zero.1 h with h | h
    · have := Nat.two_pow_pos (32 * j); omega
    · omega
  refine ⟨?_, h1⟩
  obtain ⟨q, h3, h4⟩ := ctz_spec h1
  rw [e2, ← Nat.mul_assoc, ← Nat.pow_add] at hv
  have h5 : q * 2 ^ ctz (val l) = (2 * (m + 2 ^ (31 - t) * val (l.drop (j + 1))) + 1) * 2 ^ (32 * j + t) := by rw [← h3, hv, Nat.mul_comm]
  exact (odd_pow_inj h4 (by omega) h5).2
end Go.Proofs.YtofdjfdnckmmmaaGreatDoor

/-
  THE WALKS of package dyad: Norm.
-/
namespace Go.Proofs.YtofdjfdnckmmmaaGreatDoor
open Go.RowKit Nt Fm

theorem zeros_step {l : List Nat} {j : Nat} (hj : j < l.length) (h : val (l.take j) = 0) (h0 : l.getD j 0 = 0) : val (l.take (j + 1)) = 0 := by
  have e1 : l[j] = l.getD j 0 := by simp [List.getD, hj]
  rw [val_take_succ l j hj, h, e1, h0]; simp
theorem zeros_end {l : List Nat} (hl : Nrm l) (h : val (l.take l.length) = 0) : l.length = 0 := by
  rw [List.take_length] at h
  rw [val_eq_zero hl h]; rfl
theorem norm_pos {neg : Bool} {a k : Nat} {e : Int} (h : a ≠ 0) (hk : ctz a = k) : norm neg a e = ⟨neg, a / 2 ^ k, e + k⟩ := by
  unfold norm; rw [if_neg h, hk]

set_option maxHeartbeats 2000000 in
theorem dnorm_any (neg : Bool) (va : Value) (a k0 : Nat) (x : Int) (w : World) (hT : Tab w) (ha : NV w va a) (hka : a < 2 ^ k0) (hk0 : k0 ≤ 120000000000000) (h0 : -4000000000000000000 ≤ x) (h1 : x ≤ 4000000000000000000) :
    Calls Tryz.prog 62 #[.bool neg, va, .int .i64 x] w (RetD w (norm neg a x)) := by
  have haw := ha
  obtain ⟨l, hl, el, ⟨-, aa, ca, rfl, hca, hma, hA⟩, hll⟩ := ha.len hka
  unfold maxLen at hma
  have EL := Lib.hid el
  have HKA := Lib.hid hka
  clear el hka
  have hll2 : l.length ≤ 4000000000000 := by omega
  by_cases hl0 : l.length ≤ 0
  · have e0 : norm neg a x = nz := by
      have : a = 0 := by rw [← EL.out, List.length_eq_zero_iff.1 (by omega : l.length = 0)]; rfl
      rw [this]; rfl
    rw [e0]; clear e0 hA haw
    go_enter Tryz.func62, Tryz.ntmps62
    go_wp2
    go_returns
    exact ⟨_, rfl, DV.zero _, by go_grown⟩
  · rcases hA with hP | ⟨bp, op, rfl, hbp, hcP⟩
    · exact absurd hP hl0
    have hl1 : 0 < l.length := by omega
    clear hl0
    have HAW := Lib.hid haw
    have HTT := Lib.hid hT
    clear haw hT
    go_enter Tryz.func62, Tryz.ntmps62
    go_wp2
    go_loop [7] (fun k => ∃ j : Nat, j < l.length ∧ k = .int .i64 ((32 * j : Nat) : Int) ∧ val (l.take j) = 0) (fun k => 32 * l.length - (intOf k).toNat)
    case atStart => exact ⟨0, hl1, rfl, rfl⟩
    case round =>
      obtain ⟨j, hj, rfl, hv⟩ := hrel
      have HV := Lib.hid hv
      obtain ⟨d, hd⟩ : ∃ d, d = l.getD j 0 := ⟨_, rfl⟩
      have hd1 : d < 4294967296 := by rw [hd]; exact hl.1.getD j
      have hck := hcP j hj
      rw [← hd] at hck
      have HD := Lib.hid hd
      have HCP := Lib.hid hcP
      clear hv hd hcP
      have ej : (((32 * j : Nat) : Int) / 32) = (j : Int) := by omega
      by_cases hz : d = 0
      · subst hz
        have hj1 : j + 1 < l.length := by
          rcases Nat.lt_or_ge (j + 1) l.length with h | h
          · exact h
          · exfalso
            have := zeros_step hj HV.out HD.out.symm
            rw [show j + 1 = l.length by omega] at this
            have := zeros_end hl this
            omega
        go_wp2
        go_round
        case rel => exact ⟨j + 1, hj1, by simp; omega, zeros_step hj HV.out HD.out.symm⟩
        case measure => simp [intOf]; omega
      · have hz2 : ((d : Int) == 0) = false := by rw [beq_eq_false_iff_ne]; omega
        obtain ⟨c1, c2⟩ := ctz_limbs hj HD.out hz hd1 HV.out
        rw [EL.out] at c1 c2
        have hc32 : Lib.ctz 32 d < 32 := by
          have := (Lib.lowest_bit 32 d hz (by omega)).2; exact this
        have en := @norm_pos neg a _ x c2 c1
        have htz := fun w hT => tz_any d hz hd1 w hT
        generalize Lib.ctz 32 d = t at *
        have EN := Lib.hid en
        have HTZ := Lib.hid htz
        clear c1 c2 en htz
        go_wp2_with (go_at_call 105; refine (HTZ.out _ (HTT.out.alloc _)).mono ?_; rintro e w' ⟨rfl, rfl⟩)
        refine (right_any _ a (32 * j + t) k0 _ _ (HAW.out.alloc _) (by simp) HKA.out hk0 (by omega)).mono ?_
        rintro e w1 ⟨v, rfl, hv, hb⟩
        obtain ⟨q0, q1, q2, f0, f1, f2⟩ := cells3 hb
        obtain ⟨ao1, n1, cc1, rfl⟩ := hv.shape
        have HV1 := Lib.hid hv
        clear hv
        go_wp2
        refine bodyPost_ret (v := .agg #[.bool neg, .slice ao1 n1 cc1, .int .i64 (x + (32 * (j : Int) + (t : Int)))]) (by simp [results, Tryz.results62, go_sem, q0, q1, q2]) rfl ?_
        refine ⟨_, rfl, ⟨.slice ao1 n1 cc1, ?_, ?_⟩, Below.store3 hb _ _ _⟩
        · rw [EN.out]; simp
        · rw [EN.out]
          exact HV1.out.store3 hb (noLimb_bool _) (noLimb_slice _ _ _) (noLimb_i64 _) _ _ _
end Go.Proofs.YtofdjfdnckmmmaaGreatDoor
