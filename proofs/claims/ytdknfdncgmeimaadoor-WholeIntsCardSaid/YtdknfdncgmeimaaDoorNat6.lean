/-
  THE WALK of package nat: Left.
-/
import Derived.Test.YtdknfdncgmeimaaDoorPush
set_option linter.unusedVariables false
set_option linter.unusedSimpArgs false
namespace Go.Proofs.YtdknfdncgmeimaaDoor
open Go.RowKit Nt

theorem or_shift {c x s : Nat} (hc : c < 2 ^ s) (hs : s < 32) (hx : x < 4294967296) :
    bits .or .u64 (c : Int) (IntKind.u64.wrap ((x : Int) * 2 ^ s)) = ((c + x * 2 ^ s : Nat) : Int) ∧ c + x * 2 ^ s < 9223372036854775808 := by
  have h1 : 2 ^ s ≤ 2 ^ 31 := Nat.pow_le_pow_right (by decide) (by omega)
  have h2 : x * 2 ^ s ≤ 4294967295 * 2 ^ 31 := Nat.mul_le_mul (by omega) h1
  have h3 : ((x : Int) * 2 ^ s) = ((x * 2 ^ s : Nat) : Int) := by simp
  have h4 : c + x * 2 ^ s < 9223372036854775808 := by omega
  refine ⟨?_, h4⟩
  rw [h3, IntWalk.u64_in _ (by omega), bits_or_u64_nat _ _ (by omega) (by omega)]
  congr 1
  rw [Nat.or_comm, Nat.mul_comm, ← Nat.two_pow_add_eq_or_of_lt hc, Nat.add_comm]

/-- limbs shifted, one by one -/
def LeftRel (l : List Nat) (n k : Nat) (o : List Nat) (c : Nat) : Prop :=
  o.length = n / 32 + k ∧ Lims o ∧ c < 2 ^ (n % 32) ∧ val o + 2 ^ (32 * (n / 32 + k)) * c = 2 ^ n * val (l.take k)
theorem lims_zeros (n : Nat) : Lims (List.replicate n 0) := by intro x hx; rw [List.eq_of_mem_replicate hx]; decide
theorem val_zeros (n : Nat) : val (List.replicate n 0) = 0 := by
  induction n with
  | zero => rfl
  | succ n ih => simp [List.replicate_succ, val, ih]
theorem LeftRel.start (l : List Nat) (n : Nat) : LeftRel l n 0 (List.replicate (n / 32) 0) 0 :=
  ⟨by simp, lims_zeros _, Nat.two_pow_pos _, by simp [val, val_zeros]⟩
theorem left_arith {V W c x S N P : Nat} (h : V + W * c = P) (hN : N = W * S) :
    V + W * ((c + x * S) % 4294967296) + 4294967296 * W * ((c + x * S) / 4294967296) = P + N * x := by
  have h1 := Nat.div_add_mod (c + x * S) 4294967296
  have h2 : W * ((c + x * S) % 4294967296) + 4294967296 * W * ((c + x * S) / 4294967296) = W * c + W * S * x := by
    rw [Nat.mul_comm 4294967296 W, Nat.mul_assoc, ← Nat.mul_add, Nat.mul_assoc, ← Nat.mul_add]; congr 1
    rw [Nat.mul_comm S x]; omega
  subst hN; omega
theorem LeftRel.step {l o : List Nat} {n k c x : Nat} (h : LeftRel l n k o c) (hk : k < l.length) (hx : x = l.getD k 0) (hl : Lims l) :
    LeftRel l n (k + 1) (o ++ [(c + x * 2 ^ (n % 32)) % 4294967296]) ((c + x * 2 ^ (n % 32)) / 4294967296) := by
  obtain ⟨h1, h2, h3, h4⟩ := h
  have hx1 : x < 4294967296 := by rw [hx]; exact hl.getD k
  refine ⟨by rw [List.length_append, h1]; rfl, h2.snoc (Nat.mod_lt _ (by decide)), ?_, ?_⟩
  · rw [Nat.div_lt_iff_lt_mul (by decide)]
    have : (x + 1) * 2 ^ (n % 32) ≤ 4294967296 * 2 ^ (n % 32) := Nat.mul_le_mul_right _ (by omega)
    rw [Nat.add_mul] at this
    rw [Nat.mul_comm (2 ^ (n % 32)) 4294967296]; omega
  · rw [val_snoc, h1, ← Nat.add_assoc, pow32_succ, val_take_succ l k hk]
    have e1 : l[k] = x := by rw [hx]; simp [List.getD, hk]
    rw [e1, Nat.mul_add (2 ^ n), ← Nat.mul_assoc (2 ^ n)]
    apply left_arith h4
    rw [← Nat.pow_add, ← Nat.pow_add]; congr 1; omega
theorem LeftRel.fin {l o : List Nat} {n c : Nat} (h : LeftRel l n l.length o c) : Lims (o ++ [c]) ∧ val (o ++ [c]) = val l * 2 ^ n := by
  obtain ⟨h1, h2, h3, h4⟩ := h
  have h5 : 2 ^ (n % 32) ≤ 2 ^ 31 := Nat.pow_le_pow_right (by decide) (by omega)
  refine ⟨h2.snoc (by omega), ?_⟩
  rw [val_snoc, h1, h4, List.take_length, Nat.mul_comm]

set_option maxHeartbeats 4000000 in
set_option maxRecDepth 100000 in
theorem left_any (va : Value) (a n k0 : Nat) (x : Int) (w : World) (ha : NV w va a) (hx : x = (n : Int)) (hka : a < 2 ^ k0) (hk0 : k0 ≤ 3000000) (hn : n ≤ 3000000) :
    Calls Tryd.prog 78 #[va, .int .i64 x] w (RetNV w (a * 2 ^ n)) := by
  subst hx
  obtain ⟨l, hl, el, ⟨-, aa, ca, rfl, hca, hma, hA⟩, hll⟩ := ha.len hka
  unfold maxLen at hma
  have EL := Lib.hid el
  clear ha hka el
  have hll2 : l.length ≤ 100000 := by omega
  rcases hA with hP | ⟨bp, op, rfl, hbp, hcP⟩
  · have h0 : a = 0 := by rw [← EL.out, List.length_eq_zero_iff.1 (by omega : l.length = 0)]; rfl
    have H0 := Lib.hid h0
    clear h0
    go_enter Tryd.func78, Tryd.ntmps78
    go_wp2
    go_ret
    exact ⟨_, rfl, by rw [H0.out, Nat.zero_mul]; exact NV.nil _, Below.refl _ _⟩
  · by_cases hl0 : l.length ≤ 0
    · have h0 : a = 0 := by rw [← EL.out, List.length_eq_zero_iff.1 (by omega : l.length = 0)]; rfl
      have H0 := Lib.hid h0
      clear h0 hcP
      go_enter Tryd.func78, Tryd.ntmps78
      go_wp2
      go_ret
      exact ⟨_, rfl, by rw [H0.out, Nat.zero_mul]; exact NV.nil _, Below.refl _ _⟩
    · have hl1 : 0 < l.length := by omega
      clear hl0
      go_enter Tryd.func78, Tryd.ntmps78
      go_wp2_with (refine wpList_make_limbs rfl _ _ rfl _ _ (n / 32) (n / 32 + l.length + 1) rfl rfl (by simp) (by simp) (by omega) (by omega) ?_; intro w1 hown1 hb1)
      go_loopw [5, 6, 23] (fun v c i wr => ∃ (k cn : Nat) (o : List Nat), k ≤ l.length ∧ i = .int .i64 k ∧ c = .int .u64 ((cn : Nat) : Int) ∧ wr.ownsRow w.heap.size 71 1 v o.length (lc o) ∧ LeftRel l n k o cn ∧ Below w.heap.size w wr)
        (fun _ _ i _ => l.length - (intOf i).toNat)
      case atStart => exact ⟨0, 0, _, Nat.zero_le _, rfl, rfl, by rw [List.length_replicate]; exact hown1, LeftRel.start _ _, hb1⟩
      case round =>
        obtain ⟨k, cn, o, hk, rfl, rfl, hown, hrel, hbel⟩ := hrel
        have hol : o.length ≤ 1000000 := by rw [hrel.1]; omega
        have hcn : cn < 2147483648 := Nat.lt_of_lt_of_le hrel.2.2.1 (Nat.pow_le_pow_right (n := 2) (by decide) (show n % 32 ≤ 31 by omega))
        have hsz := hbel.size
        have REL := Lib.hid hrel
        clear hrel
        by_cases hkp : k < l.length
        · obtain ⟨x, hx⟩ : ∃ x, x = l.getD k 0 := ⟨_, rfl⟩
          have hx1 : x < 4294967296 := by rw [hx]; exact hl.1.getD k
          have hcx := (hbel.cell (p := ⟨bp, op + k, none⟩) hbp).trans (hcP k hkp)
          rw [← hx] at hcx
          have HX := Lib.hid hx
          obtain ⟨e1, e2⟩ := or_shift REL.out.2.2.1 (show n % 32 < 32 by omega) hx1
          have hst := REL.out.step hkp HX.out hl.1
          generalize hy : cn + x * 2 ^ (n % 32) = y at *
          have ST := Lib.hid hst
          clear hst hx hcP hy
          go_wp2_with (at_builtin; refine wpList_push rfl _ _ rfl w.heap.size hsz _ o rfl hown (y % 4294967296) rfl (by omega) (by omega) ?_; intro v' w1 hown1 hb1)
          go_roundw
          case rel => exact ⟨k + 1, y / 4294967296, _, by omega, by go_num, by simp, hown1, ST.out, hbel.trans hb1⟩
          case measure => simp [intOf]; omega
        · have hke : k = l.length := by omega
          have hfin : Lims (o ++ [cn]) ∧ val (o ++ [cn]) = a * 2 ^ n := by
            have := REL.out; rw [hke] at this
            have h2 := this.fin
            rw [EL.out] at h2
            exact h2
          have FIN := Lib.hid hfin
          clear hke hfin hcP
          go_wp2_with (at_builtin; refine wpList_push rfl _ _ rfl w.heap.size hsz _ o rfl hown cn rfl (by omega) (by omega) ?_; intro v' w1 hown1 hb1)
          refine (norm_any _ _ _ (own_lim' hown1 FIN.out.1)).mono ?_
          rintro e w2 ⟨⟨v2, rfl, hn2⟩, rfl⟩
          rw [FIN.out.2] at hn2
          go_wp2
          go_ret
          exact ⟨v2, rfl, hn2, hbel.trans hb1⟩
end Go.Proofs.YtdknfdncgmeimaaDoor
