/-
  THE WALK of package nat: Right.
-/
import Derived.Test.YtdknfdncgmeimaaDoorPush
set_option linter.unusedVariables false
set_option linter.unusedSimpArgs false
namespace Go.Proofs.YtdknfdncgmeimaaDoor
open Go.RowKit Nt

/-- a call that tells a number, in new memory, and a bool -/
def RetNVB (w : World) (n : Nat) (b : Bool) (e : Ending) (w' : World) : Prop := ∃ v, e = .returned (.tuple #[v, .bool b]) ∧ NV w' v n ∧ Below w.heap.size w w'

/-- is something lost? -/
def lostB (a n : Nat) : Bool := decide (a % 2 ^ n ≠ 0)

theorem and_low (x s : Nat) (hs : s < 32) (hx : x < 4294967296) :
    bits .and .u32 (x : Int) (((2 : Int) ^ s - 1) % 4294967296) = ((x % 2 ^ s : Nat) : Int) := by
  have h1 : 2 ^ s ≤ 2 ^ 31 := Nat.pow_le_pow_right (by decide) (by omega)
  have h2 : ((2 : Int) ^ s) = ((2 ^ s : Nat) : Int) := by simp
  have h0 := Nat.two_pow_pos s
  rw [h2, show (((2 ^ s : Nat) : Int) - 1) % 4294967296 = ((2 ^ s - 1 : Nat) : Int) by omega, u32_and_nat _ _ hx (by omega), Nat.and_two_pow_sub_one_eq_mod]
theorem or_high (x y : Nat) (hx : x < 4294967296) (hy : y < 4294967296) : bits .or .u64 (x : Int) ((y : Int) * 4294967296) = ((x + y * 4294967296 : Nat) : Int) := by
  have h3 : ((y : Int) * 4294967296) = ((y * 4294967296 : Nat) : Int) := by simp
  rw [h3, bits_or_u64_nat _ _ (by omega) (by omega)]
  congr 1
  have := Nat.two_pow_add_eq_or_of_lt (show x < 2 ^ 32 by omega) y
  rw [Nat.or_comm, Nat.mul_comm, show (4294967296 : Nat) = 2 ^ 32 by decide, ← this]; omega

theorem mod_zero_step {l : List Nat} {n k : Nat} (hl : Lims l) (hk : k < l.length) :
    (k < n / 32 → (val (l.take (k + 1)) % 2 ^ n ≠ 0 ↔ val (l.take k) % 2 ^ n ≠ 0 ∨ l.getD k 0 ≠ 0)) ∧
    (k = n / 32 → (val (l.take (k + 1)) % 2 ^ n ≠ 0 ↔ val (l.take k) % 2 ^ n ≠ 0 ∨ l.getD k 0 % 2 ^ (n % 32) ≠ 0)) ∧
    (n / 32 < k → val (l.take (k + 1)) % 2 ^ n = val (l.take k) % 2 ^ n) := by
  have e1 : l[k] = l.getD k 0 := by simp [List.getD, hk]
  have hv := val_take_succ l k hk
  rw [e1] at hv
  have ht := val_lt (hl.take k)
  rw [List.length_take, Nat.min_eq_left (by omega)] at ht
  have hp := Nat.two_pow_pos (32 * k)
  refine ⟨fun h => ?_, fun h => ?_, fun h => ?_⟩
  · have h2 : 2 ^ (32 * k) * 4294967296 ≤ 2 ^ n := by
      rw [show (4294967296 : Nat) = 2 ^ 32 by decide, ← Nat.pow_add]; exact Nat.pow_le_pow_right (by decide) (by omega)
    have hd := hl.getD k
    rw [show l[k]?.getD 0 = l.getD k 0 from rfl] at hd
    have h3 : 2 ^ (32 * k) * (l.getD k 0 + 1) ≤ 2 ^ (32 * k) * 4294967296 := Nat.mul_le_mul_left _ (by omega)
    rw [Nat.mul_add] at h3
    rw [hv, Nat.mod_eq_of_lt (by omega), Nat.mod_eq_of_lt (by omega)]
    have h4 : 2 ^ (32 * k) * l.getD k 0 = 0 ↔ l.getD k 0 = 0 := by rw [Nat.mul_eq_zero]; omega
    omega
  · have e2 : 2 ^ n = 2 ^ (32 * k) * 2 ^ (n % 32) := by rw [← Nat.pow_add]; congr 1; omega
    have h3 : val (l.take k) % 2 ^ n = val (l.take k) := Nat.mod_eq_of_lt (Nat.lt_of_lt_of_le ht (by rw [e2]; exact Nat.le_mul_of_pos_right _ (Nat.two_pow_pos _)))
    have h5 : val (l.take (k + 1)) % 2 ^ n = val (l.take k) + 2 ^ (32 * k) * (l.getD k 0 % 2 ^ (n % 32)) := by
      rw [hv, e2, Nat.mod_mul, Nat.add_mul_mod_self_left, Nat.mod_eq_of_lt ht, Nat.add_mul_div_left _ _ hp, Nat.div_eq_of_lt ht, Nat.zero_add]
    rw [h5, h3]
    have h4 : 2 ^ (32 * k) * (l.getD k 0 % 2 ^ (n % 32)) = 0 ↔ l.getD k 0 % 2 ^ (n % 32) = 0 := by rw [Nat.mul_eq_zero]; omega
    omega
  · have e2 : 2 ^ (32 * k) = 2 ^ n * 2 ^ (32 * k - n) := by rw [← Nat.pow_add]; congr 1; omega
    rw [hv, e2, Nat.mul_assoc, Nat.add_mul_mod_self_left]

/-- limbs shifted down, one by one -/
def RightRel (l : List Nat) (n k : Nat) (o : List Nat) : Prop :=
  n / 32 + o.length = k ∧ Lims o ∧ val o = val l / 2 ^ n % 2 ^ (32 * o.length)
theorem RightRel.start (l : List Nat) (n : Nat) : RightRel l n (n / 32) [] := ⟨by simp, Lims.nil, by simp [val, Nat.mod_one]⟩
theorem drop_val {l : List Nat} (hl : Lims l) (k : Nat) (hk : k ≤ l.length) : val l / 2 ^ (32 * k) = val (l.drop k) := by
  have h1 := val_take_drop l k hk
  have ht := val_lt (hl.take k)
  rw [List.length_take, Nat.min_eq_left hk] at ht
  rw [h1, Nat.add_mul_div_left _ _ (Nat.two_pow_pos _), Nat.div_eq_of_lt ht, Nat.zero_add]
theorem limb_of {A R s : Nat} (hs : s < 32) : (A + 18446744073709551616 * R) / 2 ^ s % 4294967296 = A / 2 ^ s % 4294967296 := by
  have e : 18446744073709551616 = 2 ^ s * (4294967296 * 2 ^ (32 - s)) := by
    rw [show (4294967296 : Nat) = 2 ^ 32 by decide, ← Nat.pow_add, ← Nat.pow_add, show s + (32 + (32 - s)) = 64 by omega]
  rw [e, Nat.mul_assoc, Nat.add_mul_div_left _ _ (Nat.two_pow_pos _), Nat.mul_assoc, Nat.add_mul_mod_self_left]
theorem RightRel.step {l o : List Nat} {n k x y : Nat} (h : RightRel l n k o) (hk : k < l.length) (hl : Lims l) (hx : x = l.getD k 0) (hy : y = l.getD (k + 1) 0) :
    RightRel l n (k + 1) (o ++ [(x + y * 4294967296) / 2 ^ (n % 32) % 4294967296]) := by
  obtain ⟨h1, h2, h3⟩ := h
  refine ⟨by rw [List.length_append]; simp; omega, h2.snoc (Nat.mod_lt _ (by decide)), ?_⟩
  have hlimb : (x + y * 4294967296) / 2 ^ (n % 32) % 4294967296 = val l / 2 ^ n / 2 ^ (32 * o.length) % 4294967296 := by
    have e1 : val l / 2 ^ n / 2 ^ (32 * o.length) = val (l.drop k) / 2 ^ (n % 32) := by
      rw [← drop_val hl k (by omega), Nat.div_div_eq_div_mul, Nat.div_div_eq_div_mul, ← Nat.pow_add, ← Nat.pow_add]
      congr 2; omega
    rw [e1, val_drop l k hk]
    have ex : l[k] = x := by rw [hx]; simp [List.getD, hk]
    rw [ex]
    by_cases hk1 : k + 1 < l.length
    · rw [val_drop l (k + 1) hk1]
      have ey : l[k + 1] = y := by rw [hy]; simp [List.getD, hk1]
      rw [ey, Nat.mul_add, ← Nat.add_assoc, ← Nat.mul_assoc, show 4294967296 * 4294967296 = 18446744073709551616 by decide, limb_of (Nat.mod_lt _ (by decide)), Nat.mul_comm y]
    · rw [List.drop_of_length_le (by omega)]
      have ey : y = 0 := by rw [hy]; simp [List.getD, List.getElem?_eq_none (Nat.le_of_not_lt hk1)]
      rw [ey]; simp [val]
  rw [val_snoc, List.length_append, List.length_singleton, h3, hlimb]
  rw [show 32 * (o.length + 1) = 32 * o.length + 32 by omega, Nat.pow_add, Nat.mod_mul]
theorem RightRel.fin {l o : List Nat} {n : Nat} (h : RightRel l n l.length o) (hl : Lims l) : Lims o ∧ val o = val l / 2 ^ n := by
  obtain ⟨h1, h2, h3⟩ := h
  refine ⟨h2, ?_⟩
  rw [h3, Nat.mod_eq_of_lt]
  rw [Nat.div_lt_iff_lt_mul (Nat.two_pow_pos _), ← Nat.pow_add]
  exact Nat.lt_of_lt_of_le (val_lt hl) (Nat.pow_le_pow_right (by decide) (by omega))
theorem right_out {l : List Nat} {n : Nat} (hl : Lims l) (h : l.length ≤ n / 32) : val l / 2 ^ n = 0 :=
  Nat.div_eq_of_lt (Nat.lt_of_lt_of_le (val_lt hl) (Nat.pow_le_pow_right (by decide) (by omega)))

set_option maxHeartbeats 8000000 in
set_option maxRecDepth 100000 in
theorem right_any (va : Value) (a n k0 : Nat) (x : Int) (w : World) (ha : NV w va a) (hx : x = (n : Int)) (hka : a < 2 ^ k0) (hk0 : k0 ≤ 3000000) (hn : n ≤ 3000000) :
    Calls Tryd.prog 97 #[va, .int .i64 x] w (RetNVB w (a / 2 ^ n) (lostB a n)) := by
  subst hx
  obtain ⟨l, hl, el, ⟨-, aa, ca, rfl, hca, hma, hA⟩, hll⟩ := ha.len hka
  unfold maxLen at hma
  have EL := Lib.hid el
  clear ha hka el
  have hll2 : l.length ≤ 100000 := by omega
  rcases hA with hP | ⟨bp, op, rfl, hbp, hcP⟩
  all_goals
    go_enter Tryd.func97, Tryd.ntmps97
    go_wp2
    go_loop [6, 14] (fun v i => ∃ (k : Nat) (L : Bool), k ≤ l.length ∧ i = .int .i64 k ∧ v = .bool L ∧ L = lostB (val (l.take k)) n)
      (fun _ i => l.length - (intOf i).toNat)
    case atStart => exact ⟨0, false, Nat.zero_le _, rfl, rfl, by simp [val, lostB]⟩
    case round =>
      obtain ⟨k, L, hk, rfl, rfl, hL⟩ := hrel
      by_cases hkp : k < l.length
      · first
          | (exfalso; omega)
          | (have hst := @mod_zero_step l n k hl.1 hkp
             obtain ⟨x, hx⟩ : ∃ x, x = l.getD k 0 := ⟨_, rfl⟩
             have hx1 : x < 4294967296 := by rw [hx]; exact hl.1.getD k
             have hcx := hcP k hkp
             rw [← hx] at hcx hst
             have e1 := and_low x (n % 32) (Nat.mod_lt _ (by decide)) hx1
             have ST := Lib.hid hst
             have HL := Lib.hid hL
             have HCP := Lib.hid hcP
             clear hst hx hL hcP
             rcases Nat.lt_trichotomy k (n / 32) with hlt | heq | hgt
             · by_cases hx0 : x = 0
               · subst hx0
                 cases L
                 all_goals
                   go_wp2
                   go_round
                   case rel =>
                     refine ⟨k + 1, _, by omega, by go_num, rfl, ?_⟩
                     have h1 := ST.out.1 hlt; have h2 := HL.out
                     unfold lostB at h2 ⊢; simp_all
                   case measure => simp [intOf]; omega
               · have hx2 : ((x : Int) != 0) = true := by simp; omega
                 cases L
                 all_goals
                   go_wp2
                   go_round
                   case rel =>
                     refine ⟨k + 1, _, by omega, by go_num, rfl, ?_⟩
                     have h1 := ST.out.1 hlt; have h2 := HL.out
                     unfold lostB at h2 ⊢; simp_all
                   case measure => simp [intOf]; omega
             · subst heq
               by_cases hx0 : x % 2 ^ (n % 32) = 0
               · rw [hx0] at e1
                 have HX0 := Lib.hid hx0
                 clear hx0
                 cases L
                 all_goals
                   go_wp2
                   go_round
                   case rel =>
                     refine ⟨n / 32 + 1, _, by omega, by go_num, rfl, ?_⟩
                     have h1 := ST.out.2.1 rfl; have h2 := HL.out; have h3 := HX0.out
                     unfold lostB at h2 ⊢; simp_all
                   case measure => simp [intOf]; omega
               · generalize hr : x % 2 ^ (n % 32) = r at *
                 have hx2 : ((r : Int) != 0) = true := by simp; omega
                 have HR := Lib.hid hr
                 clear hr
                 cases L
                 all_goals
                   go_wp2
                   go_round
                   case rel =>
                     refine ⟨n / 32 + 1, _, by omega, by go_num, rfl, ?_⟩
                     have h1 := ST.out.2.1 rfl; have h2 := HL.out; have h3 := HR.out
                     unfold lostB at h2 ⊢; simp_all
                   case measure => simp [intOf]; omega
             · have hb0 : ((k : Int) == (n : Int) / 32) = false := by rw [beq_eq_false_iff_ne]; omega
               clear e1
               go_wp2
               go_round
               case rel =>
                 refine ⟨k + 1, _, by omega, by go_num, rfl, ?_⟩
                 have h1 := ST.out.2.2 hgt; have h2 := HL.out
                 unfold lostB at h2 ⊢; rw [h1]; exact h2
               case measure => simp [intOf]; omega)
      · have hke : k = l.length := by omega
        have hL2 : L = lostB a n := by rw [hL, hke, List.take_length, EL.out]
        have HL := Lib.hid hL2
        clear hke hL hL2
        by_cases hout : l.length ≤ n / 32
        · have h0 : a / 2 ^ n = 0 := by rw [← EL.out]; exact right_out hl.1 hout
          have H0 := Lib.hid h0
          clear h0
          try clear hcP
          go_wp2
          go_ret2
          exact ⟨_, by rw [← HL.out]; rfl, by rw [H0.out]; exact NV.nil _, Below.refl _ _⟩
        · first
            | (exfalso; omega)
            | (have hin : n / 32 < l.length := by omega
               have HCP := Lib.hid hcP
               clear hcP
               go_wp2
               go_loopw [9, 10] (fun v i wr => ∃ (k : Nat) (o : List Nat), k ≤ l.length ∧ i = .int .i64 k ∧ wr.ownsRow w.heap.size 71 1 v o.length (lc o) ∧ RightRel l n k o ∧ Below w.heap.size w wr)
                 (fun _ i _ => l.length - (intOf i).toNat)
               case atStart => exact ⟨n / 32, [], by omega, by go_num, own_nil _ _, RightRel.start _ _, Below.refl _ _⟩
               case round =>
                 obtain ⟨k, o, hk, rfl, hown, hrel, hbel⟩ := hrel
                 have hol : o.length ≤ 1000000 := by have := hrel.1; omega
                 have hsz := hbel.size
                 have REL := Lib.hid hrel
                 clear hrel
                 by_cases hkp : k < l.length
                 · obtain ⟨x, hx⟩ : ∃ x, x = l.getD k 0 := ⟨_, rfl⟩
                   have hx1 : x < 4294967296 := by rw [hx]; exact hl.1.getD k
                   obtain ⟨y, hy⟩ : ∃ y, y = l.getD (k + 1) 0 := ⟨_, rfl⟩
                   have hy1 : y < 4294967296 := by rw [hy]; exact hl.1.getD (k + 1)
                   have hcx := (hbel.cell (p := ⟨bp, op + k, none⟩) hbp).trans (HCP.out k hkp)
                   rw [← hx] at hcx
                   have hst := REL.out.step hkp hl.1 hx hy
                   have hp1 : 1 ≤ 2 ^ (n % 32) := Nat.two_pow_pos _
                   by_cases hk1 : k + 1 < l.length
                   · have hcy := (hbel.cell (p := ⟨bp, op + (k + 1), none⟩) hbp).trans (HCP.out (k + 1) hk1)
                     rw [← hy] at hcy
                     have e2 := or_high x y hx1 hy1
                     generalize hz : x + y * 4294967296 = z at *
                     have ST := Lib.hid hst
                     clear hst hx hy hz
                     go_wp2_with (at_builtin; refine wpList_push rfl _ _ rfl w.heap.size hsz _ o rfl hown (z / 2 ^ (n % 32) % 4294967296) rfl (by simp) (by omega) ?_; intro v' w1 hown1 hb1)
                     go_roundw
                     case rel => exact ⟨k + 1, _, by omega, by go_num, hown1, ST.out, hbel.trans hb1⟩
                     case measure => simp [intOf]; omega
                   · have hy0 : y = 0 := by rw [hy]; simp [List.getD, List.getElem?_eq_none (Nat.le_of_not_lt hk1)]
                     rw [hy0, Nat.zero_mul, Nat.add_zero] at hst
                     have ST := Lib.hid hst
                     clear hst hx hy hy0
                     go_wp2_with (at_builtin; refine wpList_push rfl _ _ rfl w.heap.size hsz _ o rfl hown (x / 2 ^ (n % 32) % 4294967296) rfl (by simp) (by omega) ?_; intro v' w1 hown1 hb1)
                     go_roundw
                     case rel => exact ⟨k + 1, _, by omega, by go_num, hown1, ST.out, hbel.trans hb1⟩
                     case measure => simp [intOf]; omega
                 · have hke : k = l.length := by omega
                   have hfin : Lims o ∧ val o = a / 2 ^ n := by
                     have := REL.out; rw [hke] at this
                     have h2 := this.fin hl.1
                     rw [EL.out] at h2
                     exact h2
                   have FIN := Lib.hid hfin
                   clear hke hfin
                   go_wp2_with fail
                   refine (norm_any _ _ _ (own_lim' hown FIN.out.1)).mono ?_
                   rintro e w2 ⟨⟨v2, rfl, hn2⟩, rfl⟩
                   rw [FIN.out.2] at hn2
                   go_wp2
                   go_ret2
                   exact ⟨v2, by rw [← HL.out]; rfl, hn2, hbel⟩)
end Go.Proofs.YtdknfdncgmeimaaDoor
