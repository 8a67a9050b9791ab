/-
  SOME OF MY TEXTS in one: Dm Dn. Each says what it proves.
-/
import Derived.Test.YtofdjfdnckmmmaaGreatDoorDe
import Derived.Test.YtofdjfdnckmmmaaGreatDoorBe
import Derived.Test.YtofdjfdnckmmmaaGreatDoorBh
set_option linter.unusedVariables false
set_option linter.unusedSimpArgs false
/-
  PLAIN: decimals: a quotient rounded; digits with a point; the order of such texts.
-/
namespace Go.Proofs.YtofdjfdnckmmmaaGreatDoor
open Nt Fm

/-- a quotient, rounded -/
def rq (neg : Bool) (N D : Nat) (mode : Int) : Nat :=
  if N % D = 0 then N / D else if upB neg (decide (N / D % 2 = 1)) (sgn2 ((N % D * 2 : Nat) : Int) (D : Int)) mode = true then N / D + 1 else N / D
/-- is something lost? -/
def rc (N D : Nat) : Bool := decide (N % D ≠ 0)
theorem rq_ge (neg : Bool) (N D : Nat) (mode : Int) : N / D ≤ rq neg N D mode := by unfold rq; split <;> (try split) <;> omega
theorem rq_le (neg : Bool) (N D : Nat) (mode : Int) : rq neg N D mode ≤ N / D + 1 := by unfold rq; split <;> (try split) <;> omega
theorem up_mono {odd : Bool} {h h' : Int} (mode : Int) (hh : h ≤ h') (u : upB false odd h mode = true) : upB false odd h' mode = true := by
  unfold upB at *
  split at u
  · rename_i hm; rw [if_pos hm]; exact u
  · rename_i hm; rw [if_neg hm]
    split at u
    · rename_i hm; rw [if_pos hm]; exact u
    · rename_i hm; rw [if_neg hm]
      split at u
      · rename_i hm; rw [if_pos hm]; exact u
      · rename_i hm; rw [if_neg hm]
        split at u
        · rename_i hm; rw [if_pos hm]; rw [decide_eq_true_eq] at *; omega
        · rename_i hm; rw [if_neg hm]
          simp only [Bool.or_eq_true, Bool.and_eq_true, decide_eq_true_eq] at u ⊢
          rcases u with u | ⟨u, v⟩
          · left; omega
          · rcases Int.lt_or_eq_of_le (show 0 ≤ h' by omega) with k | k
            · left; exact k
            · right; exact ⟨k.symm, v⟩
theorem sgn2_mono {a b c d : Nat} (hb : 0 < b) (hd : 0 < d) (h : a * d ≤ c * b) : sgn2 (a : Int) (b : Int) ≤ sgn2 (c : Int) (d : Int) := by
  have k1 : b ≤ a → d ≤ c := fun hab => by
    have : b * d ≤ c * b := Nat.le_trans (Nat.mul_le_mul_right d hab) h
    rw [Nat.mul_comm c b] at this
    exact Nat.le_of_mul_le_mul_left this hb
  have k2 : b < a → d < c := fun hab => by
    have : b * d < b * c := Nat.lt_of_lt_of_le (Nat.mul_lt_mul_of_pos_right hab hd) (by rw [Nat.mul_comm b c]; exact h)
    exact Nat.lt_of_mul_lt_mul_left this
  unfold sgn2
  by_cases h1 : a < b
  · rw [if_pos (by omega)]; split <;> (try split) <;> omega
  · have := k1 (by omega)
    rw [if_neg (by omega), if_neg (show ¬ ((c : Int) < (d : Int)) by omega)]
    by_cases h2 : b < a
    · have := k2 h2
      rw [if_pos (by omega), if_pos (by omega)]; exact Int.le_refl _
    · rw [if_neg (by omega)]; split <;> omega
theorem rq_mono {N D N' D' : Nat} (hD : 0 < D) (hD' : 0 < D') (h : N * D' ≤ N' * D) (mode : Int) : rq false N D mode ≤ rq false N' D' mode := by
  have e := Nat.div_add_mod N D
  have e' := Nat.div_add_mod N' D'
  have hr := Nat.mod_lt N hD
  have hr' := Nat.mod_lt N' hD'
  have hq : N / D ≤ N' / D' := by
    rw [Nat.le_div_iff_mul_le hD']
    have h1 : N / D * D' * D ≤ N' * D := by
      rw [Nat.mul_right_comm]
      exact Nat.le_trans (Nat.mul_le_mul_right D' (Nat.div_mul_le_self N D)) h
    exact Nat.le_of_mul_le_mul_right h1 hD
  rcases Nat.lt_or_ge (N / D) (N' / D') with hlt | hge
  · exact Nat.le_trans (rq_le _ _ _ _) (Nat.le_trans hlt (rq_ge _ _ _ _))
  · have eq : N / D = N' / D' := by omega
    have hrr : N % D * D' ≤ N' % D' * D := by
      rw [← e, ← e', ← eq, Nat.add_mul, Nat.add_mul, Nat.mul_right_comm D, Nat.mul_right_comm D', Nat.mul_comm D D'] at h
      exact Nat.le_of_add_le_add_left h
    unfold rq
    by_cases h0 : N % D = 0
    · rw [if_pos h0]
      have := rq_ge false N' D' mode
      unfold rq at this
      omega
    · have h0' : N' % D' ≠ 0 := by
        intro hz
        rw [hz, Nat.zero_mul] at hrr
        have : 1 * 1 ≤ N % D * D' := Nat.mul_le_mul (by omega) hD'
        omega
      rw [if_neg h0, if_neg h0']
      have hs : sgn2 ((N % D * 2 : Nat) : Int) (D : Int) ≤ sgn2 ((N' % D' * 2 : Nat) : Int) (D' : Int) :=
        sgn2_mono hD hD' (by rw [Nat.mul_right_comm, Nat.mul_right_comm _ 2 D]; exact Nat.mul_le_mul_right 2 hrr)
      by_cases u : upB false (decide (N / D % 2 = 1)) (sgn2 ((N % D * 2 : Nat) : Int) (D : Int)) mode = true
      · rw [if_pos u, if_pos (by rw [← eq]; exact up_mono mode hs u), eq]; exact Nat.le_refl _
      · rw [if_neg u]; split <;> omega
theorem rq_down {N D : Nat} (mode : Int) : rq false N D 2 ≤ rq false N D mode := by
  have h := rq_ge false N D mode
  have e : rq false N D 2 = N / D := by
    unfold rq; split
    · rfl
    · rw [if_neg (by simp [upB])]
  omega
theorem rq_up {N D : Nat} (mode : Int) : rq false N D mode ≤ rq false N D 1 := by
  unfold rq
  split
  · exact Nat.le_refl _
  · rw [if_pos (show upB false _ _ 1 = true by simp [upB])]; split <;> omega
theorem rq_turned (neg : Bool) (N D : Nat) (mode other : Int) (h : (mode = 1 ∧ other = 2) ∨ (mode = 2 ∧ other = 1) ∨ (mode ≠ 1 ∧ mode ≠ 2 ∧ other = mode)) : rq (!neg) N D other = rq neg N D mode := by
  unfold rq
  have : ∀ odd s, upB (!neg) odd s other = upB neg odd s mode := by
    intro odd s
    unfold upB
    rcases h with ⟨rfl, rfl⟩ | ⟨rfl, rfl⟩ | ⟨h1, h2, rfl⟩
    · simp
    · simp
    · rw [if_neg h1, if_neg h2, if_neg h1, if_neg h2]
  rw [this]
/-- a point ahead of the last digits -/
def pt (s : List UInt8) (p : Nat) : List UInt8 :=
  if p = 0 then s else (List.replicate (p + 1 - s.length) 48 ++ s).take ((List.replicate (p + 1 - s.length) 48 ++ s).length - p) ++ 46 :: (List.replicate (p + 1 - s.length) 48 ++ s).drop ((List.replicate (p + 1 - s.length) 48 ++ s).length - p)
theorem pt_pad (q p : Nat) : pt (Lib.decDigits q) p = if p = 0 then Lib.decDigits q else (padK (p + 1) q).take ((padK (p + 1) q).length - p) ++ 46 :: (padK (p + 1) q).drop ((padK (p + 1) q).length - p) := rfl
theorem padK_len (k q : Nat) : (padK k q).length = max k (Lib.decDigits q).length := by unfold padK; simp; omega
theorem pt_len (q p : Nat) : (pt (Lib.decDigits q) p).length = if p = 0 then (Lib.decDigits q).length else max (p + 1) (Lib.decDigits q).length + 1 := by
  rw [pt_pad]
  split
  · rfl
  · have := padK_len (p + 1) q
    simp only [List.length_append, List.length_cons, List.length_take, List.length_drop]
    omega
/-- is it a digit? -/
def dgt (c : UInt8) : Prop := 48 ≤ c.toNat ∧ c.toNat ≤ 57
theorem dec_dgt : ∀ u, ∀ c ∈ Lib.decDigits u, dgt c := by
  intro u
  induction u using Nat.strongRecOn with
  | _ u ih =>
    by_cases h : u < 10
    · rw [dec_small h]
      intro c hc
      simp at hc; subst hc
      unfold dgt; simp [UInt8.toNat_ofNat']; omega
    · rw [dec_big h]
      intro c hc
      rw [List.mem_append] at hc
      rcases hc with hc | hc
      · exact ih (u / 10) (by omega) c hc
      · simp at hc; subst hc
        unfold dgt; simp [UInt8.toNat_ofNat']; omega
theorem padK_dgt (k u : Nat) : ∀ c ∈ padK k u, dgt c := by
  intro c hc
  unfold padK at hc
  rw [List.mem_append] at hc
  rcases hc with hc | hc
  · have := List.eq_of_mem_replicate hc; subst this; unfold dgt; decide
  · exact dec_dgt u c hc
/-- the number of some digits, behind others -/
def num (a : Nat) : List UInt8 → Nat
  | [] => a
  | c :: l => if c = 46 then num a l else num (a * 10 + (c.toNat - 48)) l
theorem num_app (a : Nat) (l m : List UInt8) : num a (l ++ m) = num (num a l) m := by
  induction l generalizing a with
  | nil => rfl
  | cons c l ih => simp only [List.cons_append, num]; split <;> exact ih _
theorem num_rep (a k : Nat) : num 0 (List.replicate k 48) = 0 := by
  induction k with
  | zero => rfl
  | succ k ih => rw [List.replicate_succ, num]; rw [if_neg (by decide)]; exact ih
theorem num_dec : ∀ u, num 0 (Lib.decDigits u) = u := by
  intro u
  induction u using Nat.strongRecOn with
  | _ u ih =>
    have key : ∀ a d, d < 10 → num a [UInt8.ofNat (48 + d)] = a * 10 + d := by
      intro a d hd
      have e : (UInt8.ofNat (48 + d)).toNat = 48 + d := by simp [UInt8.toNat_ofNat']; omega
      unfold num
      rw [if_neg (by intro h; have := congrArg UInt8.toNat h; rw [e] at this; simp at this; omega), e]
      unfold num; omega
    by_cases h : u < 10
    · rw [dec_small h, key 0 u h]; omega
    · rw [dec_big h, num_app, ih (u / 10) (by omega), key _ _ (Nat.mod_lt _ (by omega))]; omega
theorem num_pad (k u : Nat) : num 0 (padK k u) = u := by unfold padK; rw [num_app, num_rep 0, num_dec]
theorem num_pt (q p : Nat) : num 0 (pt (Lib.decDigits q) p) = q := by
  rw [pt_pad]
  split
  · exact num_dec q
  · rw [num_app]
    simp only [num, if_true]
    rw [← num_app, List.take_append_drop, num_pad]
/-- two texts of one form -/
inductive Alike : List UInt8 → List UInt8 → Prop
  | nil : Alike [] []
  | dot {l m} : Alike l m → Alike (46 :: l) (46 :: m)
  | dig {c d l m} : dgt c → dgt d → Alike l m → Alike (c :: l) (d :: m)
theorem Alike.of : ∀ {l m : List UInt8}, l.length = m.length → (∀ c ∈ l, dgt c) → (∀ c ∈ m, dgt c) → Alike l m
  | [], [], _, _, _ => .nil
  | [], _ :: _, h, _, _ => by simp at h
  | _ :: _, [], h, _, _ => by simp at h
  | c :: l, d :: m, h, h1, h2 => .dig (h1 c (by simp)) (h2 d (by simp)) (Alike.of (by simpa using h) (fun x hx => h1 x (by simp [hx])) (fun x hx => h2 x (by simp [hx])))
theorem Alike.app {l m l' m' : List UInt8} (h : Alike l m) (h' : Alike l' m') : Alike (l ++ l') (m ++ m') := by
  induction h with
  | nil => exact h'
  | dot _ ih => exact .dot ih
  | dig h1 h2 _ ih => exact .dig h1 h2 ih
theorem num_ten (a : Nat) : ∀ l : List UInt8, ∃ k, ∀ b, num b l = b * 10 ^ k + num 0 l
  | [] => ⟨0, fun b => by simp [num]⟩
  | c :: l => by
    obtain ⟨k, hk⟩ := num_ten a l
    by_cases h : c = 46
    · exact ⟨k, fun b => by rw [num, num, if_pos h, if_pos h]; exact hk b⟩
    · refine ⟨k + 1, fun b => ?_⟩
      rw [num, num, if_neg h, if_neg h, hk (b * 10 + _), hk (0 * 10 + _), Nat.zero_mul, Nat.zero_add, Nat.add_mul, Nat.pow_succ, Nat.mul_assoc, Nat.mul_comm 10, Nat.add_assoc]
theorem alike_num {l m : List UInt8} (h : Alike l m) : ∀ a b, a < b → num a l < num b m := by
  induction h with
  | nil => intro a b h; exact h
  | dot _ ih => intro a b h; rw [num, num, if_pos rfl, if_pos rfl]; exact ih a b h
  | dig h1 h2 _ ih =>
    intro a b h
    rw [num, num, if_neg (by intro e; subst e; revert h1; unfold dgt; decide), if_neg (by intro e; subst e; revert h2; unfold dgt; decide)]
    apply ih
    unfold dgt at h1 h2
    omega
theorem alike_lt {l m : List UInt8} (h : Alike l m) : ∀ a, l < m → num a l < num a m := by
  induction h with
  | nil => intro a h; exact absurd h (List.lt_irrefl _)
  | dot _ ih =>
    intro a h
    rw [num, num, if_pos rfl, if_pos rfl]
    rw [List.cons_lt_cons_iff] at h
    rcases h with h | ⟨_, h⟩
    · exact absurd h (UInt8.lt_irrefl _)
    · exact ih a h
  | @dig c d l m h1 h2 h3 ih =>
    intro a h
    rw [num, num, if_neg (by intro e; subst e; revert h1; unfold dgt; decide), if_neg (by intro e; subst e; revert h2; unfold dgt; decide)]
    rw [List.cons_lt_cons_iff] at h
    unfold dgt at h1 h2
    rcases h with h | ⟨rfl, h⟩
    · rw [UInt8.lt_iff_toNat_lt] at h
      exact alike_num h3 _ _ (by omega)
    · exact ih _ h
/-- texts of digits with so many behind the point: a text that is less, by its length or by its signs, is of less -/
def ltB (s t : List UInt8) : Prop := s.length < t.length ∨ (s.length = t.length ∧ s < t)
theorem dec_mono {u v : Nat} (h : u ≤ v) : (Lib.decDigits u).length ≤ (Lib.decDigits v).length := by
  have h1 : v < 10 ^ (Lib.decDigits v).length := by rw [Lib.decDigits_length]; exact Lib.lt_pow_nDigits v
  exact dec_len_le _ u (dec_len_pos v) (Nat.lt_of_le_of_lt h h1)
theorem pt_order {q q' : Nat} (p : Nat) (h : q ≤ q') : ¬ ltB (pt (Lib.decDigits q') p) (pt (Lib.decDigits q) p) := by
  have hm := dec_mono h
  intro hl
  rcases hl with hl | ⟨he, hl⟩
  · rw [pt_len, pt_len] at hl
    split at hl <;> omega
  · have ha : Alike (pt (Lib.decDigits q') p) (pt (Lib.decDigits q) p) := by
      rw [pt_len, pt_len] at he
      rw [pt_pad, pt_pad]
      split
      · rename_i hp
        rw [if_pos hp, if_pos hp] at he
        exact Alike.of he (dec_dgt _) (dec_dgt _)
      · rename_i hp
        rw [if_neg hp, if_neg hp] at he
        have l1 := padK_len (p + 1) q
        have l2 := padK_len (p + 1) q'
        have hlen : (padK (p + 1) q').length = (padK (p + 1) q).length := by omega
        refine Alike.app (Alike.of (by simp [hlen]) (fun c hc => padK_dgt _ _ c (List.mem_of_mem_take hc)) (fun c hc => padK_dgt _ _ c (List.mem_of_mem_take hc)))
          (.dot (Alike.of (by simp [hlen]) (fun c hc => padK_dgt _ _ c (List.mem_of_mem_drop hc)) (fun c hc => padK_dgt _ _ c (List.mem_of_mem_drop hc))))
    have := alike_lt ha 0 hl
    rw [num_pt, num_pt] at this
    omega
end Go.Proofs.YtofdjfdnckmmmaaGreatDoor

/-
  PLAIN: decimals: what a number is to so many places, turned, of more, to all its places; the digits of a number.
-/
namespace Go.Proofs.YtofdjfdnckmmmaaGreatDoor
open Nt Fm Fl

/-- a number times 10^t, above -/
def dN (d : D) (t : Int) : Nat := d.m * 10 ^ t.toNat * 2 ^ d.e.toNat
/-- .. below -/
def dD (d : D) (t : Int) : Nat := 10 ^ (-t).toNat * 2 ^ (-d.e).toNat
theorem dD_pos (d : D) (t : Int) : 0 < dD d t := Nat.mul_pos (Nat.pow_pos (by omega)) (Nat.two_pow_pos _)
/-- a number times 10^t, rounded -/
def dQ (d : D) (t mode : Int) : Nat := rq d.neg (dN d t) (dD d t) mode
def dC (d : D) (t : Int) : Bool := rc (dN d t) (dD d t)
theorem dQ_zero {d : D} (h : d.m = 0) (t mode : Int) : dQ d t mode = 0 := by
  unfold dQ dN rq; rw [h]; simp
theorem dQ_opp (d : D) (t mode other : Int) (h : (mode = 1 ∧ other = 2) ∨ (mode = 2 ∧ other = 1) ∨ (mode ≠ 1 ∧ mode ≠ 2 ∧ other = mode)) : dQ (opp d) t other = dQ d t mode := by
  by_cases hm : d.m = 0
  · rw [dQ_zero hm, dQ_zero (d := opp d) hm]
  · unfold dQ
    have : (opp d).neg = !d.neg := by unfold opp; simp [hm]
    rw [this]
    exact rq_turned d.neg _ _ _ _ h
theorem dC_opp (d : D) (t : Int) : dC (opp d) t = dC d t := rfl
theorem cross {m m' : Nat} {e e' : Int} (K : Nat) (h1 : 0 ≤ e + K) (h2 : 0 ≤ e' + K) (h : m * 2 ^ (e + K).toNat ≤ m' * 2 ^ (e' + K).toNat) : m * 2 ^ e.toNat * 2 ^ (-e').toNat ≤ m' * 2 ^ e'.toNat * 2 ^ (-e).toNat := by
  have h3 := Nat.mul_le_mul_right (2 ^ ((-e).toNat + (-e').toNat)) h
  rw [Nat.mul_assoc, Nat.mul_assoc, ← Nat.pow_add, ← Nat.pow_add] at h3
  rw [Nat.mul_assoc, Nat.mul_assoc, ← Nat.pow_add, ← Nat.pow_add]
  rw [show (e + K).toNat + ((-e).toNat + (-e').toNat) = e.toNat + (-e').toNat + K by omega, show (e' + K).toNat + ((-e).toNat + (-e').toNat) = e'.toNat + (-e).toNat + K by omega, Nat.pow_add, Nat.pow_add 2 (e'.toNat + _), ← Nat.mul_assoc, ← Nat.mul_assoc] at h3
  exact Nat.le_of_mul_le_mul_right h3 (Nat.two_pow_pos K)
theorem dQ_mono {d d' : D} (K : Nat) (h1 : 0 ≤ d.e + K) (h2 : 0 ≤ d'.e + K) (h : d.m * 2 ^ (d.e + K).toNat ≤ d'.m * 2 ^ (d'.e + K).toNat) (g : d.neg = false) (g' : d'.neg = false) (t mode : Int) : dQ d t mode ≤ dQ d' t mode := by
  unfold dQ
  rw [g, g']
  apply rq_mono (dD_pos _ _) (dD_pos _ _)
  have hc := cross K h1 h2 h
  unfold dN dD
  have e1 : d.m * 10 ^ t.toNat * 2 ^ d.e.toNat * (10 ^ (-t).toNat * 2 ^ (-d'.e).toNat) = d.m * 2 ^ d.e.toNat * 2 ^ (-d'.e).toNat * (10 ^ t.toNat * 10 ^ (-t).toNat) := by
    simp only [Nat.mul_assoc, Nat.mul_comm, Nat.mul_left_comm]
  have e2 : d'.m * 10 ^ t.toNat * 2 ^ d'.e.toNat * (10 ^ (-t).toNat * 2 ^ (-d.e).toNat) = d'.m * 2 ^ d'.e.toNat * 2 ^ (-d.e).toNat * (10 ^ t.toNat * 10 ^ (-t).toNat) := by
    simp only [Nat.mul_assoc, Nat.mul_comm, Nat.mul_left_comm]
  rw [e1, e2]
  exact Nat.mul_le_mul_right _ hc
theorem dNorm_turned (neg : Bool) (m : Nat) (e : Int) : norm (!neg) m e = opp (norm neg m e) := by
  unfold norm
  by_cases h : m = 0
  · rw [if_pos h, if_pos h]; rfl
  · rw [if_neg h, if_neg h]
    obtain ⟨q, h1, h2⟩ := ctz_spec h
    have hp := Nat.two_pow_pos (ctz m)
    have : m / 2 ^ ctz m = q := by
      conv => lhs; arg 1; rw [h1]
      exact Nat.mul_div_cancel _ hp
    rw [this]
    unfold opp
    simp only
    rw [decide_eq_true (show q ≠ 0 by omega), Bool.and_true]
theorem dVal_fneg {x : Int} (x0 : 0 ≤ x) (x1 : x ≤ 18446744073709551615) : valD (fneg x) = opp (valD x) := by
  have h1 : fexp (fneg x) = fexp x := by unfold fexp fneg; split <;> omega
  have h2 : ffr (fneg x) = ffr x := by unfold ffr fneg; split <;> omega
  have h3 : fng (fneg x) = !fng x := by
    unfold fng
    by_cases h : 9223372036854775808 ≤ x
    · have : ¬ 9223372036854775808 ≤ fneg x := by unfold fneg; rw [if_pos h]; omega
      simp [h, this]
    · have : 9223372036854775808 ≤ fneg x := by unfold fneg; rw [if_neg h]; omega
      simp [h, this]
  unfold valD
  rw [h1, h2, h3, dNorm_turned]
theorem dHasV_fneg {x : Int} (x0 : 0 ≤ x) (x1 : x ≤ 18446744073709551615) : hasV (fneg x) = hasV x := by
  have : fabs (fneg x) = fabs x := by unfold fabs fneg; split <;> omega
  unfold hasV; rw [this]
theorem dVal_mag {x : Int} (x0 : 0 ≤ x) (x1 : x ≤ 18446744073709551615) (hv : hasV x = true) : mag (fabs x).toNat = (valD x).m * 2 ^ ((valD x).e + ((1074 : Nat) : Int)).toNat := by
  have hv' : fabs x < 9218868437227405312 := by unfold hasV at hv; simpa using hv
  rcases valD_tt x x0 x1 0 with h | h
  · unfold tt at h
    rw [Nat.pow_zero, Nat.mul_one] at h
    rw [← h]; simp
  · omega
/-- of what is more no less comes -/
theorem dQ_order {x y : Int} (x0 : 0 ≤ x) (y1 : y ≤ 18446744073709551615) (hx : hasV x = true) (hy : hasV y = true) (h : x ≤ y) (hs : y < 9223372036854775808) (t mode : Int) : dQ (valD x) t mode ≤ dQ (valD y) t mode := by
  have fx := valD_facts x x0 (by omega)
  have fy := valD_facts y (by omega) y1
  have gx : fng x = false := by unfold fng; rw [decide_eq_false_iff_not]; omega
  have gy : fng y = false := by unfold fng; rw [decide_eq_false_iff_not]; omega
  have g : ∀ z, (valD z).Nf → ((valD z).m ≠ 0 → (valD z).neg = fng z) → fng z = false → (valD z).neg = false := by
    intro z h1 h2 h3
    rcases h1 with h1 | h1
    · rw [h1]; rfl
    · rw [h2 (by omega), h3]
  refine dQ_mono 1074 (by omega) (by omega) ?_ (g x fx.1 fx.2.2.2.2 gx) (g y fy.1 fy.2.2.2.2 gy) t mode
  rw [← dVal_mag x0 (by omega) hx, ← dVal_mag (by omega) y1 hy]
  apply mag_mono
  have e1 : fabs x = x := by unfold fabs; omega
  have e2 : fabs y = y := by unfold fabs; omega
  omega
/-- the sign -/
def sgS (x : Int) : List UInt8 := if 9223372036854775808 ≤ x then [45] else []
/-- what Fixed tells: the error -/
def fxE (x places mode : Int) : Int := if hasV x = true then (if (0 ≤ mode ∧ mode ≤ 4) ∧ 0 ≤ places ∧ places ≤ 1100 then 0 else 1) else 4
/-- .. the text -/
def fxS (x places mode : Int) : List UInt8 := if fxE x places mode = 0 then sgS x ++ pt (Lib.decDigits (dQ (valD x) places mode)) places.toNat else []
/-- .. whether something is lost -/
def fxC (x places mode : Int) : Bool := decide (fxE x places mode = 0) && dC (valD x) places
theorem fxE_cases (x places mode : Int) : (hasV x = false ∧ fxE x places mode = 4) ∨ (hasV x = true ∧ ¬ ((0 ≤ mode ∧ mode ≤ 4) ∧ 0 ≤ places ∧ places ≤ 1100) ∧ fxE x places mode = 1) ∨ (hasV x = true ∧ ((0 ≤ mode ∧ mode ≤ 4) ∧ 0 ≤ places ∧ places ≤ 1100) ∧ fxE x places mode = 0) := by
  unfold fxE
  cases hasV x
  · left; simp
  · right
    by_cases h : (0 ≤ mode ∧ mode ≤ 4) ∧ 0 ≤ places ∧ places ≤ 1100
    · right; exact ⟨rfl, h, by rw [if_pos rfl, if_pos h]⟩
    · left; exact ⟨rfl, h, by rw [if_pos rfl, if_neg h]⟩
/-- with more places: noughts behind -/
theorem pad_more (k q : Nat) (hk : 1 ≤ k) : padK (k + 1) q = padK k (q / 10) ++ [UInt8.ofNat (48 + q % 10)] := by
  by_cases h : q < 10 ^ (k + 1)
  · exact pad_succ k q hk h
  · have h10 : 10 ≤ q := by
      have : 10 ^ 1 ≤ 10 ^ (k + 1) := Nat.pow_le_pow_right (by omega) (by omega)
      omega
    unfold padK
    rw [dec_big (by omega), List.length_append, List.length_singleton, ← List.append_assoc]
    rw [show k + 1 - ((Lib.decDigits (q / 10)).length + 1) = k - (Lib.decDigits (q / 10)).length by omega]
theorem pad_tens (k q : Nat) (hk : 1 ≤ k) : ∀ j, padK (k + j) (q * 10 ^ j) = padK k q ++ List.replicate j 48
  | 0 => by simp
  | j + 1 => by
    rw [show k + (j + 1) = k + j + 1 by omega, pad_more _ _ (by omega), Nat.pow_succ, ← Nat.mul_assoc, Nat.mul_div_cancel _ (by omega), Nat.mul_mod_left, pad_tens k q hk j, List.replicate_succ']
    simp
theorem dec_pad (q : Nat) : Lib.decDigits q = padK 1 q := by
  have := dec_len_pos q
  unfold padK
  rw [show 1 - (Lib.decDigits q).length = 0 by omega]; rfl
theorem pt_tens (q p j : Nat) : pt (Lib.decDigits (q * 10 ^ j)) (p + j) = pt (Lib.decDigits q) p ++ (if p = 0 ∧ 0 < j then [46] else []) ++ List.replicate j 48 := by
  rw [pt_pad, pt_pad]
  by_cases hj : j = 0
  · subst hj; simp
  · rw [if_neg (by omega), show p + j + 1 = p + 1 + j by omega, pad_tens (p + 1) q (by omega) j]
    have hl : (padK (p + 1) q ++ List.replicate j 48).length - (p + j) = (padK (p + 1) q).length - p := by
      have := padK_len (p + 1) q
      rw [List.length_append, List.length_replicate]; omega
    rw [hl, List.take_append_of_le_length (by omega), List.drop_append_of_le_length (by omega)]
    by_cases hp : p = 0
    · subst hp
      rw [if_pos rfl, if_pos ⟨rfl, by omega⟩, dec_pad q]
      simp
    · rw [if_neg hp, if_neg (by omega)]
      simp
/-- all the places of a number -/
def pl (d : D) : Nat := (-d.e).toNat
theorem ten_two (n : Nat) : 10 ^ n = 5 ^ n * 2 ^ n := by rw [← Nat.mul_pow]
theorem dN_nat (d : D) (p : Nat) : dN d (p : Int) = d.m * 10 ^ p * 2 ^ d.e.toNat := by unfold dN; rw [Int.toNat_natCast]
theorem dD_nat (d : D) (p : Nat) : dD d (p : Int) = 2 ^ pl d := by unfold dD pl; rw [show (-(p : Int)).toNat = 0 by omega, Nat.pow_zero, Nat.one_mul]
/-- the digits of it all -/
def qA (d : D) : Nat := d.m * 5 ^ pl d * 2 ^ d.e.toNat
theorem dN_more (d : D) (j : Nat) : dN d ((pl d + j : Nat) : Int) = qA d * 10 ^ j * 2 ^ pl d := by
  rw [dN_nat, Nat.pow_add, ten_two (pl d)]
  unfold qA
  simp only [Nat.mul_assoc, Nat.mul_comm, Nat.mul_left_comm]
theorem dQ_more (d : D) (j : Nat) (mode : Int) : dQ d ((pl d + j : Nat) : Int) mode = qA d * 10 ^ j ∧ dC d ((pl d + j : Nat) : Int) = false := by
  unfold dQ dC rq rc
  rw [dD_nat, dN_more, Nat.mul_mod_left, if_pos rfl, Nat.mul_div_cancel _ (Nat.two_pow_pos _)]
  simp
theorem odd_mul {a b : Nat} (ha : a % 2 = 1) (hb : b % 2 = 1) : a * b % 2 = 1 := by rw [Nat.mul_mod, ha, hb]
theorem five_odd : ∀ p, 5 ^ p % 2 = 1
  | 0 => rfl
  | p + 1 => by rw [Nat.pow_succ]; exact odd_mul (five_odd p) (by decide)
theorem dC_less {d : D} (hn : d.Nf) {p : Nat} (hp : p < pl d) : dC d (p : Int) = true := by
  have he : d.e.toNat = 0 := by unfold pl at hp; omega
  have hm : d.m % 2 = 1 := by
    rcases hn with hn | hn
    · subst hn; unfold pl nz at hp; simp at hp
    · exact hn
  unfold dC rc
  rw [dD_nat, dN_nat, he, Nat.pow_zero, Nat.mul_one, decide_eq_true_eq]
  intro h
  have h1 := Nat.dvd_of_mod_eq_zero h
  obtain ⟨j, hj⟩ : ∃ j, pl d = p + 1 + j := ⟨pl d - (p + 1), by omega⟩
  rw [hj, ten_two, ← Nat.mul_assoc, Nat.pow_add, Nat.pow_succ, Nat.mul_assoc (2 ^ p), Nat.mul_comm (d.m * 5 ^ p)] at h1
  have h2 := Nat.dvd_of_mul_dvd_mul_left (Nat.two_pow_pos p) h1
  have h3 : 2 ∣ d.m * 5 ^ p := Nat.dvd_trans ⟨2 ^ j, rfl⟩ h2
  have h4 := odd_mul hm (five_odd p)
  omega
/-- what Exact tells -/
def exS (x : Int) : List UInt8 := if hasV x = true then sgS x ++ pt (Lib.decDigits (qA (valD x))) (pl (valD x)) else []
def exE (x : Int) : Int := if hasV x = true then 0 else 4
end Go.Proofs.YtofdjfdnckmmmaaGreatDoor
