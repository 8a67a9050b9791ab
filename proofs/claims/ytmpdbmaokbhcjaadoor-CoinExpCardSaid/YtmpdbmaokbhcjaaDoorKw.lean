/-
  PLAIN: how often something is told, of all lists of so many bits; no number below n is drawn more often than another one.
-/
import Derived.Test.YtmpdbmaokbhcjaaDoorKq
set_option linter.unusedVariables false
set_option linter.unusedSimpArgs false
namespace Go.Proofs.YtmpdbmaokbhcjaaDoor.Kn

/-- of how many lists of m bits P holds -/
def cntL : Nat → (List Bool → Bool) → Nat
  | 0, P => if P [] = true then 1 else 0
  | m + 1, P => cntL m (fun l => P (false :: l)) + cntL m (fun l => P (true :: l))
theorem cntL_const (b : Bool) : ∀ m, cntL m (fun _ => b) = if b = true then 2 ^ m else 0
  | 0 => rfl
  | m + 1 => by
    unfold cntL; rw [cntL_const b m]
    cases b
    · rfl
    · simp only [if_true, Nat.pow_succ]; omega
theorem cntL_congr {P Q : List Bool → Bool} (h : ∀ l, P l = Q l) (m : Nat) : cntL m P = cntL m Q := by rw [show P = Q from funext h]
/-- the bits of a number, the first one the highest -/
def blN (k t : Nat) : List Bool := (List.range k).map fun i => t.testBit (k - 1 - i)
def cntR (N : Nat) (f : Nat → Bool) : Nat := ((List.range N).filter f).length
theorem cntR_succ (N : Nat) (f : Nat → Bool) : cntR (N + 1) f = cntR N f + if f N = true then 1 else 0 := by
  unfold cntR
  rw [List.range_succ, List.filter_append, List.length_append]
  congr 1
  by_cases h : f N = true
  · rw [if_pos h]; simp [h]
  · rw [if_neg h]; simp [h]
theorem cntR_congr {f g : Nat → Bool} : ∀ N, (∀ t, t < N → f t = g t) → cntR N f = cntR N g
  | 0, _ => rfl
  | N + 1, h => by rw [cntR_succ, cntR_succ, cntR_congr N (fun t ht => h t (by omega)), h N (by omega)]
theorem cntR_add (a : Nat) (f : Nat → Bool) : ∀ b, cntR (a + b) f = cntR a f + cntR b (fun t => f (a + t))
  | 0 => rfl
  | b + 1 => by rw [← Nat.add_assoc, cntR_succ, cntR_succ, cntR_add a f b]; omega
theorem bl_succ (k t : Nat) : blN (k + 1) t = t.testBit k :: blN k (t % 2 ^ k) := by
  unfold blN
  rw [List.range_succ_eq_map, List.map_cons, List.map_map]
  congr 1
  refine List.map_congr_left (fun i hi => ?_)
  have hi := List.mem_range.1 hi
  show t.testBit (k + 1 - 1 - (i + 1)) = (t % 2 ^ k).testBit (k - 1 - i)
  rw [Nat.testBit_mod_two_pow, show k + 1 - 1 - (i + 1) = k - 1 - i by omega, decide_eq_true (show k - 1 - i < k by omega), Bool.true_and]
theorem cnt_all (P : List Bool → Bool) : ∀ k, ∀ P : List Bool → Bool, cntR (2 ^ k) (fun t => P (blN k t)) = cntL k P
  | 0, P => by
    show cntR (0 + 1) _ = _
    rw [cntR_succ]; show 0 + _ = _
    rw [Nat.zero_add]; rfl
  | k + 1, P => by
    rw [Nat.pow_succ, Nat.mul_two, cntR_add]
    unfold cntL
    rw [← cnt_all P k (fun l => P (false :: l)), ← cnt_all P k (fun l => P (true :: l))]
    congr 1
    · refine cntR_congr _ (fun t ht => ?_)
      rw [bl_succ, Nat.testBit_lt_two_pow ht, Nat.mod_eq_of_lt ht]
    · refine cntR_congr _ (fun t ht => ?_)
      rw [bl_succ, Nat.testBit_two_pow_add_eq, Nat.testBit_lt_two_pow ht, Nat.add_mod_left, Nat.mod_eq_of_lt ht]; rfl
def sumR (N : Nat) (f : Nat → Nat) : Nat := ((List.range N).map f).sum
theorem sumR_succ (N : Nat) (f : Nat → Nat) : sumR (N + 1) f = sumR N f + f N := by
  unfold sumR; rw [List.range_succ, List.map_append, List.sum_append]; simp
theorem sumR_add (a : Nat) (f : Nat → Nat) : ∀ b, sumR (a + b) f = sumR a f + sumR b (fun t => f (a + t))
  | 0 => rfl
  | b + 1 => by rw [← Nat.add_assoc, sumR_succ, sumR_succ, sumR_add a f b]; omega
theorem sumR_congr {f g : Nat → Nat} : ∀ N, (∀ t, t < N → f t = g t) → sumR N f = sumR N g
  | 0, _ => rfl
  | N + 1, h => by rw [sumR_succ, sumR_succ, sumR_congr N (fun t ht => h t (by omega)), h N (by omega)]
theorem take_cnt (G : Nat → List Bool → Bool) : ∀ (k m x : Nat), cntL m (fun l => match takeB k x l with | none => false | some (v, r) => G v r) = if m < k then 0 else sumR (2 ^ k) (fun j => cntL (m - k) (G (x * 2 ^ k + j)))
  | 0, m, x => by
    rw [if_neg (by omega)]
    show cntL m (fun l => G x l) = sumR (0 + 1) _
    rw [sumR_succ]; simp [sumR]
  | k + 1, 0, x => by rw [if_pos (by omega)]; rfl
  | k + 1, m + 1, x => by
    have h0 := take_cnt G k m (2 * x)
    have h1 := take_cnt G k m (2 * x + 1)
    show cntL m (fun l => match takeB k (2 * x + 0) l with | none => false | some (v, r) => G v r) + cntL m (fun l => match takeB k (2 * x + 1) l with | none => false | some (v, r) => G v r) = _
    rw [Nat.add_zero, h0, h1]
    by_cases hm : m < k
    · rw [if_pos hm, if_pos hm, if_pos (by omega)]
    · rw [if_neg hm, if_neg hm, if_neg (by omega), Nat.pow_succ, Nat.mul_two, sumR_add]
      congr 1
      · refine sumR_congr _ (fun t _ => ?_)
        rw [show m + 1 - (k + 1) = m - k by omega, show 2 * x * 2 ^ k + t = x * (2 ^ k + 2 ^ k) + t by rw [← Nat.mul_two, Nat.mul_comm (2 ^ k) 2, ← Nat.mul_assoc, Nat.mul_comm x 2]]
      · refine sumR_congr _ (fun t _ => ?_)
        rw [show m + 1 - (k + 1) = m - k by omega, show (2 * x + 1) * 2 ^ k + t = x * (2 ^ k + 2 ^ k) + (2 ^ k + t) by rw [Nat.add_mul, ← Nat.mul_two, Nat.mul_comm (2 ^ k) 2, ← Nat.mul_assoc, Nat.mul_comm x 2]; omega]
theorem sum_pick (n x A c : Nat) (hx : x < n) : ∀ N, sumR N (fun v => if v < n then (if v = x then A else 0) else c) = (if x < N then A else 0) + (N - n) * c
  | 0 => by simp [sumR]
  | N + 1 => by
    rw [sumR_succ, sum_pick n x A c hx N]
    by_cases h1 : N < n
    · rw [if_pos h1, show N - n = 0 by omega, show N + 1 - n = 0 by omega]
      by_cases h2 : N = x
      · subst h2; rw [if_neg (by omega), if_pos rfl, if_pos (by omega)]; omega
      · rw [if_neg h2]
        by_cases h3 : x < N
        · rw [if_pos h3, if_pos (by omega)]; omega
        · rw [if_neg h3, if_neg (by omega)]; omega
    · rw [if_neg h1, if_pos (by omega), if_pos (by omega), show N + 1 - n = (N - n) + 1 by omega, Nat.add_mul]; omega
/-- no number below n is drawn more often than another one -/
theorem below_even {n k : Nat} (hn : n ≤ 2 ^ k) : ∀ (f m x y : Nat), x < n → y < n → cntL m (fun l => (belowF n k f l).map (·.1) == some x) = cntL m (fun l => (belowF n k f l).map (·.1) == some y)
  | 0, m, x, y, hx, hy => rfl
  | f + 1, m, x, y, hx, hy => by
    have key : ∀ z, z < n → cntL m (fun l => (belowF n k (f + 1) l).map (·.1) == some z) =
        if m < k then 0 else sumR (2 ^ k) (fun v => if v < n then (if v = z then 2 ^ (m - k) else 0) else cntL (m - k) (fun l => (belowF n k f l).map (·.1) == some x)) := by
      intro z hz
      have e := take_cnt (fun v r => if v < n then (v == z) else (belowF n k f r).map (·.1) == some z) k m 0
      rw [cntL_congr (Q := fun l => match takeB k 0 l with | none => false | some (v, r) => if v < n then (v == z) else (belowF n k f r).map (·.1) == some z) (fun l => ?_) m, e]
      · by_cases hm : m < k
        · rw [if_pos hm, if_pos hm]
        · rw [if_neg hm, if_neg hm]
          refine sumR_congr _ (fun v _ => ?_)
          rw [Nat.zero_mul, Nat.zero_add]
          by_cases hv : v < n
          · rw [if_pos hv]
            rw [cntL_congr (Q := fun _ => (v == z)) (fun l => by rw [if_pos hv]), cntL_const]
            by_cases hvz : v = z
            · rw [if_pos hvz, if_pos (by rw [beq_iff_eq]; exact hvz)]
            · rw [if_neg hvz, if_neg (by rw [beq_iff_eq]; exact hvz)]
          · rw [if_neg hv]
            rw [cntL_congr (Q := fun l => (belowF n k f l).map (·.1) == some z) (fun l => by rw [if_neg hv])]
            exact below_even hn f (m - k) z x hz hx
      · show ((belowF n k (f + 1) l).map (·.1) == some z) = _
        rw [belowF_s]
        cases takeB k 0 l with
        | none => rfl
        | some p =>
          obtain ⟨v, r⟩ := p
          by_cases hv : v < n
          · simp only [if_pos hv]; rfl
          · simp only [if_neg hv]
    rw [key x hx, key y hy]
    by_cases hm : m < k
    · rw [if_pos hm, if_pos hm]
    · rw [if_neg hm, if_neg hm, sum_pick n x _ _ hx, sum_pick n y _ _ hy, if_pos (by omega), if_pos (by omega)]
end Go.Proofs.YtmpdbmaokbhcjaaDoor.Kn
