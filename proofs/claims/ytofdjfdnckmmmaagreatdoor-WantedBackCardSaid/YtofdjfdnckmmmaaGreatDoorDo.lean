/-
  PLAIN: so many digits of a number: how many they are, the first one; the texts that strings.Cut, Replace, Trim tell of them.
-/
import Derived.Test.YtofdjfdnckmmmaaGreatDoorDk
import Derived.Lib.IndexMore
import Derived.Lib.Replace
import Derived.Lib.SlTrimSet
import Derived.Lib.Strings
set_option linter.unusedVariables false
set_option linter.unusedSimpArgs false
namespace Go.Proofs.YtofdjfdnckmmmaaGreatDoor
open Nt Fm Fl

theorem d_shift (d : D) (a : Int) (k : Nat) : dN d (a + k) * dD d a = dN d a * 10 ^ k * dD d (a + k) := by
  unfold dN dD
  have h : 10 ^ (a + k).toNat * 10 ^ (-a).toNat = 10 ^ a.toNat * 10 ^ k * 10 ^ (-(a + k)).toNat := by
    rw [← Nat.pow_add, ← Nat.pow_add, ← Nat.pow_add]
    congr 1; omega
  have e1 : d.m * 10 ^ (a + k).toNat * 2 ^ d.e.toNat * (10 ^ (-a).toNat * 2 ^ (-d.e).toNat) = (10 ^ (a + k).toNat * 10 ^ (-a).toNat) * (d.m * 2 ^ d.e.toNat * 2 ^ (-d.e).toNat) := by
    simp only [Nat.mul_assoc, Nat.mul_comm, Nat.mul_left_comm]
  have e2 : d.m * 10 ^ a.toNat * 2 ^ d.e.toNat * 10 ^ k * (10 ^ (-(a + k)).toNat * 2 ^ (-d.e).toNat) = (10 ^ a.toNat * 10 ^ k * 10 ^ (-(a + k)).toNat) * (d.m * 2 ^ d.e.toNat * 2 ^ (-d.e).toNat) := by
    simp only [Nat.mul_assoc, Nat.mul_comm, Nat.mul_left_comm]
  rw [e1, e2, h]
/-- is a number, not 0, at least 10^p, less than ten times as much? -/
def IsLg (d : D) (p : Int) : Prop := dD d (-p) ≤ dN d (-p) ∧ dN d (-(p + 1)) < dD d (-(p + 1))
theorem lg_ge {d : D} {p : Int} (h : IsLg d p) (k : Nat) : 10 ^ k * dD d (-p + k) ≤ dN d (-p + k) := by
  have h1 := d_shift d (-p) k
  have h2 := Nat.mul_le_mul_right (10 ^ k * dD d (-p + k)) h.1
  rw [← Nat.mul_assoc (dN d (-p)), ← h1, Nat.mul_comm (dD d (-p))] at h2
  exact Nat.le_of_mul_le_mul_right h2 (dD_pos d _)
theorem lg_lt {d : D} {p : Int} (h : IsLg d p) (k : Nat) : dN d (-(p + 1) + k) < 10 ^ k * dD d (-(p + 1) + k) := by
  have h1 := d_shift d (-(p + 1)) k
  have h2 := Nat.mul_lt_mul_of_pos_right h.2 (Nat.mul_pos (Nat.pow_pos (show 0 < 10 by omega) (n := k)) (dD_pos d (-(p + 1) + k)))
  rw [← Nat.mul_assoc (dN d (-(p + 1))), ← h1, Nat.mul_comm (dD d (-(p + 1)))] at h2
  exact Nat.lt_of_mul_lt_mul_right h2
/-- the digits, as a number -/
theorem dg_bd {d : D} {p : Int} (h : IsLg d p) (g : Nat) (hg : 1 ≤ g) (mode : Int) : 10 ^ (g - 1) ≤ dQ d ((g : Int) - 1 - p) mode ∧ dQ d ((g : Int) - 1 - p) mode ≤ 10 ^ g := by
  have h1 := lg_ge h (g - 1)
  have h2 := lg_lt h g
  rw [show -p + ((g - 1 : Nat) : Int) = (g : Int) - 1 - p by omega] at h1
  rw [show -(p + 1) + (g : Int) = (g : Int) - 1 - p by omega] at h2
  have hp := dD_pos d ((g : Int) - 1 - p)
  unfold dQ
  constructor
  · exact Nat.le_trans ((Nat.le_div_iff_mul_le hp).2 h1) (rq_ge _ _ _ _)
  · exact Nat.le_trans (rq_le _ _ _ _) ((Nat.div_lt_iff_lt_mul hp).2 h2)
/-- the text of so many digits -/
def dgS (q g : Nat) : List UInt8 := if (Lib.decDigits q).length > g then (Lib.decDigits q).take g else Lib.decDigits q
theorem dec_len_ge : ∀ (k q : Nat), 10 ^ k ≤ q → k + 1 ≤ (Lib.decDigits q).length
  | 0, q, _ => dec_len_pos q
  | k + 1, q, h => by
    have h10 : 0 < 10 ^ k := Nat.pow_pos (by omega)
    rw [Nat.pow_succ] at h
    rw [dec_big (by omega), List.length_append, List.length_singleton]
    have := dec_len_ge k (q / 10) (by rw [Nat.le_div_iff_mul_le (by omega)]; exact h)
    omega
theorem dec_head : ∀ u, 0 < u → ∃ c l, Lib.decDigits u = c :: l ∧ c ≠ 48 := by
  intro u
  induction u using Nat.strongRecOn with
  | _ u ih =>
    intro hu
    by_cases h : u < 10
    · rw [dec_small h]
      refine ⟨_, _, rfl, ?_⟩
      intro e
      have := congrArg UInt8.toNat e
      simp [UInt8.toNat_ofNat'] at this
      omega
    · obtain ⟨c, l, h1, h2⟩ := ih (u / 10) (by omega) (by omega)
      rw [dec_big h, h1]
      exact ⟨c, l ++ _, rfl, h2⟩
theorem dgS_spec {q g : Nat} (hg : 1 ≤ g) (h1 : 10 ^ (g - 1) ≤ q) (h2 : q ≤ 10 ^ g) : (dgS q g).length = g ∧ (∀ c ∈ dgS q g, dgt c) ∧ ∃ c l, dgS q g = c :: l ∧ c ≠ 48 := by
  have hl := dec_len_ge (g - 1) q h1
  have hq : 0 < q := Nat.lt_of_lt_of_le (Nat.pow_pos (by omega)) h1
  obtain ⟨c, l, e1, e2⟩ := dec_head q hq
  unfold dgS
  split
  · rename_i h
    refine ⟨by rw [List.length_take]; omega, fun c hc => dec_dgt q c (List.mem_of_mem_take hc), c, l.take (g - 1), ?_, e2⟩
    rw [e1]
    obtain ⟨g', rfl⟩ : ∃ g', g = g' + 1 := ⟨g - 1, by omega⟩
    rfl
  · exact ⟨by omega, dec_dgt q, c, l, e1, e2⟩
/-- an exponent in two digits at least -/
def pwS (p : Int) : List UInt8 := (if p < 0 then 45 else 43) :: ((if p.natAbs < 10 then [48] else []) ++ Lib.decDigits p.natAbs)
theorem pwS_len (p : Int) : 3 ≤ (pwS p).length := by
  unfold pwS
  have h1 := dec_len_pos p.natAbs
  by_cases h : p.natAbs < 10
  · rw [if_pos h]; simp; omega
  · have := dec_len_ge 1 p.natAbs (by simpa using h)
    rw [if_neg h]; simp; omega
/-- the texts of digits, with a point behind the first one -/
theorem pt_one {s : List UInt8} {g : Nat} (hg : 1 ≤ g) (h : s.length = g) : pt s (g - 1) = if g = 1 then s else s.take 1 ++ 46 :: s.drop 1 := by
  unfold pt
  by_cases h1 : g = 1
  · rw [if_pos (by omega), if_pos h1]
  · rw [if_neg (by omega), if_neg h1, show g - 1 + 1 - s.length = 0 by omega, List.replicate_zero, List.nil_append, show s.length - (g - 1) = 1 by omega]
theorem ib_hit {c : UInt8} : ∀ (a b : List UInt8), c ∉ a → Lib.indexByte (a ++ c :: b) c = a.length
  | [], b, _ => by simp [Lib.indexByte]
  | x :: a, b, h => by
    have hx : (x == c) = false := by rw [beq_eq_false_iff_ne]; intro e; subst e; simp at h
    have ih := ib_hit a b (by intro hc; exact h (List.mem_cons_of_mem _ hc))
    rw [List.cons_append, Lib.indexByte, ih, hx]
    have : (((a.length : Nat) : Int) == -1) = false := by rw [beq_eq_false_iff_ne]; omega
    rw [this]; simp
theorem ib_miss {c : UInt8} : ∀ (a : List UInt8), c ∉ a → Lib.indexByte a c = -1
  | [], _ => rfl
  | x :: a, h => by
    have hx : (x == c) = false := by rw [beq_eq_false_iff_ne]; intro e; subst e; simp at h
    have ih := ib_miss a (by intro hc; exact h (List.mem_cons_of_mem _ hc))
    rw [Lib.indexByte, ih, hx]; rfl
theorem cut_hit {c : UInt8} (a b : List UInt8) (h : c ∉ a) : Lib.cut (a ++ c :: b) [c] = (a, b, true) := by
  unfold Lib.cut
  rw [Lib.index_one, ib_hit a b h, if_pos (by omega)]
  simp
theorem cut_miss {c : UInt8} (a : List UInt8) (h : c ∉ a) : Lib.cut a [c] = (a, [], false) := by
  unfold Lib.cut
  rw [Lib.index_one, ib_miss a h, if_neg (by omega)]
theorem dgt_not {c : UInt8} (h : dgt c) : c ≠ 46 ∧ c ≠ 101 ∧ c ≠ 45 := by
  unfold dgt at h
  refine ⟨?_, ?_, ?_⟩ <;> (intro e; subst e; revert h; decide)
theorem dropW_all {p : UInt8 → Bool} : ∀ l : List UInt8, (∀ c ∈ l, p c = true) → l.dropWhile p = []
  | [], _ => rfl
  | c :: l, h => by rw [List.dropWhile_cons_of_pos (h c (by simp))]; exact dropW_all l (fun d hd => h d (by simp [hd]))
theorem trim_all {l cs : List UInt8} (h : ∀ c ∈ l, cs.contains c = true) : Lib.trimS l cs = [] := by
  have h1 : Lib.trimRightS l cs = [] := by
    unfold Lib.trimRightS
    rw [dropW_all _ (fun c hc => h c (by simpa using hc))]; rfl
  unfold Lib.trimS; rw [h1]; rfl
theorem dgt_in {c : UInt8} (h : dgt c) : ([48, 49, 50, 51, 52, 53, 54, 55, 56, 57] : List UInt8).contains c = true := by
  unfold dgt at h
  obtain ⟨n, hn, e⟩ : ∃ n, n < 10 ∧ c = UInt8.ofNat (48 + n) := ⟨c.toNat - 48, by omega, by
    apply UInt8.toNat_inj.1; rw [UInt8.toNat_ofNat']; omega⟩
  subst e
  have : n = 0 ∨ n = 1 ∨ n = 2 ∨ n = 3 ∨ n = 4 ∨ n = 5 ∨ n = 6 ∨ n = 7 ∨ n = 8 ∨ n = 9 := by omega
  rcases this with rfl | rfl | rfl | rfl | rfl | rfl | rfl | rfl | rfl | rfl <;> decide
theorem rep_one (a b : List UInt8) (h : (46 : UInt8) ∉ a) : Lib.replace (a ++ 46 :: b) [46] [] 1 = a ++ b := by
  have hi : Lib.index (a ++ 46 :: b) [46] = (a.length : Int) := by rw [Lib.index_one, ib_hit a b h]
  have hc : 1 ≤ Lib.count (a ++ 46 :: b) [46] := by
    unfold Lib.count Lib.countFrom
    rw [hi]
    have : (((a.length : Nat) : Int) == -1) = false := by rw [beq_eq_false_iff_ne]; omega
    rw [this]; simp
  have hn : Lib.replaceNum (a ++ 46 :: b) [46] 1 = 1 := by unfold Lib.replaceNum; rw [if_neg (by omega)]; rfl
  unfold Lib.replace
  rw [if_neg (by decide), hn, Lib.replaceK_hit _ _ _ _ _ hi]
  simp [Lib.replaceK]
theorem rep_none (a : List UInt8) (h : (46 : UInt8) ∉ a) : Lib.replace a [46] [] 1 = a := by
  have hi : Lib.index a [46] = -1 := by rw [Lib.index_one, ib_miss a h]
  unfold Lib.replace
  rw [if_neg (by decide)]
  unfold Lib.replaceNum
  split
  · have : Lib.count a [46] = 0 := Lib.count_miss hi
    rw [this]; rfl
  · show Lib.replaceK [46] [] 1 a = a
    rw [Lib.replaceK, hi]; rfl
end Go.Proofs.YtofdjfdnckmmmaaGreatDoor
