/-
  PLAIN: hexadecimal texts: their pieces; what is rounded does not hang on how it is written.
-/
import Derived.Test.YthkcbjhjhkpclaaDoorHl
set_option linter.unusedVariables false
set_option linter.unusedSimpArgs false
namespace Go.Proofs.YthkcbjhjhkpclaaDoor
open Go.RowKit Nt Fm Fl

theorem blen_ge {M : Nat} (hM : M ≠ 0) : 2 ^ (blen M - 1) ≤ M := by
  unfold blen; rw [if_neg hM]; exact Nat.log2_self_le hM
theorem blen_shl {M : Nat} (hM : M ≠ 0) (j : Nat) : blen (M * 2 ^ j) = blen M + j := by
  have h1 := lt_blen M
  have h2 : 2 ^ (blen M - 1) ≤ M := blen_ge hM
  have hb : 1 ≤ blen M := by unfold blen; rw [if_neg hM]; omega
  have hp := Nat.two_pow_pos j
  apply Nat.le_antisymm
  · apply blen_le_of
    rw [Nat.pow_add]
    exact Nat.mul_lt_mul_of_pos_right h1 hp
  · rcases Nat.lt_or_ge (blen (M * 2 ^ j)) (blen M + j) with h | h
    · exfalso
      have h3 := lt_blen (M * 2 ^ j)
      have h4 : 2 ^ (blen M - 1) * 2 ^ j ≤ M * 2 ^ j := Nat.mul_le_mul_right _ h2
      rw [← Nat.pow_add] at h4
      have h5 : 2 ^ blen (M * 2 ^ j) ≤ 2 ^ (blen M - 1 + j) := Nat.pow_le_pow_right (by omega) (by omega)
      omega
    · exact h
theorem tt_shift (M j t : Nat) (K : Int) (h : 0 ≤ K - j + 1074 + t) : tt t (M * 2 ^ j) (K - j) = tt t M K := by
  unfold tt
  rw [Nat.mul_assoc, ← Nat.pow_add]
  congr 2
  omega
theorem numC_shift (neg : Bool) (M j : Nat) (K : Int) : numC ⟨neg, M * 2 ^ j, K - j⟩ = numC ⟨neg, M, K⟩ := by
  unfold numC
  dsimp only
  obtain ⟨t, ht⟩ : ∃ t : Nat, 0 ≤ K - j + 1074 + (t : Int) := ⟨(-(K - j + 1074)).toNat, by omega⟩
  have h1 := chg_iff (m := M * 2 ^ j) (e := K - j) ht
  have h2 := chg_iff (m := M) (e := K) (t := t) (by omega)
  rw [tt_shift M j t K ht, ← h2] at h1
  cases hc : chg M K
  · exact h1.2 hc
  · cases hd : chg (M * 2 ^ j) (K - j)
    · rw [h1.1 hd] at hc; cases hc
    · rfl
theorem numR_shift (neg : Bool) (M j : Nat) (K mode : Int) : numR ⟨neg, M * 2 ^ j, K - j⟩ mode = numR ⟨neg, M, K⟩ mode := by
  unfold numR
  dsimp only
  obtain ⟨t, ht⟩ : ∃ t : Nat, 0 ≤ K - j + 1074 + (t : Int) := ⟨(-(K - j + 1074)).toNat, by omega⟩
  rw [numk_eq (t := t) ht (by omega) _ (tt_shift M j t K ht)]
theorem hn_shift (neg : Bool) (M j : Nat) (K mode : Int) : hnV neg (M * 2 ^ j) (K - j) mode = hnV neg M K mode ∧ hnC neg (M * 2 ^ j) (K - j) = hnC neg M K := by
  by_cases hM : M = 0
  · subst hM; rw [Nat.zero_mul]; unfold hnV hnC; simp only [if_true]; exact ⟨trivial, trivial⟩
  · have h0 : M * 2 ^ j ≠ 0 := Nat.ne_of_gt (Nat.mul_pos (Nat.pos_of_ne_zero hM) (Nat.two_pow_pos _))
    unfold hnV hnC
    rw [if_neg hM, if_neg h0, if_neg hM, if_neg h0]
    have hb : ((blen (M * 2 ^ j) : Nat) : Int) + (K - j) = (blen M : Int) + K := by rw [blen_shl hM]; omega
    unfold hnD
    rw [hb]
    split
    · exact ⟨rfl, rfl⟩
    · split
      · exact ⟨rfl, rfl⟩
      · exact ⟨numR_shift _ _ _ _ _, numC_shift _ _ _ _⟩
theorem kd_lt (neg : Bool) (mode : Int) : kd neg mode < 4 := by
  unfold kd
  repeat' split
  all_goals omega
theorem tiny_same (k : Nat) (hk : k < 4) : numk k 1 (-2000) = numk k 1 (-2001) := by
  obtain rfl | rfl | rfl | rfl : k = 0 ∨ k = 1 ∨ k = 2 ∨ k = 3 := by omega
  all_goals kernel_rfl
theorem tt_le {t M M' : Nat} {K K' : Int} {a : Nat} (h0 : 0 ≤ K' + 1074 + t) (hM : M' ≤ 2 ^ a) {N : Nat} (hN : 2 ^ N ≤ M) (h : (a : Int) + K' ≤ N + K) : tt t M' K' ≤ tt t M K := by
  unfold tt
  have h1 : M' * 2 ^ (K' + 1074 + (t : Int)).toNat ≤ 2 ^ (a + (K' + 1074 + (t : Int)).toNat) := by
    rw [Nat.pow_add]; exact Nat.mul_le_mul_right _ hM
  have h2 : 2 ^ (N + (K + 1074 + (t : Int)).toNat) ≤ M * 2 ^ (K + 1074 + (t : Int)).toNat := by
    rw [Nat.pow_add]; exact Nat.mul_le_mul_right _ hN
  exact Nat.le_trans h1 (Nat.le_trans (Nat.pow_le_pow_right (by omega) (by omega)) h2)
theorem hn_mono (M : Nat) (K K' mode : Int) (h : K' ≤ K) : hnV false M K' mode ≤ hnV false M K mode := by
  by_cases hM : M = 0
  · unfold hnV; rw [if_pos hM, if_pos hM]; exact Int.le_refl _
  · unfold hnV
    rw [if_neg hM, if_neg hM]
    have hb := lt_blen M
    have hb2 : 2 ^ (blen M - 1) ≤ M := blen_ge hM
    have hb3 : 1 ≤ blen M := by unfold blen; rw [if_neg hM]; omega
    have hk := kd_lt false mode
    obtain ⟨t, ht, ht2⟩ : ∃ t : Nat, 0 ≤ K' + 1074 + (t : Int) ∧ 5000 ≤ t := ⟨(-(K' + 1074)).toNat + 5000, by omega, by omega⟩
    unfold hnD numR
    have hone : (1 : Nat) ≤ 2 ^ 0 := by decide
    have hone2 : 2 ^ 0 ≤ (1 : Nat) := by decide
    by_cases c1 : 2000 < (blen M : Int) + K
    · rw [if_pos c1]
      by_cases c2 : 2000 < (blen M : Int) + K'
      · rw [if_pos c2]; exact Int.le_refl _
      · rw [if_neg c2]
        by_cases c3 : (blen M : Int) + K' < -2000
        · rw [if_pos c3]
          dsimp only
          have := numk_mono (t := t) (m := 1) (m' := 1) (e := -2000) (e' := 2000) (by omega) (by omega) (kd false mode) (tt_le (a := 0) (N := 0) (by omega) hone hone2 (by omega))
          omega
        · rw [if_neg c3]
          dsimp only
          have := numk_mono (t := t) (m := M) (m' := 1) (e := K') (e' := 2000) (by omega) (by omega) (kd false mode) (tt_le (a := blen M) (N := 0) (by omega) (Nat.le_of_lt hb) hone2 (by omega))
          omega
    · rw [if_neg c1, if_neg (show ¬ 2000 < (blen M : Int) + K' by omega)]
      by_cases c2 : (blen M : Int) + K < -2000
      · rw [if_pos c2, if_pos (by omega)]; exact Int.le_refl _
      · rw [if_neg c2]
        by_cases c3 : (blen M : Int) + K' < -2000
        · rw [if_pos c3]
          dsimp only
          rw [tiny_same _ hk]
          have := numk_mono (t := t) (m := 1) (m' := M) (e := -2001) (e' := K) (by omega) (by omega) (kd false mode) (tt_le (a := 0) (N := blen M - 1) (by omega) hone hb2 (by omega))
          omega
        · rw [if_neg c3]
          dsimp only
          have := numk_mono (t := t) (m := M) (m' := M) (e := K') (e' := K) (by omega) (by omega) (kd false mode) (by
            unfold tt; exact Nat.mul_le_mul_left _ (Nat.pow_le_pow_right (by omega) (by omega)))
          omega
/-- the pieces behind the 'p' -/
structure Prx (e t6 power rest : List UInt8) (down up : Bool) : Prop where
  nd : down = Lib.hasPrefix e [45]
  nu : up = Lib.hasPrefix e [43]
  h6 : t6 = if (down || up) = true then e.drop 1 else e
  hq : power = t6.takeWhile (decCs.contains ·)
  he : rest = t6.dropWhile (decCs.contains ·)
theorem prx_any (e : List UInt8) : ∃ t6 power rest down up, Prx e t6 power rest down up := ⟨_, _, _, _, _, rfl, rfl, rfl, rfl, rfl⟩
theorem hex_p : hexCs.contains 112 = false ∧ hexCs.contains 46 = false ∧ hexCs.contains 45 = false ∧ hexCs.contains 48 = true := by decide
theorem takeW_all {p : UInt8 → Bool} (d : List UInt8) (hd : ∀ c ∈ d, p c = true) (x : UInt8) (hx : p x = false) (l : List UInt8) : (d ++ x :: l).takeWhile p = d ∧ (d ++ x :: l).dropWhile p = x :: l := by
  rw [List.takeWhile_append_of_pos hd, List.dropWhile_append_of_pos hd, List.takeWhile_cons_of_neg (by rw [hx]; simp), List.dropWhile_cons_of_neg (by rw [hx]; simp), List.append_nil]
  exact ⟨rfl, rfl⟩
theorem trim_hit (c : List UInt8) (l : List UInt8) : Lib.trimPrefix (c ++ l) c = l ∧ Lib.hasPrefix (c ++ l) c = true := by
  have h : Lib.hasPrefix (c ++ l) c = true := by
    unfold Lib.hasPrefix
    rw [List.isPrefixOf_iff_prefix]
    exact ⟨l, rfl⟩
  refine ⟨?_, h⟩
  unfold Lib.trimPrefix
  rw [if_pos h, List.drop_left]
theorem trim_miss (c x : UInt8) (cs l : List UInt8) (h : (c == x) = false) : Lib.trimPrefix (x :: l) (c :: cs) = x :: l ∧ Lib.hasPrefix (x :: l) (c :: cs) = false := by
  have h : Lib.hasPrefix (x :: l) (c :: cs) = false := by
    unfold Lib.hasPrefix
    simp only [List.isPrefixOf, h, Bool.false_and]
  refine ⟨?_, h⟩
  unfold Lib.trimPrefix
  rw [if_neg (by rw [h]; simp)]
/-- [-]0x d . b p e -/
theorem prs_point {e t6 power rest : List UInt8} {down up : Bool} (P : Prx e t6 power rest down up) (neg : Bool) (d b : List UInt8) (hd : ∀ c ∈ d, hexCs.contains c = true) (hb : ∀ c ∈ b, hexCs.contains c = true) :
    Prs ((if neg = true then [45] else []) ++ ([48, 120] ++ (d ++ 46 :: (b ++ 112 :: e)))) ([48, 120] ++ (d ++ 46 :: (b ++ 112 :: e))) (d ++ 46 :: (b ++ 112 :: e)) d (46 :: (b ++ 112 :: e)) (b ++ 112 :: e) b (112 :: e) e t6 power rest neg true true true down up := by
  obtain ⟨nd, nu, h6, hq, he⟩ := P
  obtain ⟨x1, x2, x3, x4⟩ := hex_p
  have a1 := takeW_all d hd 46 x2 (b ++ 112 :: e)
  have a2 := takeW_all b hb 112 x1 e
  have a3 := trim_hit [48, 120] (d ++ 46 :: (b ++ 112 :: e))
  have a4 := trim_hit [46] (b ++ 112 :: e)
  have a5 := trim_hit [112] e
  refine ⟨?_, ?_, a3.1.symm, a3.2.symm, a1.1.symm, a1.2.symm, a4.1.symm, a4.2.symm, ?_, ?_, a5.1.symm, a5.2.symm, nd, nu, h6, hq, he⟩
  · cases neg
    · exact (trim_miss 45 48 [] _ (by decide)).1.symm
    · exact (trim_hit [45] _).1.symm
  · cases neg
    · exact (trim_miss 45 48 [] _ (by decide)).2.symm
    · exact (trim_hit [45] _).2.symm
  · rw [if_pos rfl]; exact a2.1.symm
  · rw [if_pos rfl]; exact a2.2.symm
/-- [-]0x d p e -/
theorem prs_whole {e t6 power rest : List UInt8} {down up : Bool} (P : Prx e t6 power rest down up) (neg : Bool) (d : List UInt8) (hd : ∀ c ∈ d, hexCs.contains c = true) :
    Prs ((if neg = true then [45] else []) ++ ([48, 120] ++ (d ++ 112 :: e))) ([48, 120] ++ (d ++ 112 :: e)) (d ++ 112 :: e) d (112 :: e) (112 :: e) [] (112 :: e) e t6 power rest neg true false true down up := by
  obtain ⟨nd, nu, h6, hq, he⟩ := P
  obtain ⟨x1, x2, x3, x4⟩ := hex_p
  have a1 := takeW_all d hd 112 x1 e
  have a3 := trim_hit [48, 120] (d ++ 112 :: e)
  have a4 := trim_miss 46 112 [] e (by decide)
  have a5 := trim_hit [112] e
  refine ⟨?_, ?_, a3.1.symm, a3.2.symm, a1.1.symm, a1.2.symm, a4.1.symm, a4.2.symm, ?_, ?_, a5.1.symm, a5.2.symm, nd, nu, h6, hq, he⟩
  · cases neg
    · exact (trim_miss 45 48 [] _ (by decide)).1.symm
    · exact (trim_hit [45] _).1.symm
  · cases neg
    · exact (trim_miss 45 48 [] _ (by decide)).2.symm
    · exact (trim_hit [45] _).2.symm
  · rfl
  · rfl
end Go.Proofs.YthkcbjhjhkpclaaDoor
