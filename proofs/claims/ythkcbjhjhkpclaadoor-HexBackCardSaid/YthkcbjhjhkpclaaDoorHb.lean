/-
  PLAIN: what hex.write tells of a number is read as it was.
-/
import Derived.Test.YthkcbjhjhkpclaaDoorHs
import Derived.Test.YthkcbjhjhkpclaaDoorDn
import Derived.Test.YthkcbjhjhkpclaaDoorDm
set_option linter.unusedVariables false
set_option linter.unusedSimpArgs false
namespace Go.Proofs.YthkcbjhjhkpclaaDoor
open Go.RowKit Nt Fm Fl

theorem dcN_num (l : List UInt8) : ∀ (a : Nat), (∀ c ∈ l, dgt c) → dcN a l = num a l := by
  induction l with
  | nil => intro a _; rfl
  | cons c l ih =>
    intro a h
    have hc : dgt c := h c (List.mem_cons_self ..)
    have hn : c ≠ 46 := by
      intro e
      subst e
      exact absurd hc.1 (by decide)
    have h1 : num a (c :: l) = num (a * 10 + (c.toNat - 48)) l := by
      show (if c = 46 then _ else _) = _
      rw [if_neg hn]
    rw [h1]
    exact ih _ (fun d hd => h d (List.mem_cons_of_mem _ hd))
theorem dcN_dec (u : Nat) : dcN 0 (Lib.decDigits u) = u := by rw [dcN_num _ _ (dec_dgt u), num_dec]
theorem dec_has {c : UInt8} (h : dgt c) : decCs.contains c = true := by
  unfold dgt at h
  unfold decCs
  have : c = UInt8.ofNat c.toNat := by simp
  rw [this]
  generalize c.toNat = n at *
  obtain ⟨k, rfl⟩ : ∃ k, n = 48 + k := ⟨n - 48, by omega⟩
  have hk : k < 10 := by omega
  have : ∀ k : Fin 10, ([48, 49, 50, 51, 52, 53, 54, 55, 56, 57] : List UInt8).contains (UInt8.ofNat (48 + k.val)) = true := by decide
  exact this ⟨k, hk⟩
theorem dec_hex {c : UInt8} (h : decCs.contains c = true) : hexCs.contains c = true := by
  unfold decCs at h
  unfold hexCs
  simp at h ⊢
  rcases h with rfl | rfl | rfl | rfl | rfl | rfl | rfl | rfl | rfl | rfl <;> simp
theorem hexd_has (v : Nat) (h : v < 16) : hexCs.contains (hexd v) = true ∧ hxv (hexd v) = v := by
  have : ∀ v : Fin 16, hexCs.contains (hexd v.val) = true ∧ hxv (hexd v.val) = v.val := by decide
  exact this ⟨v, h⟩
theorem hxD_has (M : Nat) : ∀ k, ∀ c ∈ hxD M k, hexCs.contains c = true
  | 0, c, h => by simp [hxD] at h
  | k + 1, c, h => by
    rw [hxD, List.mem_cons] at h
    rcases h with rfl | h
    · exact (hexd_has _ (Nat.mod_lt _ (by omega))).1
    · exact hxD_has M k c h
theorem hxN_hxD (M : Nat) : ∀ (k a : Nat), hxN a (hxD M k) = a * 16 ^ k + M % 16 ^ k
  | 0, a => by simp [hxD, hxN, Nat.mod_one]
  | k + 1, a => by
    rw [hxD, hxN, hxN_hxD M k, (hexd_has _ (Nat.mod_lt _ (by omega))).2, Nat.pow_succ, Nat.add_mul, Nat.mul_assoc, Nat.mul_comm 16 (16 ^ k), Nat.add_assoc, Nat.mod_mul]
    rw [Nat.mul_comm (M / 16 ^ k % 16)]
    omega
theorem takeW_full {p : UInt8 → Bool} (l : List UInt8) (h : ∀ c ∈ l, p c = true) : l.takeWhile p = l ∧ l.dropWhile p = [] := by
  have h1 := List.takeWhile_append_of_pos (p := p) (l₁ := l) (l₂ := []) h
  have h2 := List.dropWhile_append_of_pos (p := p) (l₁ := l) (l₂ := []) h
  simp only [List.append_nil] at h1 h2
  exact ⟨by rw [h1]; simp, by rw [h2]; simp⟩
/-- the pieces of an exponent -/
theorem prx_exp (q : Int) : Prx ((if 0 ≤ q then [43] else []) ++ Lib.itoa q) (Lib.decDigits q.natAbs) (Lib.decDigits q.natAbs) [] (decide (q < 0)) (decide (0 ≤ q)) := by
  obtain ⟨h1, h2⟩ := takeW_full (p := (decCs.contains ·)) (Lib.decDigits q.natAbs) (fun c hc => dec_has (dec_dgt _ c hc))
  unfold Lib.itoa
  by_cases hq : 0 ≤ q
  · rw [if_pos hq, if_neg (show ¬ q < 0 by omega), decide_eq_false (show ¬ q < 0 by omega), decide_eq_true hq, show q.toNat = q.natAbs by omega]
    exact ⟨rfl, rfl, rfl, h1.symm, h2.symm⟩
  · rw [if_neg hq, if_pos (show q < 0 by omega), decide_eq_true (show q < 0 by omega), decide_eq_false hq]
    exact ⟨rfl, rfl, rfl, h1.symm, h2.symm⟩
theorem hxE_split (p : Int) : hxE p = 112 :: ((if 0 ≤ p then [43] else []) ++ Lib.itoa p) := by
  unfold hxE; split <;> rfl
theorem hxP_split (x : Int) : hxP x = (if decide (9223372036854775808 ≤ x) = true then [45] else []) ++ [48, 120] := by
  unfold hxP
  by_cases h : 9223372036854775808 ≤ x
  · rw [if_pos h, decide_eq_true h]; rfl
  · rw [if_neg h, decide_eq_false h]; rfl
/-- what write tells is read so -/
theorem write_back (x : Int) (d : D) (p : Nat) (hp : p ≤ 100) (hm : blen d.m ≤ 4 * p + 1) (he : (hxp d).natAbs < 99999) :
    ∃ t1 t2 whole t3 r part t4 t5 t6 power rest neg ok pt pb down up, Prs (hxW x d p) t1 t2 whole t3 r part t4 t5 t6 power rest neg ok pt pb down up ∧ prBad whole part power rest ok pb = false ∧ neg = decide (9223372036854775808 ≤ x) ∧ (hxW x d p).length ≤ 1000 ∧
      (∀ mode, hnV neg (hxN 0 (whole ++ part)) (prK part power down) mode = hnV neg d.m d.e mode) ∧ hnC neg (hxN 0 (whole ++ part)) (prK part power down) = hnC neg d.m d.e := by
  have hl : (hxW x d p).length ≤ 1000 := by
    unfold hxW
    have h1 : (hxP x).length ≤ 3 := by unfold hxP; split <;> simp
    have h2 := itoa_len (hxp d) (by omega)
    have h3 := hxD_len (d.m * 2 ^ (4 * p - (blen d.m - 1))) p
    have h4 : (hxE (hxp d)).length ≤ 10 := by unfold hxE; rw [List.length_append]; split <;> simp <;> omega
    rw [List.length_append]
    split
    · split <;> simp <;> omega
    · split <;> simp [h3] <;> omega
  by_cases hz : d.m = 0
  · have P : Prx ([43, 48] : List UInt8) [48] [48] [] false true := ⟨rfl, rfl, rfl, rfl, rfl⟩
    have hs : ∀ c ∈ [(48 : UInt8)], hexCs.contains c = true := fun c hc => by obtain rfl := List.mem_singleton.1 hc; decide
    have hv : ∀ neg K mode, hnV neg 0 K mode = hnV neg d.m d.e mode := fun neg K mode => by unfold hnV; rw [hz, if_pos rfl, if_pos rfl]
    have hc : ∀ neg K, hnC neg 0 K = hnC neg d.m d.e := fun neg K => by unfold hnC; rw [hz, if_pos rfl, if_pos rfl]
    by_cases hp0 : 0 < p
    · have hr : ∀ c ∈ List.replicate p (48 : UInt8), hexCs.contains c = true := fun c hc => by obtain rfl := (List.mem_replicate.1 hc).2; decide
      have Q := prs_point P (decide (9223372036854775808 ≤ x)) [48] (List.replicate p 48) hs hr
      have hW : hxW x d p = (if decide (9223372036854775808 ≤ x) = true then [45] else []) ++ ([48, 120] ++ ([48] ++ 46 :: (List.replicate p 48 ++ 112 :: [43, 48]))) := by
        unfold hxW; rw [if_pos hz, if_pos hp0, hxP_split]; simp
      rw [← hW] at Q
      have h0 : hxN 0 ([48] ++ List.replicate p 48) = 0 := by
        clear Q hW hr hp0 hm hl hp
        have : ∀ p, hxN 0 (List.replicate p (48 : UInt8)) = 0 := by
          intro p
          induction p with
          | zero => rfl
          | succ p ih => rw [List.replicate_succ, hxN]; exact ih
        rw [hxN_app]
        exact this p
      refine ⟨_, _, _, _, _, _, _, _, _, _, _, _, _, _, _, _, _, Q, ?_, rfl, hl, fun mode => by rw [h0]; exact hv _ _ _, by rw [h0]; exact hc _ _⟩
      unfold prBad; rfl
    · have Q := prs_whole P (decide (9223372036854775808 ≤ x)) [48] hs
      have hW : hxW x d p = (if decide (9223372036854775808 ≤ x) = true then [45] else []) ++ ([48, 120] ++ ([48] ++ 112 :: [43, 48])) := by
        unfold hxW; rw [if_pos hz, if_neg hp0, hxP_split]; simp
      rw [← hW] at Q
      refine ⟨_, _, _, _, _, _, _, _, _, _, _, _, _, _, _, _, _, Q, ?_, rfl, hl, fun mode => hv _ _ _, hc _ _⟩
      unfold prBad; rfl
  · obtain ⟨sh, hsh⟩ : ∃ sh, sh = 4 * p - (blen d.m - 1) := ⟨_, rfl⟩
    have hb1 : 1 ≤ blen d.m := by unfold blen; rw [if_neg hz]; omega
    have hsh2 : blen d.m + sh = 4 * p + 1 := by omega
    have hMlt : d.m * 2 ^ sh < 2 ^ (4 * p + 1) := by
      rw [← hsh2, Nat.pow_add]; exact Nat.mul_lt_mul_of_pos_right (lt_blen _) (Nat.two_pow_pos _)
    have hMge : 2 ^ (4 * p) ≤ d.m * 2 ^ sh := by
      have h1 := Nat.mul_le_mul_right (2 ^ sh) (blen_ge hz)
      rw [← Nat.pow_add, show blen d.m - 1 + sh = 4 * p by omega] at h1
      exact h1
    have h16 : (16 : Nat) ^ p = 2 ^ (4 * p) := by rw [show (16 : Nat) = 2 ^ 4 by decide, ← Nat.pow_mul]
    have hmod : d.m * 2 ^ sh % 16 ^ p = d.m * 2 ^ sh - 16 ^ p := by
      rw [h16]
      rw [Nat.pow_succ] at hMlt
      rw [Nat.mod_eq_sub_mod hMge, Nat.mod_eq_of_lt (by omega)]
    have hone : ∀ c ∈ [(49 : UInt8)], hexCs.contains c = true := fun c hc => by obtain rfl := List.mem_singleton.1 hc; decide
    have P := prx_exp (hxp d)
    have hk : (if decide (hxp d < 0) = true then -((dcN 0 (Lib.decDigits (hxp d).natAbs) : Nat) : Int) else ((dcN 0 (Lib.decDigits (hxp d).natAbs) : Nat) : Int)) = hxp d := by
      rw [dcN_dec]
      by_cases h : hxp d < 0
      · rw [decide_eq_true h, if_pos rfl]; omega
      · rw [decide_eq_false h, if_neg (by simp)]; omega
    have hkk : hxp d - 4 * (p : Int) = d.e - sh := by unfold hxp; omega
    have hlen : (Lib.decDigits (hxp d).natAbs).length ≤ 5 := dec_len_le 5 _ (by omega) (by omega)
    have hne : (Lib.decDigits (hxp d).natAbs).isEmpty = false := by
      have := dec_len_pos (hxp d).natAbs
      cases h : Lib.decDigits (hxp d).natAbs with
      | nil => rw [h] at this; simp at this
      | cons c l => rfl
    have hbad : ∀ w b : List UInt8, prBad ([49] ++ w) b (Lib.decDigits (hxp d).natAbs) [] true true = false := by
      intro w b
      unfold prBad
      rw [hne, decide_eq_false (by omega)]; rfl
    by_cases hp0 : 0 < p
    · have Q := prs_point P (decide (9223372036854775808 ≤ x)) [49] (hxD (d.m * 2 ^ sh) p) hone (hxD_has _ _)
      have hW : hxW x d p = (if decide (9223372036854775808 ≤ x) = true then [45] else []) ++ ([48, 120] ++ ([49] ++ 46 :: (hxD (d.m * 2 ^ sh) p ++ 112 :: ((if 0 ≤ hxp d then [43] else []) ++ Lib.itoa (hxp d))))) := by
        unfold hxW; rw [if_neg hz, if_pos hp0, hxP_split, hxE_split, ← hsh]
        simp
      rw [← hW] at Q
      have h0 : hxN 0 ([49] ++ hxD (d.m * 2 ^ sh) p) = d.m * 2 ^ sh := by
        rw [hxN_app, hxN_hxD, show hxN 0 [49] = 1 from rfl, hmod, h16]; omega
      have hK : prK (hxD (d.m * 2 ^ sh) p) (Lib.decDigits (hxp d).natAbs) (decide (hxp d < 0)) = d.e - sh := by
        unfold prK; rw [hk, hxD_len]; exact hkk
      refine ⟨_, _, _, _, _, _, _, _, _, _, _, _, _, _, _, _, _, Q, hbad [] _, rfl, hl, fun mode => ?_, ?_⟩
      · rw [h0, hK]; exact (hn_shift _ _ _ _ _).1
      · rw [h0, hK]; exact (hn_shift _ _ _ _ 0).2
    · obtain rfl : p = 0 := by omega
      obtain rfl : sh = 0 := by omega
      have hm1 : d.m = 1 := by
        have : blen d.m = 1 := by omega
        have h2 := lt_blen d.m
        rw [this] at h2
        omega
      have Q := prs_whole P (decide (9223372036854775808 ≤ x)) [49] hone
      have hW : hxW x d 0 = (if decide (9223372036854775808 ≤ x) = true then [45] else []) ++ ([48, 120] ++ ([49] ++ 112 :: ((if 0 ≤ hxp d then [43] else []) ++ Lib.itoa (hxp d)))) := by
        unfold hxW; rw [if_neg hz, if_neg hp0, hxP_split, hxE_split, hxD]
        simp
      rw [← hW] at Q
      have h0 : hxN 0 ([49] ++ []) = d.m := by rw [hm1]; rfl
      have hK : prK [] (Lib.decDigits (hxp d).natAbs) (decide (hxp d < 0)) = d.e := by
        unfold prK; rw [hk]; simp only [List.length_nil]; omega
      refine ⟨_, _, _, _, _, _, _, _, _, _, _, _, _, _, _, _, _, Q, hbad [] _, rfl, hl, fun mode => ?_, ?_⟩
      · rw [h0, hK]
      · rw [h0, hK]
theorem hx_m0 {x : Int} (x0 : 0 ≤ x) (x1 : x ≤ 18446744073709551615) (hx : fabs x < 9218868437227405312) (h : (valD x).m = 0) : fabs x = 0 := by
  have hv : hasV x = true := by unfold hasV; rw [decide_eq_true_eq]; exact hx
  have hmg := dVal_mag x0 x1 hv
  rw [h, Nat.zero_mul] at hmg
  have : (fabs x).toNat = 0 := mag_inj (hmg.trans mag_zero.symm)
  have := fabs_bd x
  omega
/-- a number with a value -/
theorem val_back {x : Int} (x0 : 0 ≤ x) (x1 : x ≤ 18446744073709551615) (hx : fabs x < 9218868437227405312) (mode : Int) : hnV (decide (9223372036854775808 ≤ x)) (valD x).m (valD x).e mode = x ∧ hnC (decide (9223372036854775808 ≤ x)) (valD x).m (valD x).e = false := by
  obtain ⟨f1, f2, f3, f4, f5⟩ := valD_facts x x0 x1
  have hbl : blen (valD x).m ≤ 53 := blen_le_of f2
  obtain ⟨c1, c2⟩ := valD_num x x0 x1 hx mode
  unfold hnV hnC
  by_cases hz : (valD x).m = 0
  · rw [if_pos hz, if_pos hz]
    have h0 := hx_m0 x0 x1 hx hz
    unfold fabs at h0
    refine ⟨?_, rfl⟩
    by_cases h : 9223372036854775808 ≤ x
    · rw [decide_eq_true h, if_pos rfl]; omega
    · rw [decide_eq_false h, if_neg (by simp)]; omega
  · rw [if_neg hz, if_neg hz]
    have hD : hnD (decide (9223372036854775808 ≤ x)) (valD x).m (valD x).e = valD x := by
      unfold hnD
      rw [if_neg (by omega), if_neg (by omega)]
      have hng : (valD x).neg = decide (9223372036854775808 ≤ x) := f5 hz
      rw [← hng]
    rw [hD]
    refine ⟨?_, c1⟩
    rcases c2 with h | ⟨h, h2⟩
    · exact h
    · exfalso
      apply hz
      rw [h]
      rfl
end Go.Proofs.YthkcbjhjhkpclaaDoor
