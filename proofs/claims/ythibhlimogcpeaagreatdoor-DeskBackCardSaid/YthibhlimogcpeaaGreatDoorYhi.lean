/-
  SOME OF MY TEXTS in one: Yh Yi. Each says what it proves.
-/
import Derived.Test.YthibhlimogcpeaaGreatDoorYfg
import Derived.Test.YthibhlimogcpeaaGreatDoorZu
set_option linter.unusedVariables false
set_option linter.unusedSimpArgs false
/-
  PLAIN: the text with the fewest digits, and that it is read as it was.
-/
namespace Go.Proofs.YthibhlimogcpeaaGreatDoor
open Nt Fm Fl

/-- digits and an exponent, written out -/
def stB (d : List UInt8) (k : Int) : List UInt8 :=
  if k + (d.length : Int) - 1 < -5 ∨ 20 < k + (d.length : Int) - 1 then d.take 1 ++ ((if 1 < d.length then 46 :: d.drop 1 else []) ++ 101 :: pwS (k + (d.length : Int) - 1))
  else if 0 ≤ k then d ++ List.replicate k.toNat 48
  else if 0 ≤ k + (d.length : Int) - 1 then d.take (k + (d.length : Int)).toNat ++ 46 :: d.drop (k + (d.length : Int)).toNat
  else 48 :: 46 :: (List.replicate (-(k + (d.length : Int))).toNat 48 ++ d)
noncomputable def stT (x : Int) : List UInt8 :=
  if fcls x = 5 then [110, 97, 110] else sgS x ++ (if fcls x = 4 then [105, 110, 102] else if fcls x = 1 then [48] else stB (shT x) (shX x))
/-- a tail that is a power -/
theorem dec_dgN (l : List UInt8) (h : ∀ c ∈ l, dgt c) : dgN l = l.length := by
  unfold dgN
  rw [(takeW_full (p := (decCs.contains ·)) l (fun c hc => dec_has (h c hc))).1]
theorem pw_tail (p : Int) (h : p.natAbs < 1000) : Tail (101 :: pwS p) p := by
  have hd : ∀ c ∈ (if p.natAbs < 10 then [48] else []) ++ Lib.decDigits p.natAbs, dgt c := by
    intro c hc
    rcases List.mem_append.1 hc with h1 | h1
    · split at h1
      · obtain rfl := List.mem_singleton.1 h1; exact ⟨by decide, by decide⟩
      · simp at h1
    · exact dec_dgt _ c h1
  have hl : 1 ≤ ((if p.natAbs < 10 then [48] else []) ++ Lib.decDigits p.natAbs).length ∧ ((if p.natAbs < 10 then [48] else []) ++ Lib.decDigits p.natAbs).length ≤ 4 := by
    have h1 := dec_len_pos p.natAbs
    have h2 := dec_mono (show p.natAbs ≤ 999 by omega)
    have h3 : (Lib.decDigits 999).length = 3 := by decide +kernel
    rw [List.length_append]
    split <;> simp <;> omega
  have hN : dcN 0 ((if p.natAbs < 10 then [48] else []) ++ Lib.decDigits p.natAbs) = p.natAbs := by
    rw [dcN_app]
    have : dcN 0 (if p.natAbs < 10 then [48] else []) = 0 := by split <;> rfl
    rw [this, dcN_dec]
  obtain ⟨c, hc⟩ : ∃ c : UInt8, c = if p < 0 then 45 else 43 := ⟨_, rfl⟩
  have e1 : pwS p = c :: ((if p.natAbs < 10 then [48] else []) ++ Lib.decDigits p.natAbs) := by unfold pwS; rw [hc]
  generalize (if p.natAbs < 10 then [48] else []) ++ Lib.decDigits p.natAbs = l at *
  have hcc : c = 45 ∧ p < 0 ∨ c = 43 ∧ 0 ≤ p := by
    rw [hc]; by_cases h : p < 0
    · left; simp [h]
    · right; simp [h]; omega
  have hpre : Lib.hasPrefix (c :: l) [45] = decide (c = 45) ∧ Lib.hasPrefix (c :: l) [43] = decide (c = 43) := by
    rcases hcc with ⟨rfl, -⟩ | ⟨rfl, -⟩ <;> exact ⟨rfl, rfl⟩
  have hT : pwT (c :: l) = l := by
    unfold pwT
    rw [hpre.1, hpre.2]
    rcases hcc with ⟨rfl, -⟩ | ⟨rfl, -⟩ <;> rfl
  have hG : pwG (c :: l) = true := by
    unfold pwG
    rw [hT, dec_dgN l hd, decide_eq_false (show ¬ l.length = 0 by omega), decide_eq_false (show ¬ 6 < l.length by omega), decide_eq_true rfl]
    rfl
  have hOK : pwOK (101 :: pwS p) = true := by
    rw [e1]
    show ((101 == 101 || 101 == 69) && pwG (c :: l)) = true
    rw [hG]; rfl
  refine ⟨Or.inr ⟨101, pwS p, rfl, by decide, by decide⟩, hOK, ?_⟩
  show (if pwOK (101 :: pwS p) = true then pwV (pwS p) else 0) = p
  rw [if_pos hOK, e1]
  unfold pwV
  rw [hpre.1, hT, hN]
  rcases hcc with ⟨rfl, h⟩ | ⟨rfl, h⟩
  · rw [if_pos (by decide)]; omega
  · rw [if_neg (by decide)]; omega
theorem stB_made (d : List UInt8) (k : Int) (hd : ∀ c ∈ d, dgt c) (h0 : d ≠ []) (hl : d.length ≤ 30) (k0 : -500 ≤ k) (k1 : k ≤ 500) :
    ∃ W P E p q, (∀ sg : List UInt8, sg ++ stB d k = sg ++ (W ++ ((if p = true then 46 :: P else []) ++ E))) ∧ W ≠ [] ∧ (∀ c ∈ W, dgt c) ∧ (∀ c ∈ P, dgt c) ∧ (p = false → P = []) ∧ Tail E q ∧
      (∃ j : Nat, dcN 0 (W ++ P) = dcN 0 d * 10 ^ j ∧ q - (P.length : Int) = k - j) ∧ (stB d k).length ≤ 900 := by
  have hd1 : 1 ≤ d.length := by cases d with | nil => exact absurd rfl h0 | cons c l => simp
  have z48 : ∀ n, ∀ c ∈ List.replicate n (48 : UInt8), dgt c := fun n c hc => by rw [List.eq_of_mem_replicate hc]; exact ⟨by decide, by decide⟩
  have znum : ∀ (n a : Nat), dcN a (List.replicate n (48 : UInt8)) = a * 10 ^ n := fun n => by
    induction n with
    | zero => intro a; show a = a * 10 ^ 0; rw [Nat.pow_zero, Nat.mul_one]
    | succ n ih =>
      intro a
      rw [List.replicate_succ]
      show dcN (a * 10 + ((48 : UInt8).toNat - 48)) (List.replicate n 48) = _
      rw [ih, show (48 : UInt8).toNat - 48 = 0 from rfl, Nat.add_zero, Nat.pow_succ, Nat.mul_assoc, Nat.mul_comm 10]
  unfold stB
  by_cases c1 : k + (d.length : Int) - 1 < -5 ∨ 20 < k + (d.length : Int) - 1
  · rw [if_pos c1]
    refine ⟨d.take 1, d.drop 1, 101 :: pwS (k + (d.length : Int) - 1), decide (1 < d.length), k + (d.length : Int) - 1, fun sg => by simp only [decide_eq_true_eq], ?_, fun c hc => hd c (List.mem_of_mem_take hc), fun c hc => hd c (List.mem_of_mem_drop hc), ?_, pw_tail _ (by omega), ⟨0, ?_, ?_⟩, ?_⟩
    · intro h
      have h2 : (d.take 1).length = 0 := by rw [h]; rfl
      rw [List.length_take] at h2
      omega
    · intro h
      rw [decide_eq_false_iff_not] at h
      exact List.drop_eq_nil_of_le (by omega)
    · rw [List.take_append_drop, Nat.pow_zero, Nat.mul_one]
    · rw [List.length_drop]; omega
    · have h1 : (pwS (k + (d.length : Int) - 1)).length ≤ 10 := by
        unfold pwS
        have h2 := dec_mono (show (k + (d.length : Int) - 1).natAbs ≤ 9999 by omega)
        have h3 : (Lib.decDigits 9999).length = 4 := by decide +kernel
        rw [List.length_cons, List.length_append]
        split <;> simp <;> omega
      simp only [List.length_append, List.length_take, List.length_cons]
      split <;> simp <;> omega
  · rw [if_neg c1]
    by_cases c2 : 0 ≤ k
    · rw [if_pos c2]
      refine ⟨d ++ List.replicate k.toNat 48, [], [], false, 0, fun sg => by simp, ?_, ?_, fun c hc => by simp at hc, fun _ => rfl, tail_nil, ⟨k.toNat, ?_, by simp; omega⟩, by simp; omega⟩
      · intro h; exact h0 (List.append_eq_nil_iff.1 h).1
      · intro c hc
        rcases List.mem_append.1 hc with h | h
        · exact hd c h
        · exact z48 _ c h
      · rw [List.append_nil, dcN_app, znum]
    · rw [if_neg c2]
      by_cases c3 : 0 ≤ k + (d.length : Int) - 1
      · rw [if_pos c3]
        refine ⟨d.take (k + (d.length : Int)).toNat, d.drop (k + (d.length : Int)).toNat, [], true, 0, fun sg => by simp, ?_, fun c hc => hd c (List.mem_of_mem_take hc), fun c hc => hd c (List.mem_of_mem_drop hc), (fun h => absurd h (by decide)), tail_nil, ⟨0, ?_, ?_⟩, ?_⟩
        · intro h
          have h2 : (d.take (k + (d.length : Int)).toNat).length = 0 := by rw [h]; rfl
          rw [List.length_take] at h2
          omega
        · rw [List.take_append_drop, Nat.pow_zero, Nat.mul_one]
        · rw [List.length_drop]; omega
        · simp only [List.length_append, List.length_take, List.length_cons, List.length_drop]; omega
      · rw [if_neg c3]
        refine ⟨[48], List.replicate (-(k + (d.length : Int))).toNat 48 ++ d, [], true, 0, fun sg => by simp, by simp, ?_, ?_, (fun h => absurd h (by decide)), tail_nil, ⟨0, ?_, ?_⟩, ?_⟩
        · intro c hc; obtain rfl := List.mem_singleton.1 hc; exact ⟨by decide, by decide⟩
        · intro c hc
          rcases List.mem_append.1 hc with h | h
          · exact z48 _ c h
          · exact hd c h
        · rw [← List.append_assoc, dcN_app, dcN_app, show dcN 0 [48] = 0 from rfl, znum, Nat.zero_mul, Nat.pow_zero, Nat.mul_one]
        · rw [List.length_append, List.length_replicate]; omega
        · simp only [List.length_cons, List.length_append, List.length_replicate]; omega
end Go.Proofs.YthibhlimogcpeaaGreatDoor

/-
  PLAIN: the text with the fewest digits is read as it was (STEELE, WHITE).
-/
namespace Go.Proofs.YthibhlimogcpeaaGreatDoor
open Nt Fm Fl

theorem trimR_split (l : List UInt8) (c : UInt8) : l = Lib.trimRightB l c ++ List.replicate (l.length - (Lib.trimRightB l c).length) c := by
  have h := List.takeWhile_append_dropWhile (p := (· == c)) (l := l.reverse)
  have e : l = (l.reverse.dropWhile (· == c)).reverse ++ (l.reverse.takeWhile (· == c)).reverse := by
    rw [← List.reverse_append, h, List.reverse_reverse]
  have e2 : (l.reverse.takeWhile (· == c)).reverse = List.replicate (l.length - (Lib.trimRightB l c).length) c := by
    rw [List.eq_replicate_iff]
    constructor
    · have := congrArg List.length e
      rw [List.length_append] at this
      unfold Lib.trimRightB
      omega
    · intro b hb
      rw [List.mem_reverse] at hb
      have := takeW_mem hb
      simpa using this
  conv => lhs; rw [e, e2]
  rfl
theorem rep_num (n a : Nat) : dcN a (List.replicate n (48 : UInt8)) = a * 10 ^ n := by
  induction n generalizing a with
  | zero => show a = a * 10 ^ 0; rw [Nat.pow_zero, Nat.mul_one]
  | succ n ih =>
    rw [List.replicate_succ]
    show dcN (a * 10 + ((48 : UInt8).toNat - 48)) (List.replicate n 48) = _
    rw [ih, show (48 : UInt8).toNat - 48 = 0 from rfl, Nat.add_zero, Nat.pow_succ, Nat.mul_assoc, Nat.mul_comm 10]
/-- the same number with the point elsewhere -/
theorem rat_move (m N K : Nat) (k : Int) (j : Nat) (h : K = N * 10 ^ j) : rat m (rdA K (k - j)) (rdB (k - j)) = rat m (rdA N k) (rdB k) ∧ ratC (rdA K (k - j)) (rdB (k - j)) = ratC (rdA N k) (rdB k) := by
  have e : rdA K (k - j) * rdB k = rdA N k * rdB (k - j) := by
    unfold rdA rdB
    rw [h]
    have : 10 ^ j * 10 ^ (k - (j : Int)).toNat * 10 ^ (-k).toNat = 10 ^ k.toNat * 10 ^ (-(k - (j : Int))).toNat := by
      rw [← Nat.pow_add, ← Nat.pow_add, ← Nat.pow_add]; congr 1; omega
    calc N * 10 ^ j * 10 ^ (k - (j : Int)).toNat * 10 ^ (-k).toNat = N * (10 ^ j * 10 ^ (k - (j : Int)).toNat * 10 ^ (-k).toNat) := by ac_rfl
      _ = _ := by rw [this]; ac_rfl
  exact ⟨rat_congr m (rdB_pos _) (rdB_pos _) e, ratC_congr (rdB_pos _) (rdB_pos _) e⟩
theorem shR_fits {x : Int} (x0 : 0 ≤ x) (x1 : x ≤ 18446744073709551615) (hx : 1 ≤ fabs x) : ftB (shRr x) (lmL x) (4 * lmM x + 2) (shK x (shN x)) (lmE x) (shEv x) = true ∧ 1 ≤ shRr x ∧ shRr x ≤ 10 ^ 17 := by
  obtain ⟨a1, a2, a3, a4⟩ := shN_spec x0 x1 hx
  obtain ⟨t1, t2⟩ := shQ_ten x0 x1 hx (shN x) a2
  have hst : shSt x (shN x) = (shFa x (shN x) || shFc x (shN x)) := rfl
  rw [a1] at hst
  have hp : 10 ^ (shN x) ≤ 10 ^ 17 := Nat.pow_le_pow_right (by omega) a3
  have hp1 := Nat.pow_pos (n := shN x - 1) (show 0 < 10 by omega)
  refine ⟨?_, by unfold shRr; split <;> omega, by unfold shRr; split <;> omega⟩
  unfold shRr
  cases hC : shC x (shN x)
  · rw [if_neg (by decide)]
    show shFa x (shN x) = true
    cases hfa : shFa x (shN x)
    · exfalso
      unfold shC at hC
      rw [hfa, if_neg (by simp)] at hC
      rw [hfa, hC] at hst
      exact absurd hst (by decide)
    · rfl
  · rw [if_pos rfl]
    show shFc x (shN x) = true
    unfold shC at hC
    split at hC
    · rename_i h; exact h.2
    · exact hC
theorem shT_facts {x : Int} (x0 : 0 ≤ x) (x1 : x ≤ 18446744073709551615) (hx : 1 ≤ fabs x) :
    (∀ c ∈ shT x, dgt c) ∧ shT x ≠ [] ∧ (shT x).length ≤ 18 ∧ -460 ≤ shX x ∧ shX x ≤ 460 ∧ (∃ j : Nat, shRr x = dcN 0 (shT x) * 10 ^ j ∧ shK x (shN x) = shX x - j) := by
  obtain ⟨f1, f2, f3⟩ := shR_fits x0 x1 hx
  obtain ⟨a1, a2, a3, a4⟩ := shN_spec x0 x1 hx
  have hlg := mid_bd (shD_mid x0 x1 hx).1
  have hs := trimR_split (shS x) 48
  have hlen : (shT x).length ≤ (shS x).length := trimR_len _ _
  have hsl : (shS x).length ≤ 18 := by
    have h1 := dec_mono f3
    have h2 : (Lib.decDigits (10 ^ 17)).length = 18 := by decide +kernel
    unfold shS
    omega
  have hsub : ∀ c ∈ shT x, c ∈ shS x := fun c hc => by rw [hs]; exact List.mem_append_left _ hc
  have hK : shK x (shN x) = lgD (shD x) + 1 - (shN x : Int) := rfl
  have hX : shX x = shK x (shN x) + ((shS x).length : Int) - ((shT x).length : Int) := rfl
  refine ⟨fun c hc => dec_dgt _ c (hsub c hc), ?_, by omega, by omega, by omega, (shS x).length - (shT x).length, ?_, by omega⟩
  · intro h
    have h1 : shS x = List.replicate ((shS x).length - (Lib.trimRightB (shS x) 48).length) 48 := by
      conv => lhs; rw [hs]
      rw [show Lib.trimRightB (shS x) 48 = [] from h]; rfl
    obtain ⟨c, l, e1, e2⟩ := dec_head (shRr x) (by omega)
    have h2 : c ∈ shS x := by unfold shS; rw [e1]; exact List.mem_cons_self ..
    rw [h1] at h2
    exact e2 (List.eq_of_mem_replicate h2)
  · have h1 : dcN 0 (shS x) = shRr x := dcN_dec _
    rw [← h1]
    conv => lhs; rw [hs]
    rw [dcN_app, rep_num]
    rfl
/-- the value is read -/
theorem short_rat {x : Int} (x0 : 0 ≤ x) (x1 : x ≤ 18446744073709551615) (hv : hasV x = true) (hx : 1 ≤ fabs x) : rat 2 (rdA (dcN 0 (shT x)) (shX x)) (rdB (shX x)) = (fabs x).toNat := by
  obtain ⟨f1, -, -⟩ := shR_fits x0 x1 hx
  obtain ⟨-, -, -, -, -, j, hj, hk⟩ := shT_facts x0 x1 hx
  have h := (fits_rat x0 x1 hv hx (shRr x) (shK x (shN x))).1 f1
  rw [hk] at h
  rw [← (rat_move 2 (dcN 0 (shT x)) (shRr x) (shX x) j hj).1]
  exact h
theorem short_read {x : Int} (x0 : 0 ≤ x) (x1 : x ≤ 18446744073709551615) (hn : fcls x ≠ 5) : readE (stT x) 0 = 0 ∧ readV (stT x) 0 = x ∧ (stT x).length ≤ 1000 := by
  have hk : knownB 0 = true := by decide
  have hab := fabs_bd x
  have hfx := fabs_sign x0 x1
  unfold stT
  rw [if_neg hn]
  by_cases h4 : fcls x = 4
  · rw [if_pos h4]
    have ha : fabs x = 9218868437227405312 := by
      unfold fcls at h4
      repeat' split at h4
      all_goals omega
    unfold sgS
    by_cases hs : 9223372036854775808 ≤ x
    · rw [if_pos hs]
      have e : ([45] ++ [105, 110, 102] : List UInt8) = sNinf := rfl
      rw [e]
      refine ⟨by unfold readE; rw [if_pos hk, if_pos (Or.inr (Or.inl rfl))], ?_, by decide⟩
      unfold readV
      rw [if_pos hk, if_neg (by decide), if_pos rfl]
      unfold fabs at ha; omega
    · rw [if_neg hs]
      have e : ([] ++ [105, 110, 102] : List UInt8) = sInf := rfl
      rw [e]
      refine ⟨by unfold readE; rw [if_pos hk, if_pos (Or.inl rfl)], ?_, by decide⟩
      unfold readV
      rw [if_pos hk, if_pos rfl]
      unfold fabs at ha; omega
  · rw [if_neg h4]
    by_cases h1 : fcls x = 1
    · rw [if_pos h1]
      have ha : fabs x = 0 := by
        unfold fcls at h1
        repeat' split at h1
        all_goals omega
      have e : sgS x ++ [48] = mkS (decide (9223372036854775808 ≤ x)) [48] [] [] false := by
        unfold mkS; rw [sgS_if]; rfl
      rw [e]
      have hlen : (mkS (decide (9223372036854775808 ≤ x)) [48] [] [] false).length ≤ 1000 := by unfold mkS; split <;> simp
      obtain ⟨g1, g2, -⟩ := made_num (decide (9223372036854775808 ≤ x)) [48] [] [] false (by simp) (fun c hc => by obtain rfl := List.mem_singleton.1 hc; exact ⟨by decide, by decide⟩) (fun c hc => by simp at hc) (fun _ => rfl) tail_nil hlen 0 hk
      refine ⟨g1, ?_, hlen⟩
      rw [g2]
      have hz : rdA (dcN 0 ([48] ++ [])) (0 - ((([] : List UInt8).length : Nat) : Int)) = 0 := rfl
      rw [hz, (rat_zero _ _).1]
      rw [ha] at hfx
      exact hfx
    · rw [if_neg h1]
      have hv : hasV x = true := by
        unfold hasV
        rw [decide_eq_true_eq]
        unfold fcls at h1 h4 hn
        repeat' split at h1
        all_goals omega
      have hx : 1 ≤ fabs x := by
        unfold fcls at h1
        split at h1
        · exact absurd rfl h1
        · omega
      obtain ⟨t1, t2, t3, t4, t5, -⟩ := shT_facts x0 x1 hx
      obtain ⟨W, P, E, p, q, b1, b2, b3, b4, b5, b6, ⟨j, b7, b8⟩, b9⟩ := stB_made (shT x) (shX x) t1 t2 (by omega) (by omega) (by omega)
      have e : sgS x ++ stB (shT x) (shX x) = mkS (decide (9223372036854775808 ≤ x)) W P E p := by
        rw [sgS_if, b1]; rfl
      have hlen : (mkS (decide (9223372036854775808 ≤ x)) W P E p).length ≤ 1000 := by
        rw [← e, List.length_append, sgS_if]
        split <;> simp <;> omega
      rw [e]
      obtain ⟨g1, g2, -⟩ := made_num (decide (9223372036854775808 ≤ x)) W P E p b2 b3 b4 b5 b6 hlen 0 hk
      refine ⟨g1, ?_, hlen⟩
      have hkd : ∀ b : Bool, kd b 0 = 2 := fun b => by cases b <;> rfl
      rw [g2, hkd, b8, (rat_move 2 (dcN 0 (shT x)) (dcN 0 (W ++ P)) (shX x) j b7).1, short_rat x0 x1 hv hx]
      exact hfx
end Go.Proofs.YthibhlimogcpeaaGreatDoor
