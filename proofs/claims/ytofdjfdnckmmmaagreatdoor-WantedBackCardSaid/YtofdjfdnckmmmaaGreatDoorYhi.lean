/-
  SOME OF MY TEXTS in one: Yh Yi Yl Sva. Each says what it proves.
-/
import Derived.Test.YtofdjfdnckmmmaaGreatDoorYfg
import Derived.Test.YtofdjfdnckmmmaaGreatDoorZu
import Derived.Test.YtofdjfdnckmmmaaGreatDoorLk
set_option linter.unusedVariables false
set_option linter.unusedSimpArgs false
/-
  PLAIN: the text with the fewest digits, and that it is read as it was.
-/
namespace Go.Proofs.YtofdjfdnckmmmaaGreatDoor
open Nt Fm Fl

/-- digits and an exponent, written out -/
def stB (d : List UInt8) (k : Int) : List UInt8 :=
  if k + (d.length : Int) - 1 < -5 ∨ 20 < k + (d.length : Int) - 1 then d.take 1 ++ ((if 1 < d.length then 46 :: d.drop 1 else []) ++ 101 :: pwS (k + (d.length : Int) - 1))
  else if 0 ≤ k then d ++ List.replicate k.toNat 48
  else if 0 ≤ k + (d.length : Int) - 1 then d.take (k + (d.length : Int)).toNat ++ 46 :: d.drop (k + (d.length : Int)).toNat
  else 48 :: 46 :: (List.replicate (-(k + (d.length : Int))).toNat 48 ++ d)
noncomputable def stT (x : Int) : List UInt8 :=
  if fcls x = 5 then [110, 97, 110] else sgS x ++ (if fcls x = 4 then [105, 110, 102] else if fcls x = 1 then [48] else stB (shT x) (shX x))
/-- a tail that is a power -/
theorem dec_dgN (l : List UInt8) (h : ∀ c ∈ l, dgt c) : dgN l = l.length := by
  unfold dgN
  rw [(takeW_full (p := (decCs.contains ·)) l (fun c hc => dec_has (h c hc))).1]
theorem pw_tail (p : Int) (h : p.natAbs < 1000) : Tail (101 :: pwS p) p := by
  have hd : ∀ c ∈ (if p.natAbs < 10 then [48] else []) ++ Lib.decDigits p.natAbs, dgt c := by
    intro c hc
    rcases List.mem_append.1 hc with h1 | h1
    · split at h1
      · obtain rfl := List.mem_singleton.1 h1; exact ⟨by decide, by decide⟩
      · simp at h1
    · exact dec_dgt _ c h1
  have hl : 1 ≤ ((if p.natAbs < 10 then [48] else []) ++ Lib.decDigits p.natAbs).length ∧ ((if p.natAbs < 10 then [48] else []) ++ Lib.decDigits p.natAbs).length ≤ 4 := by
    have h1 := dec_len_pos p.natAbs
    have h2 := dec_mono (show p.natAbs ≤ 999 by omega)
    have h3 : (Lib.decDigits 999).length = 3 := by decide +kernel
    rw [List.length_append]
    split <;> simp <;> omega
  have hN : dcN 0 ((if p.natAbs < 10 then [48] else []) ++ Lib.decDigits p.natAbs) = p.natAbs := by
    rw [dcN_app]
    have : dcN 0 (if p.natAbs < 10 then [48] else []) = 0 := by split <;> rfl
    rw [this, dcN_dec]
  obtain ⟨c, hc⟩ : ∃ c : UInt8, c = if p < 0 then 45 else 43 := ⟨_, rfl⟩
  have e1 : pwS p = c :: ((if p.natAbs < 10 then [48] else []) ++ Lib.decDigits p.natAbs) := by unfold pwS; rw [hc]
  generalize (if p.natAbs < 10 then [48] else []) ++ Lib.decDigits p.natAbs = l at *
  have hcc : c = 45 ∧ p < 0 ∨ c = 43 ∧ 0 ≤ p := by
    rw [hc]; by_cases h : p < 0
    · left; simp [h]
    · right; simp [h]; omega
  have hpre : Lib.hasPrefix (c :: l) [45] = decide (c = 45) ∧ Lib.hasPrefix (c :: l) [43] = decide (c = 43) := by
    rcases hcc with ⟨rfl, -⟩ | ⟨rfl, -⟩ <;> exact ⟨rfl, rfl⟩
  have hT : pwT (c :: l) = l := by
    unfold pwT
    rw [hpre.1, hpre.2]
    rcases hcc with ⟨rfl, -⟩ | ⟨rfl, -⟩ <;> rfl
  have hG : pwG (c :: l) = true := by
    unfold pwG
    rw [hT, dec_dgN l hd, decide_eq_false (show ¬ l.length = 0 by omega), decide_eq_false (show ¬ 6 < l.length by omega), decide_eq_true rfl]
    rfl
  have hOK : pwOK (101 :: pwS p) = true := by
    rw [e1]
    show ((101 == 101 || 101 == 69) && pwG (c :: l)) = true
    rw [hG]; rfl
  refine ⟨Or.inr ⟨101, pwS p, rfl, by decide, by decide⟩, hOK, ?_⟩
  show (if pwOK (101 :: pwS p) = true then pwV (pwS p) else 0) = p
  rw [if_pos hOK, e1]
  unfold pwV
  rw [hpre.1, hT, hN]
  rcases hcc with ⟨rfl, h⟩ | ⟨rfl, h⟩
  · rw [if_pos (by decide)]; omega
  · rw [if_neg (by decide)]; omega
theorem stB_made (d : List UInt8) (k : Int) (hd : ∀ c ∈ d, dgt c) (h0 : d ≠ []) (hl : d.length ≤ 30) (k0 : -500 ≤ k) (k1 : k ≤ 500) :
    ∃ W P E p q, (∀ sg : List UInt8, sg ++ stB d k = sg ++ (W ++ ((if p = true then 46 :: P else []) ++ E))) ∧ W ≠ [] ∧ (∀ c ∈ W, dgt c) ∧ (∀ c ∈ P, dgt c) ∧ (p = false → P = []) ∧ Tail E q ∧
      (∃ j : Nat, dcN 0 (W ++ P) = dcN 0 d * 10 ^ j ∧ q - (P.length : Int) = k - j) ∧ (stB d k).length ≤ 900 := by
  have hd1 : 1 ≤ d.length := by cases d with | nil => exact absurd rfl h0 | cons c l => simp
  have z48 : ∀ n, ∀ c ∈ List.replicate n (48 : UInt8), dgt c := fun n c hc => by rw [List.eq_of_mem_replicate hc]; exact ⟨by decide, by decide⟩
  have znum : ∀ (n a : Nat), dcN a (List.replicate n (48 : UInt8)) = a * 10 ^ n := fun n => by
    induction n with
    | zero => intro a; show a = a * 10 ^ 0; rw [Nat.pow_zero, Nat.mul_one]
    | succ n ih =>
      intro a
      rw [List.replicate_succ]
      show dcN (a * 10 + ((48 : UInt8).toNat - 48)) (List.replicate n 48) = _
      rw [ih, show (48 : UInt8).toNat - 48 = 0 from rfl, Nat.add_zero, Nat.pow_succ, Nat.mul_assoc, Nat.mul_comm 10]
  unfold stB
  by_cases c1 : k + (d.length : Int) - 1 < -5 ∨ 20 < k + (d.length : Int) - 1
  · rw [if_pos c1]
    refine ⟨d.take 1, d.drop 1, 101 :: pwS (k + (d.length : Int) - 1), decide (1 < d.length), k + (d.length : Int) - 1, fun sg => by simp only [decide_eq_true_eq], ?_, fun c hc => hd c (List.mem_of_mem_take hc), fun c hc => hd c (List.mem_of_mem_drop hc), ?_, pw_tail _ (by omega), ⟨0, ?_, ?_⟩, ?_⟩
    · intro h
      have h2 : (d.take 1).length = 0 := by rw [h]; rfl
      rw [List.length_take] at h2
      omega
    · intro h
      rw [decide_eq_false_iff_not] at h
      exact List.drop_eq_nil_of_le (by omega)
    · rw [List.take_append_drop, Nat.pow_zero, Nat.mul_one]
    · rw [List.length_drop]; omega
    · have h1 : (pwS (k + (d.length : Int) - 1)).length ≤ 10 := by
        unfold pwS
        have h2 := dec_mono (show (k + (d.length : Int) - 1).natAbs ≤ 9999 by omega)
        have h3 : (Lib.decDigits 9999).length = 4 := by decide +kernel
        rw [List.length_cons, List.length_append]
        split <;> simp <;> omega
      simp only [List.length_append, List.length_take, List.length_cons]
      split <;> simp <;> omega
  · rw [if_neg c1]
    by_cases c2 : 0 ≤ k
    · rw [if_pos c2]
      refine ⟨d ++ List.replicate k.toNat 48, [], [], false, 0, fun sg => by simp, ?_, ?_, fun c hc => by simp at hc, fun _ => rfl, tail_nil, ⟨k.toNat, ?_, by simp; omega⟩, by simp; omega⟩
      · intro h; exact h0 (List.append_eq_nil_iff.1 h).1
      · intro c hc
        rcases List.mem_append.1 hc with h | h
        · exact hd c h
        · exact z48 _ c h
      · rw [List.append_nil, dcN_app, znum]
    · rw [if_neg c2]
      by_cases c3 : 0 ≤ k + (d.length : Int) - 1
      · rw [if_pos c3]
        refine ⟨d.take (k + (d.length : Int)).toNat, d.drop (k + (d.length : Int)).toNat, [], true, 0, fun sg => by simp, ?_, fun c hc => hd c (List.mem_of_mem_take hc), fun c hc => hd c (List.mem_of_mem_drop hc), (fun h => absurd h (by decide)), tail_nil, ⟨0, ?_, ?_⟩, ?_⟩
        · intro h
          have h2 : (d.take (k + (d.length : Int)).toNat).length = 0 := by rw [h]; rfl
          rw [List.length_take] at h2
          omega
        · rw [List.take_append_drop, Nat.pow_zero, Nat.mul_one]
        · rw [List.length_drop]; omega
        · simp only [List.length_append, List.length_take, List.length_cons, List.length_drop]; omega
      · rw [if_neg c3]
        refine ⟨[48], List.replicate (-(k + (d.length : Int))).toNat 48 ++ d, [], true, 0, fun sg => by simp, by simp, ?_, ?_, (fun h => absurd h (by decide)), tail_nil, ⟨0, ?_, ?_⟩, ?_⟩
        · intro c hc; obtain rfl := List.mem_singleton.1 hc; exact ⟨by decide, by decide⟩
        · intro c hc
          rcases List.mem_append.1 hc with h | h
          · exact z48 _ c h
          · exact hd c h
        · rw [← List.append_assoc, dcN_app, dcN_app, show dcN 0 [48] = 0 from rfl, znum, Nat.zero_mul, Nat.pow_zero, Nat.mul_one]
        · rw [List.length_append, List.length_replicate]; omega
        · simp only [List.length_cons, List.length_append, List.length_replicate]; omega
end Go.Proofs.YtofdjfdnckmmmaaGreatDoor

/-
  PLAIN: the text with the fewest digits is read as it was (STEELE, WHITE).
-/
namespace Go.Proofs.YtofdjfdnckmmmaaGreatDoor
open Nt Fm Fl

theorem trimR_split (l : List UInt8) (c : UInt8) : l = Lib.trimRightB l c ++ List.replicate (l.length - (Lib.trimRightB l c).length) c := by
  have h := List.takeWhile_append_dropWhile (p := (· == c)) (l := l.reverse)
  have e : l = (l.reverse.dropWhile (· == c)).reverse ++ (l.reverse.takeWhile (· == c)).reverse := by
    rw [← List.reverse_append, h, List.reverse_reverse]
  have e2 : (l.reverse.takeWhile (· == c)).reverse = List.replicate (l.length - (Lib.trimRightB l c).length) c := by
    rw [List.eq_replicate_iff]
    constructor
    · have := congrArg List.length e
      rw [List.length_append] at this
      unfold Lib.trimRightB
      omega
    · intro b hb
      rw [List.mem_reverse] at hb
      have := takeW_mem hb
      simpa using this
  conv => lhs; rw [e, e2]
  rfl
theorem rep_num (n a : Nat) : dcN a (List.replicate n (48 : UInt8)) = a * 10 ^ n := by
  induction n generalizing a with
  | zero => show a = a * 10 ^ 0; rw [Nat.pow_zero, Nat.mul_one]
  | succ n ih =>
    rw [List.replicate_succ]
    show dcN (a * 10 + ((48 : UInt8).toNat - 48)) (List.replicate n 48) = _
    rw [ih, show (48 : UInt8).toNat - 48 = 0 from rfl, Nat.add_zero, Nat.pow_succ, Nat.mul_assoc, Nat.mul_comm 10]
/-- the same number with the point elsewhere -/
theorem rat_move (m N K : Nat) (k : Int) (j : Nat) (h : K = N * 10 ^ j) : rat m (rdA K (k - j)) (rdB (k - j)) = rat m (rdA N k) (rdB k) ∧ ratC (rdA K (k - j)) (rdB (k - j)) = ratC (rdA N k) (rdB k) := by
  have e : rdA K (k - j) * rdB k = rdA N k * rdB (k - j) := by
    unfold rdA rdB
    rw [h]
    have : 10 ^ j * 10 ^ (k - (j : Int)).toNat * 10 ^ (-k).toNat = 10 ^ k.toNat * 10 ^ (-(k - (j : Int))).toNat := by
      rw [← Nat.pow_add, ← Nat.pow_add, ← Nat.pow_add]; congr 1; omega
    calc N * 10 ^ j * 10 ^ (k - (j : Int)).toNat * 10 ^ (-k).toNat = N * (10 ^ j * 10 ^ (k - (j : Int)).toNat * 10 ^ (-k).toNat) := by ac_rfl
      _ = _ := by rw [this]; ac_rfl
  exact ⟨rat_congr m (rdB_pos _) (rdB_pos _) e, ratC_congr (rdB_pos _) (rdB_pos _) e⟩
theorem shR_fits {x : Int} (x0 : 0 ≤ x) (x1 : x ≤ 18446744073709551615) (hx : 1 ≤ fabs x) : ftB (shRr x) (lmL x) (4 * lmM x + 2) (shK x (shN x)) (lmE x) (shEv x) = true ∧ 1 ≤ shRr x ∧ shRr x ≤ 10 ^ 17 := by
  obtain ⟨a1, a2, a3, a4⟩ := shN_spec x0 x1 hx
  obtain ⟨t1, t2⟩ := shQ_ten x0 x1 hx (shN x) a2
  have hst : shSt x (shN x) = (shFa x (shN x) || shFc x (shN x)) := rfl
  rw [a1] at hst
  have hp : 10 ^ (shN x) ≤ 10 ^ 17 := Nat.pow_le_pow_right (by omega) a3
  have hp1 := Nat.pow_pos (n := shN x - 1) (show 0 < 10 by omega)
  refine ⟨?_, by unfold shRr; split <;> omega, by unfold shRr; split <;> omega⟩
  unfold shRr
  cases hC : shC x (shN x)
  · rw [if_neg (by decide)]
    show shFa x (shN x) = true
    cases hfa : shFa x (shN x)
    · exfalso
      unfold shC at hC
      rw [hfa, if_neg (by simp)] at hC
      rw [hfa, hC] at hst
      exact absurd hst (by decide)
    · rfl
  · rw [if_pos rfl]
    show shFc x (shN x) = true
    unfold shC at hC
    split at hC
    · rename_i h; exact h.2
    · exact hC
theorem shT_facts {x : Int} (x0 : 0 ≤ x) (x1 : x ≤ 18446744073709551615) (hx : 1 ≤ fabs x) :
    (∀ c ∈ shT x, dgt c) ∧ shT x ≠ [] ∧ (shT x).length ≤ 18 ∧ -460 ≤ shX x ∧ shX x ≤ 460 ∧ (∃ j : Nat, shRr x = dcN 0 (shT x) * 10 ^ j ∧ shK x (shN x) = shX x - j) := by
  obtain ⟨f1, f2, f3⟩ := shR_fits x0 x1 hx
  obtain ⟨a1, a2, a3, a4⟩ := shN_spec x0 x1 hx
  have hlg := mid_bd (shD_mid x0 x1 hx).1
  have hs := trimR_split (shS x) 48
  have hlen : (shT x).length ≤ (shS x).length := trimR_len _ _
  have hsl : (shS x).length ≤ 18 := by
    have h1 := dec_mono f3
    have h2 : (Lib.decDigits (10 ^ 17)).length = 18 := by decide +kernel
    unfold shS
    omega
  have hsub : ∀ c ∈ shT x, c ∈ shS x := fun c hc => by rw [hs]; exact List.mem_append_left _ hc
  have hK : shK x (shN x) = lgD (shD x) + 1 - (shN x : Int) := rfl
  have hX : shX x = shK x (shN x) + ((shS x).length : Int) - ((shT x).length : Int) := rfl
  refine ⟨fun c hc => dec_dgt _ c (hsub c hc), ?_, by omega, by omega, by omega, (shS x).length - (shT x).length, ?_, by omega⟩
  · intro h
    have h1 : shS x = List.replicate ((shS x).length - (Lib.trimRightB (shS x) 48).length) 48 := by
      conv => lhs; rw [hs]
      rw [show Lib.trimRightB (shS x) 48 = [] from h]; rfl
    obtain ⟨c, l, e1, e2⟩ := dec_head (shRr x) (by omega)
    have h2 : c ∈ shS x := by unfold shS; rw [e1]; exact List.mem_cons_self ..
    rw [h1] at h2
    exact e2 (List.eq_of_mem_replicate h2)
  · have h1 : dcN 0 (shS x) = shRr x := dcN_dec _
    rw [← h1]
    conv => lhs; rw [hs]
    rw [dcN_app, rep_num]
    rfl
/-- the value is read -/
theorem short_rat {x : Int} (x0 : 0 ≤ x) (x1 : x ≤ 18446744073709551615) (hv : hasV x = true) (hx : 1 ≤ fabs x) : rat 2 (rdA (dcN 0 (shT x)) (shX x)) (rdB (shX x)) = (fabs x).toNat := by
  obtain ⟨f1, -, -⟩ := shR_fits x0 x1 hx
  obtain ⟨-, -, -, -, -, j, hj, hk⟩ := shT_facts x0 x1 hx
  have h := (fits_rat x0 x1 hv hx (shRr x) (shK x (shN x))).1 f1
  rw [hk] at h
  rw [← (rat_move 2 (dcN 0 (shT x)) (shRr x) (shX x) j hj).1]
  exact h
theorem short_read {x : Int} (x0 : 0 ≤ x) (x1 : x ≤ 18446744073709551615) (hn : fcls x ≠ 5) : readE (stT x) 0 = 0 ∧ readV (stT x) 0 = x ∧ (stT x).length ≤ 1000 := by
  have hk : knownB 0 = true := by decide
  have hab := fabs_bd x
  have hfx := fabs_sign x0 x1
  unfold stT
  rw [if_neg hn]
  by_cases h4 : fcls x = 4
  · rw [if_pos h4]
    have ha : fabs x = 9218868437227405312 := by
      unfold fcls at h4
      repeat' split at h4
      all_goals omega
    unfold sgS
    by_cases hs : 9223372036854775808 ≤ x
    · rw [if_pos hs]
      have e : ([45] ++ [105, 110, 102] : List UInt8) = sNinf := rfl
      rw [e]
      refine ⟨by unfold readE; rw [if_pos hk, if_pos (Or.inr (Or.inl rfl))], ?_, by decide⟩
      unfold readV
      rw [if_pos hk, if_neg (by decide), if_pos rfl]
      unfold fabs at ha; omega
    · rw [if_neg hs]
      have e : ([] ++ [105, 110, 102] : List UInt8) = sInf := rfl
      rw [e]
      refine ⟨by unfold readE; rw [if_pos hk, if_pos (Or.inl rfl)], ?_, by decide⟩
      unfold readV
      rw [if_pos hk, if_pos rfl]
      unfold fabs at ha; omega
  · rw [if_neg h4]
    by_cases h1 : fcls x = 1
    · rw [if_pos h1]
      have ha : fabs x = 0 := by
        unfold fcls at h1
        repeat' split at h1
        all_goals omega
      have e : sgS x ++ [48] = mkS (decide (9223372036854775808 ≤ x)) [48] [] [] false := by
        unfold mkS; rw [sgS_if]; rfl
      rw [e]
      have hlen : (mkS (decide (9223372036854775808 ≤ x)) [48] [] [] false).length ≤ 1000 := by unfold mkS; split <;> simp
      obtain ⟨g1, g2, -⟩ := made_num (decide (9223372036854775808 ≤ x)) [48] [] [] false (by simp) (fun c hc => by obtain rfl := List.mem_singleton.1 hc; exact ⟨by decide, by decide⟩) (fun c hc => by simp at hc) (fun _ => rfl) tail_nil hlen 0 hk
      refine ⟨g1, ?_, hlen⟩
      rw [g2]
      have hz : rdA (dcN 0 ([48] ++ [])) (0 - ((([] : List UInt8).length : Nat) : Int)) = 0 := rfl
      rw [hz, (rat_zero _ _).1]
      rw [ha] at hfx
      exact hfx
    · rw [if_neg h1]
      have hv : hasV x = true := by
        unfold hasV
        rw [decide_eq_true_eq]
        unfold fcls at h1 h4 hn
        repeat' split at h1
        all_goals omega
      have hx : 1 ≤ fabs x := by
        unfold fcls at h1
        split at h1
        · exact absurd rfl h1
        · omega
      obtain ⟨t1, t2, t3, t4, t5, -⟩ := shT_facts x0 x1 hx
      obtain ⟨W, P, E, p, q, b1, b2, b3, b4, b5, b6, ⟨j, b7, b8⟩, b9⟩ := stB_made (shT x) (shX x) t1 t2 (by omega) (by omega) (by omega)
      have e : sgS x ++ stB (shT x) (shX x) = mkS (decide (9223372036854775808 ≤ x)) W P E p := by
        rw [sgS_if, b1]; rfl
      have hlen : (mkS (decide (9223372036854775808 ≤ x)) W P E p).length ≤ 1000 := by
        rw [← e, List.length_append, sgS_if]
        split <;> simp <;> omega
      rw [e]
      obtain ⟨g1, g2, -⟩ := made_num (decide (9223372036854775808 ≤ x)) W P E p b2 b3 b4 b5 b6 hlen 0 hk
      refine ⟨g1, ?_, hlen⟩
      have hkd : ∀ b : Bool, kd b 0 = 2 := fun b => by cases b <;> rfl
      rw [g2, hkd, b8, (rat_move 2 (dcN 0 (shT x)) (dcN 0 (W ++ P)) (shX x) j b7).1, short_rat x0 x1 hv hx]
      exact hfx
end Go.Proofs.YtofdjfdnckmmmaaGreatDoor

/-
  PLAIN: the digits are the fewest: fewer of them, rounded to either side, are not read as the number.
-/
namespace Go.Proofs.YtofdjfdnckmmmaaGreatDoor
open Nt Fm Fl

theorem dcN_snoc (a : List UInt8) (c : UInt8) : dcN 0 (a ++ [c]) = dcN 0 a * 10 + (c.toNat - 48) := by
  rw [dcN_app]; rfl
theorem snoc_of : ∀ (l : List UInt8), l ≠ [] → ∃ a c, l = a ++ [c] := fun l h => ⟨l.dropLast, l.getLast h, (List.dropLast_concat_getLast h).symm⟩
theorem trimR_last (l : List UInt8) (c : UInt8) {a : List UInt8} {b : UInt8} (h : Lib.trimRightB l c = a ++ [b]) : b ≠ c := by
  unfold Lib.trimRightB at h
  have h2 : l.reverse.dropWhile (· == c) = b :: a.reverse := by
    have := congrArg List.reverse h
    rw [List.reverse_reverse, List.reverse_append] at this
    exact this
  have h3 : ∀ m : List UInt8, ∀ t, m.dropWhile (· == c) = b :: t → (b == c) = false := by
    intro m
    induction m with
    | nil => intro t h; simp at h
    | cons d m ih =>
      intro t h
      by_cases g : (d == c) = true
      · rw [List.dropWhile_cons, if_pos g] at h
        exact ih t h
      · rw [List.dropWhile_cons, if_neg g] at h
        obtain ⟨rfl, -⟩ := List.cons.inj h
        exact Bool.eq_false_iff.2 g
  have h4 := h3 _ _ h2
  rw [beq_eq_false_iff_ne] at h4
  exact h4
theorem sci_num {d : D} (hm : Mid d) {n : Nat} (h1 : 1 ≤ n) (mode : Int) : ∃ j : Nat, dgQ d n mode = dcN 0 (dgT d n mode) * 10 ^ j ∧ dgP d n mode - ((n : Int) - 1) = lgD d + 1 - n + j := by
  obtain ⟨b0, b1⟩ := dg_bd (mid_lg hm) n h1 mode
  have e : dQ d ((n : Int) - 1 - lgD d) mode = dgQ d n mode := rfl
  try rw [e] at b0 b1
  unfold dgT dgP
  rw [if_neg hm.m0, if_neg hm.m0]
  generalize dgQ d n mode = Q at *
  by_cases h : n < (Lib.decDigits Q).length
  · refine ⟨1, ?_, by rw [if_pos h]; omega⟩
    have h2 : (Lib.decDigits Q).length ≤ n + 1 := dec_len_le (n + 1) Q (by omega) (by have : 10 ^ n < 10 ^ (n + 1) := Nat.pow_lt_pow_right (by omega) (by omega); omega)
    have hQ : Q = 10 ^ n := by
      refine Nat.le_antisymm b1 (Nat.not_lt.1 fun g => ?_)
      have := dec_len_le n Q h1 g
      omega
    have h4 : dgS Q n = (Lib.decDigits Q).take n := by unfold dgS; rw [if_pos h]
    rw [h4]
    have h5 : ((Lib.decDigits Q).drop n).length = 1 := by rw [List.length_drop]; omega
    obtain ⟨c, hc⟩ := List.length_eq_one_iff.1 h5
    have h6 := dcN_dec Q
    have h7 : Lib.decDigits Q = (Lib.decDigits Q).take n ++ [c] := by rw [← hc, List.take_append_drop]
    have hcd : dgt c := dec_dgt Q c (by rw [h7]; simp)
    rw [h7, dcN_snoc] at h6
    generalize dcN 0 ((Lib.decDigits Q).take n) = t at *
    obtain ⟨k, rfl⟩ : ∃ k, n = k + 1 := ⟨n - 1, by omega⟩
    rw [Nat.pow_succ] at hQ
    unfold dgt at hcd
    rw [Nat.pow_one]
    omega
  · refine ⟨0, ?_, by rw [if_neg h]; omega⟩
    have h4 : dgS Q n = Lib.decDigits Q := by unfold dgS; rw [if_neg h]
    rw [h4, dcN_dec, Nat.pow_zero, Nat.mul_one]
theorem dgQ_two {x : Int} (n : Nat) (mode : Int) : dgQ (valD x) n mode = shQ x n ∨ dgQ (valD x) n mode = shQ x n + 1 := by
  unfold dgQ dQ shQ
  have e : (n : Int) - 1 - lgD (valD x) = -shK x n := by unfold shK; rw [shD_lg]; omega
  rw [e, (shD_dN x _).1, (shD_dN x _).2]
  unfold rq
  split
  · exact Or.inl rfl
  · split
    · exact Or.inr rfl
    · exact Or.inl rfl
theorem least_ne {x : Int} (x0 : 0 ≤ x) (x1 : x ≤ 18446744073709551615) (hv : hasV x = true) (hx : 1 ≤ fabs x) {n : Nat} (h1 : 1 ≤ n) (h17 : n ≤ 17) (hst : shSt x n = false) (mode : Int) :
    readE (scT x n mode) 0 = 0 ∧ readV (scT x n mode) 0 ≠ x ∧ (scT x n mode).length ≤ 1000 := by
  have hk : knownB 0 = true := by decide
  obtain ⟨Md, Mv⟩ := shD_mid x0 x1 hx
  have hfx := fabs_sign x0 x1
  have hl := dgT_len (Or.inr Mv) h1 mode
  have hpb := dgP_bd (Or.inr Mv) n mode
  have hdg : ∀ c ∈ dgT (valD x) n mode, dgt c := by
    obtain ⟨b0, b1⟩ := dg_bd (mid_lg Mv) n h1 mode
    unfold dgT
    rw [if_neg Mv.m0]
    exact (dgS_spec h1 b0 b1).2.1
  obtain ⟨j, j1, j2⟩ := sci_num Mv h1 mode
  have hq := dgQ_two (x := x) n mode
  have hlg := shD_lg x
  unfold scT
  rw [pt_one h1 hl]
  generalize dgT (valD x) n mode = T at *
  generalize dgP (valD x) n mode = p at *
  generalize dgQ (valD x) n mode = Q at *
  have e : sgS x ++ ((if n = 1 then T else T.take 1 ++ 46 :: T.drop 1) ++ ([101] ++ pwS p)) = mkS (decide (9223372036854775808 ≤ x)) (T.take 1) (T.drop 1) (101 :: pwS p) (decide (n ≠ 1)) := by
    unfold mkS
    rw [sgS_if]
    congr 1
    by_cases g : n = 1
    · rw [if_pos g, decide_eq_false (by omega)]
      have : T.take 1 = T := List.take_of_length_le (by omega)
      simp [this]
    · rw [if_neg g, decide_eq_true g]
      simp
  have hlen : (mkS (decide (9223372036854775808 ≤ x)) (T.take 1) (T.drop 1) (101 :: pwS p) (decide (n ≠ 1))).length ≤ 1000 := by
    have hp := pwS_le p (by omega)
    unfold mkS
    simp only [List.length_append, List.length_take, List.length_cons]
    split <;> split <;> simp <;> omega
  rw [e]
  obtain ⟨g1, g2, -⟩ := made_num (decide (9223372036854775808 ≤ x)) (T.take 1) (T.drop 1) (101 :: pwS p) (decide (n ≠ 1)) (by
      intro h
      have h2 : (T.take 1).length = 0 := by rw [h]; rfl
      rw [List.length_take] at h2
      omega) (fun c hc => hdg c (List.mem_of_mem_take hc)) (fun c hc => hdg c (List.mem_of_mem_drop hc)) (by
      intro h
      rw [decide_eq_false_iff_not] at h
      exact List.drop_eq_nil_of_le (by omega)) (pw_tail p (by omega)) hlen 0 hk
  refine ⟨g1, ?_, hlen⟩
  have hkd : ∀ b : Bool, kd b 0 = 2 := fun b => by cases b <;> rfl
  have hdl : ((T.drop 1).length : Int) = (n : Int) - 1 := by rw [List.length_drop]; omega
  have hKK : shK x n = p - ((n : Int) - 1) - j := by unfold shK; rw [hlg]; omega
  rw [g2, hkd, hdl, List.take_append_drop, ← (rat_move 2 (dcN 0 T) Q (p - ((n : Int) - 1)) j j1).1, ← hKK]
  intro heq
  have hr : rat 2 (rdA Q (shK x n)) (rdB (shK x n)) = (fabs x).toNat := by
    simp only [decide_eq_true_eq] at heq hfx
    omega
  have hf := (fits_rat x0 x1 hv hx Q (shK x n)).2 hr
  unfold shSt at hst
  rw [Bool.or_eq_false_iff] at hst
  unfold shFa shFc shEv at hst
  rcases hq with rfl | rfl
  · rw [hst.1] at hf; exact absurd hf (by decide)
  · rw [hst.2] at hf; exact absurd hf (by decide)
/-- what the digits are -/
theorem least_d {x : Int} (x0 : 0 ≤ x) (x1 : x ≤ 18446744073709551615) (hx : 1 ≤ fabs x) :
    (shT x).length ≤ shN x ∧ (∃ c l, shT x = c :: l ∧ c ≠ 48) ∧ (∃ a c, shT x = a ++ [c] ∧ c ≠ 48) := by
  obtain ⟨t1, t2, t3, t4, t5, -⟩ := shT_facts x0 x1 hx
  obtain ⟨f1, f2, f3⟩ := shR_fits x0 x1 hx
  obtain ⟨a1, a2, a3, a4⟩ := shN_spec x0 x1 hx
  have hs := trimR_split (shS x) 48
  have hsp : shS x = shT x ++ List.replicate ((shS x).length - (shT x).length) 48 := hs
  obtain ⟨a, c, hac⟩ := snoc_of _ t2
  have hc48 : c ≠ 48 := trimR_last (shS x) 48 hac
  refine ⟨?_, ?_, a, c, hac, hc48⟩
  · have hQ := (shQ_ten x0 x1 hx (shN x) a2).2
    have hR : shRr x ≤ 10 ^ shN x := by unfold shRr; split <;> omega
    have hlen : (shT x).length ≤ (shS x).length := trimR_len _ _
    have hn1 : (shS x).length ≤ shN x + 1 := dec_len_le (shN x + 1) (shRr x) (by omega) (by have : 10 ^ shN x < 10 ^ (shN x + 1) := Nat.pow_lt_pow_right (by omega) (by omega); omega)
    by_cases h : shRr x < 10 ^ shN x
    · have : (shS x).length ≤ shN x := dec_len_le _ _ a2 h
      omega
    · have hRe : shRr x = 10 ^ shN x := by omega
      refine Nat.not_lt.1 fun g => ?_
      have h0 : (shS x).length - (shT x).length = 0 := by omega
      rw [h0] at hsp
      have h2 : shS x = a ++ [c] := by rw [hsp, hac]; simp
      have h3 : dcN 0 (shS x) = shRr x := dcN_dec _
      rw [h2, dcN_snoc, hRe] at h3
      have hcd : dgt c := t1 c (by rw [hac]; simp)
      unfold dgt at hcd
      have hne : c.toNat ≠ 48 := fun h => hc48 (UInt8.toNat_inj.1 (by rw [h]; rfl))
      obtain ⟨k, hk⟩ : ∃ k, shN x = k + 1 := ⟨shN x - 1, by omega⟩
      rw [hk, Nat.pow_succ] at h3
      omega
  · obtain ⟨c, l, e1, e2⟩ := dec_head (shRr x) (by omega)
    have e1' : shS x = c :: l := e1
    cases hT : shT x with
    | nil => exact absurd hT t2
    | cons c' l' =>
      refine ⟨c', l', rfl, ?_⟩
      rw [hT, e1'] at hsp
      rw [← (List.cons.inj hsp).1]
      exact e2
theorem least_st {x : Int} (x0 : 0 ≤ x) (x1 : x ≤ 18446744073709551615) (hx : 1 ≤ fabs x) {n : Nat} (h1 : 1 ≤ n) (h : n < (shT x).length) : shSt x n = false ∧ n ≤ 17 := by
  obtain ⟨a1, a2, a3, a4⟩ := shN_spec x0 x1 hx
  have := (least_d x0 x1 hx).1
  exact ⟨a4 n h1 (by omega), by omega⟩
end Go.Proofs.YtofdjfdnckmmmaaGreatDoor

/-
  PLAIN: for ReadSeventeen: seventeen digits are read as the number; a number that is read from fifteen digits is told in them.
-/
namespace Go.Proofs.YtofdjfdnckmmmaaGreatDoor
open Nt Fm Fl

theorem up0 (neg odd : Bool) (a b : Nat) : upB neg odd (sgn2 ((a : Nat) : Int) (b : Int)) 0 = true ↔ (b < a ∨ (a = b ∧ odd = true)) := by
  unfold upB
  rw [if_neg (by decide), if_neg (by decide), if_neg (by decide), if_neg (by decide), Bool.or_eq_true, Bool.and_eq_true, decide_eq_true_eq, decide_eq_true_eq, sg_pos, sg_nul]
/-- what is rounded to the nearest is near -/
theorem rq_bd (neg : Bool) {N D : Nat} (hD : 0 < D) : 2 * N ≤ 2 * (rq neg N D 0 * D) + D ∧ 2 * (rq neg N D 0 * D) ≤ 2 * N + D := by
  unfold rq
  have hu := up0 neg (decide (N / D % 2 = 1)) (N % D * 2) D
  have hdm := Nat.div_add_mod N D
  have hlt := Nat.mod_lt N hD
  generalize upB neg (decide (N / D % 2 = 1)) (sgn2 ((N % D * 2 : Nat) : Int) (D : Int)) 0 = u at *
  generalize N / D = p at *
  generalize N % D = m at *
  have e : D * p = p * D := Nat.mul_comm ..
  rw [e] at hdm
  by_cases h0 : m = 0
  · rw [if_pos h0]; omega
  · rw [if_neg h0]
    cases u
    · rw [if_neg (by decide)]
      have : ¬ D < m * 2 := fun h => absurd (hu.2 (Or.inl h)) (by decide)
      omega
    · rw [if_pos rfl, Nat.add_mul]
      have := hu.1 rfl
      omega
theorem rq_near {neg : Bool} {N D q : Nat} (hD : 0 < D) (h1 : 2 * N < 2 * (q * D) + D) (h2 : 2 * (q * D) < 2 * N + D) : rq neg N D 0 = q := by
  unfold rq
  have hu := up0 neg (decide (N / D % 2 = 1)) (N % D * 2) D
  have hdm := Nat.div_add_mod N D
  have hlt := Nat.mod_lt N hD
  generalize upB neg (decide (N / D % 2 = 1)) (sgn2 ((N % D * 2 : Nat) : Int) (D : Int)) 0 = u at *
  generalize N / D = p at *
  generalize N % D = m at *
  have e : D * p = p * D := Nat.mul_comm ..
  rw [e] at hdm
  have key : p = q ∨ p + 1 = q := by
    rcases Nat.lt_trichotomy p q with h | h | h
    · rcases Nat.lt_or_ge (p + 1) q with g | g
      · have h3 : (p + 2) * D ≤ q * D := Nat.mul_le_mul_right _ (by omega)
        rw [Nat.add_mul] at h3
        omega
      · exact Or.inr (by omega)
    · exact Or.inl h
    · have h3 : (q + 1) * D ≤ p * D := Nat.mul_le_mul_right _ (by omega)
      rw [Nat.add_mul] at h3
      omega
  rcases key with rfl | rfl
  · by_cases h0 : m = 0
    · rw [if_pos h0]
    · rw [if_neg h0, if_neg]
      intro h
      have := hu.1 h
      omega
  · rw [Nat.add_mul] at h1 h2
    rw [if_neg (by omega), if_pos (hu.2 (by omega))]
/-- the text of so many digits, read -/
theorem sci_read {x : Int} (x0 : 0 ≤ x) (x1 : x ≤ 18446744073709551615) (hx : 1 ≤ fabs x) {n : Nat} (h1 : 1 ≤ n) (h17 : n ≤ 17) (mode : Int) :
    readE (scT x n mode) 0 = 0 ∧ readV (scT x n mode) 0 = (rat 2 (rdA (dgQ (valD x) n mode) (lgD (valD x) + 1 - n)) (rdB (lgD (valD x) + 1 - n)) : Int) + (if 9223372036854775808 ≤ x then 9223372036854775808 else 0) ∧ (scT x n mode).length ≤ 1000 := by
  have hk : knownB 0 = true := by decide
  obtain ⟨Md, Mv⟩ := shD_mid x0 x1 hx
  have hl := dgT_len (Or.inr Mv) h1 mode
  have hpb := dgP_bd (Or.inr Mv) n mode
  have hdg : ∀ c ∈ dgT (valD x) n mode, dgt c := by
    obtain ⟨b0, b1⟩ := dg_bd (mid_lg Mv) n h1 mode
    unfold dgT
    rw [if_neg Mv.m0]
    exact (dgS_spec h1 b0 b1).2.1
  obtain ⟨j, j1, j2⟩ := sci_num Mv h1 mode
  unfold scT
  rw [pt_one h1 hl]
  generalize dgT (valD x) n mode = T at *
  generalize dgP (valD x) n mode = p at *
  generalize dgQ (valD x) n mode = Q at *
  have e : sgS x ++ ((if n = 1 then T else T.take 1 ++ 46 :: T.drop 1) ++ ([101] ++ pwS p)) = mkS (decide (9223372036854775808 ≤ x)) (T.take 1) (T.drop 1) (101 :: pwS p) (decide (n ≠ 1)) := by
    unfold mkS
    rw [sgS_if]
    congr 1
    by_cases g : n = 1
    · rw [if_pos g, decide_eq_false (by omega)]
      have : T.take 1 = T := List.take_of_length_le (by omega)
      simp [this]
    · rw [if_neg g, decide_eq_true g]
      simp
  have hlen : (mkS (decide (9223372036854775808 ≤ x)) (T.take 1) (T.drop 1) (101 :: pwS p) (decide (n ≠ 1))).length ≤ 1000 := by
    have hp := pwS_le p (by omega)
    unfold mkS
    simp only [List.length_append, List.length_take, List.length_cons]
    split <;> split <;> simp <;> omega
  rw [e]
  obtain ⟨g1, g2, -⟩ := made_num (decide (9223372036854775808 ≤ x)) (T.take 1) (T.drop 1) (101 :: pwS p) (decide (n ≠ 1)) (by
      intro h
      have h2 : (T.take 1).length = 0 := by rw [h]; rfl
      rw [List.length_take] at h2
      omega) (fun c hc => hdg c (List.mem_of_mem_take hc)) (fun c hc => hdg c (List.mem_of_mem_drop hc)) (by
      intro h
      rw [decide_eq_false_iff_not] at h
      exact List.drop_eq_nil_of_le (by omega)) (pw_tail p (by omega)) hlen 0 hk
  refine ⟨g1, ?_, hlen⟩
  have hkd : ∀ b : Bool, kd b 0 = 2 := fun b => by cases b <;> rfl
  have hdl : ((T.drop 1).length : Int) = (n : Int) - 1 := by rw [List.length_drop]; omega
  have hKK : lgD (valD x) + 1 - (n : Int) = p - ((n : Int) - 1) - j := by omega
  rw [g2, hkd, hdl, List.take_append_drop, ← (rat_move 2 (dcN 0 T) Q (p - ((n : Int) - 1)) j j1).1, ← hKK]
  simp only [decide_eq_true_eq]
/-- seventeen digits, to the nearest -/
theorem sci_seventeen {x : Int} (x0 : 0 ≤ x) (x1 : x ≤ 18446744073709551615) (hv : hasV x = true) (hx : 1 ≤ fabs x) : readE (scT x 17 0) 0 = 0 ∧ readV (scT x 17 0) 0 = x ∧ (scT x 17 0).length ≤ 1000 := by
  obtain ⟨g1, g2, g3⟩ := sci_read x0 x1 hx (n := 17) (by omega) (by omega) 0
  refine ⟨g1, ?_, g3⟩
  obtain ⟨Md, Mv⟩ := shD_mid x0 x1 hx
  have hge := lg_ge (mid_lg Mv) 16
  have hdp := dD_pos (valD x) (((17 : Nat) : Int) - 1 - lgD (valD x))
  have e16 : -lgD (valD x) + ((16 : Nat) : Int) = ((17 : Nat) : Int) - 1 - lgD (valD x) := by omega
  rw [e16] at hge
  have hen := enough x0 x1 hv hx (N := dgQ (valD x) 17 0) (((17 : Nat) : Int) - 1 - lgD (valD x)) ?_ ?_ hge
  · rw [show -(((17 : Nat) : Int) - 1 - lgD (valD x)) = lgD (valD x) + 1 - ((17 : Nat) : Int) by omega] at hen
    have hfx := fabs_sign x0 x1
    rw [g2, hen]
    simp only [decide_eq_true_eq] at hfx
    exact hfx
  · exact (rq_bd _ hdp).1
  · exact (rq_bd _ hdp).2
/-- how near what is read lies, of a number of the common kind -/
theorem near15 {y : Int} (y0 : 0 ≤ y) (y1 : y ≤ 18446744073709551615) (hv : hasV y = true) (hy : 4503599627370496 ≤ fabs y) {N : Nat} (t : Int) (h : rat 2 (rdA N (-t)) (rdB (-t)) = (fabs y).toNat) :
    2 ^ 53 * (N * dD (valD y) t) ≤ (2 ^ 53 + 1) * dN (valD y) t ∧ (2 ^ 53 - 1) * dN (valD y) t ≤ 2 ^ 53 * (N * dD (valD y) t) := by
  have hd := dn_mag y0 y1 hv t
  have hMR : MR = 9218868437227405312 := rfl
  have hlt : (fabs y).toNat < MR := by unfold hasV at hv; rw [decide_eq_true_eq] at hv; omega
  have eD : dD (valD y) t = 10 ^ (-t).toNat * 2 ^ (-(valD y).e).toNat := rfl
  have hp := Nat.two_pow_pos (-(valD y).e).toNat
  have hB : 0 < rdB (-t) := by unfold rdB; exact Nat.pow_pos (by omega)
  obtain ⟨g1, g2⟩ := (rat2_iff hB hlt).1 h
  have eA : rdA N (-t) = N * 10 ^ (-t).toNat := rfl
  have eB : rdB (-t) = 10 ^ t.toNat := by unfold rdB; rw [Int.neg_neg]
  have m2 := mag_succ (fabs y).toNat
  have m1 := mag_succ ((fabs y).toNat - 1)
  rw [show (fabs y).toNat - 1 + 1 = (fabs y).toNat by omega] at m1
  have m3 := ulp_mono (show (fabs y).toNat - 1 ≤ (fabs y).toNat by omega)
  have m4 : 4503599627370496 * ulp (fabs y).toNat ≤ mag (fabs y).toNat := by
    have hr : 4503599627370496 ≤ (fabs y).toNat := by omega
    generalize (fabs y).toNat = r at hr ⊢
    obtain ⟨j, hj⟩ : ∃ j, j = r / 4503599627370496 - 1 := ⟨_, rfl⟩
    have h1 := mag_of (r - j * 4503599627370496) j (Or.inl (by omega)) (by omega)
    rw [show r - j * 4503599627370496 + j * 4503599627370496 = r by omega] at h1
    have h2 : ulp r = 2 ^ j := by unfold ulp; rw [hj]
    rw [h1, h2]
    exact Nat.mul_le_mul_right _ (by omega)
  have hu : 0 < u74 := by unfold u74; exact Nat.two_pow_pos _
  generalize mag (fabs y).toNat = M at *
  generalize mag ((fabs y).toNat + 1) = M1 at *
  generalize mag ((fabs y).toNat - 1) = M0 at *
  generalize ulp ((fabs y).toNat - 1) = U0 at *
  generalize ulp (fabs y).toNat = U at *
  generalize u74 = u at *
  generalize dN (valD y) t = n at *
  generalize dD (valD y) t = d at *
  have eA2 : rdA N (-t) * u * 2 ^ (-(valD y).e).toNat = N * d * u := by rw [eA, eD]; ac_rfl
  have eB2 : M * rdB (-t) * 2 ^ (-(valD y).e).toNat = n * u := by rw [eB, ← hd]
  generalize rdA N (-t) = A at *
  generalize rdB (-t) = B at *
  generalize 2 ^ (-(valD y).e).toNat = E at *
  have hU : 4503599627370496 * (U * B) ≤ M * B := by rw [← Nat.mul_assoc]; exact Nat.mul_le_mul_right _ m4
  have hlo : (2 * M) * B ≤ 2 * (A * u) + U * B := by
    have h1 : (M0 + M) * B ≤ 2 * (A * u) := by
      rcases g1 with g | g | ⟨g, -⟩
      · omega
      · omega
      · omega
    have h2 : (2 * M) * B ≤ (M0 + M + U) * B := Nat.mul_le_mul_right _ (by omega)
    rw [Nat.add_mul (M0 + M)] at h2
    omega
  have hhi : 2 * (A * u) ≤ (2 * M) * B + U * B := by
    have h1 : 2 * (A * u) ≤ (M + M1) * B := by
      rcases g2 with g | ⟨g, -⟩
      · omega
      · omega
    have h2 : (M + M1) * B ≤ (2 * M + U) * B := Nat.mul_le_mul_right _ (by omega)
    rw [Nat.add_mul (2 * M)] at h2
    omega
  rw [Nat.mul_assoc] at hlo hhi
  have f1 : 9007199254740992 * (A * u) ≤ 9007199254740993 * (M * B) := by omega
  have f2 : 9007199254740991 * (M * B) ≤ 9007199254740992 * (A * u) := by omega
  have k1 : 9007199254740992 * (N * d) ≤ 9007199254740993 * n := by
    apply Nat.le_of_mul_le_mul_right _ hu
    have e1 : 9007199254740992 * (N * d) * u = 9007199254740992 * (A * u) * E := by rw [Nat.mul_assoc, ← eA2]; simp only [Nat.mul_assoc]
    have e2 : 9007199254740993 * n * u = 9007199254740993 * (M * B) * E := by rw [Nat.mul_assoc, ← eB2]; simp only [Nat.mul_assoc]
    rw [e1, e2]
    exact Nat.mul_le_mul_right _ f1
  have k2 : 9007199254740991 * n ≤ 9007199254740992 * (N * d) := by
    apply Nat.le_of_mul_le_mul_right _ hu
    have e1 : 9007199254740992 * (N * d) * u = 9007199254740992 * (A * u) * E := by rw [Nat.mul_assoc, ← eA2]; simp only [Nat.mul_assoc]
    have e2 : 9007199254740991 * n * u = 9007199254740991 * (M * B) * E := by rw [Nat.mul_assoc, ← eB2]; simp only [Nat.mul_assoc]
    rw [e1, e2]
    exact Nat.mul_le_mul_right _ f2
  exact ⟨k1, k2⟩
theorem ge_up {d : D} {p : Int} (k : Nat) (h : Ge10 d p) : 10 ^ k * dD d (-p + k) ≤ dN d (-p + k) := by
  have h1 := d_shift d (-p) k
  have h2 := Nat.mul_le_mul_right (10 ^ k * dD d (-p + k)) h
  rw [← Nat.mul_assoc (dN d (-p)), ← h1, Nat.mul_comm (dD d (-p))] at h2
  exact Nat.le_of_mul_le_mul_right h2 (dD_pos d _)
theorem ge_not {d : D} {p : Int} (k : Nat) (h : ¬ Ge10 d p) : dN d (-p + k) < 10 ^ k * dD d (-p + k) := by
  have h1 := d_shift d (-p) k
  have h2 := Nat.mul_lt_mul_of_pos_right (Nat.not_le.1 h) (Nat.mul_pos (Nat.pow_pos (show 0 < 10 by omega) (n := k)) (dD_pos d (-p + k)))
  rw [← Nat.mul_assoc (dN d (-p)), ← h1, Nat.mul_comm (dD d (-p))] at h2
  exact Nat.lt_of_mul_lt_mul_right h2
/-- fifteen digits come again -/
theorem sci_fifteen {y : Int} (y0 : 0 ≤ y) (y1 : y ≤ 18446744073709551615) (hv : hasV y = true) (hy : 4503599627370496 ≤ fabs y) {N : Nat} (n0 : 10 ^ 14 ≤ N) (n1 : N < 10 ^ 15) (k : Int) (h : rat 2 (rdA N (k - 14)) (rdB (k - 14)) = (fabs y).toNat) :
    dgT (valD y) 15 0 = Lib.decDigits N ∧ dgP (valD y) 15 0 = k := by
  obtain ⟨Md, Mv⟩ := shD_mid y0 y1 (show 1 ≤ fabs y by omega)
  have hL := isLg_iff.1 (mid_lg Mv)
  have hk : k - 14 = -(14 - k) := by omega
  rw [hk] at h
  obtain ⟨H1, H2⟩ := near15 y0 y1 hv hy (14 - k) h
  have hd := dD_pos (valD y) (14 - k)
  have e53 : (2 : Nat) ^ 53 = 9007199254740992 := by decide
  have e14 : (10 : Nat) ^ 14 = 100000000000000 := by decide
  have e15 : (10 : Nat) ^ 15 = 1000000000000000 := by decide
  rw [e53] at H1 H2
  rw [e14] at n0
  rw [e15] at n1
  have X1 : N * dD (valD y) (14 - k) ≤ 999999999999999 * dD (valD y) (14 - k) := Nat.mul_le_mul_right _ (by omega)
  have X0 : 100000000000000 * dD (valD y) (14 - k) ≤ N * dD (valD y) (14 - k) := Nat.mul_le_mul_right _ n0
  obtain ⟨L, hLL⟩ : ∃ L, L = lgD (valD y) := ⟨_, rfl⟩
  rw [← hLL] at hL
  have up : L ≤ k := by
    refine Int.not_lt.1 fun g => ?_
    have h3 := ge_up 15 (ge_anti (show k + 1 ≤ L by omega) hL.1)
    rw [show -(k + 1) + ((15 : Nat) : Int) = 14 - k by omega, e15] at h3
    generalize N * dD (valD y) (14 - k) = X at *
    generalize dD (valD y) (14 - k) = d at *
    generalize dN (valD y) (14 - k) = n at *
    omega
  have lo : k - 1 ≤ L := by
    refine Int.not_lt.1 fun g => ?_
    have h3 := ge_not 13 (fun h => hL.2 (ge_anti (show L + 1 ≤ k - 1 by omega) h))
    rw [show -(k - 1) + ((13 : Nat) : Int) = 14 - k by omega, show (10 : Nat) ^ 13 = 10000000000000 by decide] at h3
    generalize N * dD (valD y) (14 - k) = X at *
    generalize dD (valD y) (14 - k) = d at *
    generalize dN (valD y) (14 - k) = n at *
    omega
  have hdgQ : dgQ (valD y) 15 0 = rq (valD y).neg (dN (valD y) (((15 : Nat) : Int) - 1 - L)) (dD (valD y) (((15 : Nat) : Int) - 1 - L)) 0 := by rw [hLL]; rfl
  unfold dgT dgP
  rw [if_neg Mv.m0, if_neg Mv.m0, hdgQ, ← hLL]
  rcases (show L = k ∨ L = k - 1 by omega) with hc | hc
  · rw [show ((15 : Nat) : Int) - 1 - L = 14 - k by omega]
    have hq : rq (valD y).neg (dN (valD y) (14 - k)) (dD (valD y) (14 - k)) 0 = N := rq_near hd (by
      generalize N * dD (valD y) (14 - k) = X at *
      generalize dD (valD y) (14 - k) = d at *
      generalize dN (valD y) (14 - k) = n at *
      omega) (by
      generalize N * dD (valD y) (14 - k) = X at *
      generalize dD (valD y) (14 - k) = d at *
      generalize dN (valD y) (14 - k) = n at *
      omega)
    rw [hq]
    have hl := dec_len_le 15 N (by omega) (by rw [e15]; exact n1)
    unfold dgS
    rw [if_neg (by omega), if_neg (by omega)]
    exact ⟨rfl, hc⟩
  · have h3 := ge_not 14 (show ¬ Ge10 (valD y) k from fun h => hL.2 (ge_anti (show L + 1 ≤ k by omega) h))
    rw [show -k + ((14 : Nat) : Int) = 14 - k by omega, e14] at h3
    have hs := d_shift (valD y) (14 - k) 1
    have hd2 := dD_pos (valD y) (14 - k + ((1 : Nat) : Int))
    have hN : N = 100000000000000 := by
      refine Nat.le_antisymm (Nat.not_lt.1 fun g => ?_) n0
      have X2 : 100000000000001 * dD (valD y) (14 - k) ≤ N * dD (valD y) (14 - k) := Nat.mul_le_mul_right _ (by omega)
      generalize N * dD (valD y) (14 - k) = X at *
      generalize dD (valD y) (14 - k) = d at *
      generalize dN (valD y) (14 - k) = n at *
      omega
    subst hN
    rw [show ((15 : Nat) : Int) - 1 - L = 14 - k + ((1 : Nat) : Int) by omega]
    have hq : rq (valD y).neg (dN (valD y) (14 - k + ((1 : Nat) : Int))) (dD (valD y) (14 - k + ((1 : Nat) : Int))) 0 = 1000000000000000 := by
      generalize dN (valD y) (14 - k + ((1 : Nat) : Int)) = n2 at *
      generalize dD (valD y) (14 - k + ((1 : Nat) : Int)) = d2 at *
      generalize dD (valD y) (14 - k) = d at *
      generalize dN (valD y) (14 - k) = n at *
      rw [Nat.pow_one] at hs
      have q1 : 20 * n < 2000000000000001 * d := by omega
      have q2 : 2000000000000000 * d < 20 * n + d := by omega
      refine rq_near hd2 ?_ ?_
      · apply Nat.lt_of_mul_lt_mul_right (a := d)
        calc 2 * n2 * d = 20 * n * d2 := by rw [Nat.mul_assoc, hs]; simp only [Nat.mul_assoc, Nat.mul_comm, Nat.mul_left_comm]
          _ < 2000000000000001 * d * d2 := Nat.mul_lt_mul_of_pos_right q1 hd2
          _ = (2 * (1000000000000000 * d2) + d2) * d := by rw [show 2 * (1000000000000000 * d2) + d2 = 2000000000000001 * d2 by omega, Nat.mul_assoc, Nat.mul_assoc, Nat.mul_comm d]
      · apply Nat.lt_of_mul_lt_mul_right (a := d)
        calc 2 * (1000000000000000 * d2) * d = 2000000000000000 * d * d2 := by rw [show 2 * (1000000000000000 * d2) = 2000000000000000 * d2 by omega, Nat.mul_assoc, Nat.mul_assoc, Nat.mul_comm d]
          _ < (20 * n + d) * d2 := Nat.mul_lt_mul_of_pos_right q2 hd2
          _ = (2 * n2 + d2) * d := by
            rw [Nat.add_mul, Nat.add_mul, Nat.mul_assoc 2 n2, hs, Nat.mul_comm d d2]
            congr 1
            simp only [Nat.mul_assoc, Nat.mul_comm, Nat.mul_left_comm]
    rw [hq]
    have hl : (Lib.decDigits 1000000000000000).length = 16 := by decide +kernel
    unfold dgS
    rw [if_pos (by omega), if_pos (by omega)]
    exact ⟨by decide +kernel, by omega⟩
end Go.Proofs.YtofdjfdnckmmmaaGreatDoor
