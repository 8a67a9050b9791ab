/-
  SOME OF MY TEXTS in one: Wbp WantedBackW OpenF. Each says what it proves.
-/
import Derived.Test.YtofdjfdnckmmmaaGreatDoorWls
import Derived.Test.YtofdjfdnckmmmaaGreatDoorYhi
import Derived.Test.YtofdjfdnckmmmaaGreatDoorWbt
import Derived.Test.YtofdjfdnckmmmaaGreatDoorWfd
import Derived.Lib.SmallJoins
import Derived.ChangeSlices
set_option linter.unusedVariables false
set_option linter.unusedSimpArgs false
/-
  PLAIN: what is told with seventeen digits is read as it was.
-/
namespace Go.Proofs.YtofdjfdnckmmmaaGreatDoor
open Go.RowKit Go.Lib Nt Fm Fl

/-- a text without sign that is read as the number of that rank -/
def Bd (B : List UInt8) (r : Nat) : Prop := ∃ W P E p q, B = W ++ ((if p = true then 46 :: P else []) ++ E) ∧ W ≠ [] ∧ (∀ c ∈ W, dgt c) ∧ (∀ c ∈ P, dgt c) ∧ (p = false → P = []) ∧ Tail E q ∧ (E = [] ∨ ∃ e, E = 101 :: e) ∧
  rat 2 (rdA (dcN 0 (W ++ P)) (q - P.length)) (rdB (q - P.length)) = r
theorem Bd.read {B : List UInt8} {r : Nat} (h : Bd B r) (neg : Bool) (hl : B.length ≤ 900) :
    readE ((if neg = true then [45] else []) ++ B) 0 = 0 ∧ readV ((if neg = true then [45] else []) ++ B) 0 = (r : Int) + (if neg = true then 9223372036854775808 else 0) := by
  obtain ⟨W, P, E, p, q, hB, h0, hW, hP, hp, hE, -, hr⟩ := h
  have e : (if neg = true then [45] else []) ++ B = mkS neg W P E p := by rw [hB]; rfl
  have hk : knownB 0 = true := by decide
  have hln : (mkS neg W P E p).length ≤ 1000 := by
    rw [← e, List.length_append]
    split <;> simp <;> omega
  obtain ⟨g1, g2, -⟩ := made_num neg W P E p h0 hW hP hp hE hln 0 hk
  have hkd : ∀ b : Bool, kd b 0 = 2 := fun b => by cases b <;> rfl
  rw [hkd, hr] at g2
  rw [e]
  exact ⟨g1, g2⟩
theorem dgt_ne {c : UInt8} (h : dgt c) : c ≠ 46 ∧ c ≠ 101 ∧ c ≠ 45 := dgt_not h
theorem wA_app {A E : List UInt8} (c : UInt8) (hA : c ∉ A) (hE : E = [] ∨ ∃ e, E = c :: e) : wA c (A ++ E) = A ∧ wB c (A ++ E) = E := by
  unfold wA wB
  induction A with
  | nil =>
    rcases hE with rfl | ⟨e, rfl⟩
    · exact ⟨rfl, rfl⟩
    · simp
  | cons b A ih =>
    have hb : b ≠ c := fun h => hA (by simp [h])
    have := ih (fun h => hA (by simp [h]))
    rw [List.cons_append, List.takeWhile_cons_of_pos (by simp [hb]), List.dropWhile_cons_of_pos (by simp [hb]), this.1, this.2]
    exact ⟨rfl, rfl⟩
theorem nought_ahead : ∀ R : List UInt8, ∃ j R', R = List.replicate j 48 ++ R' ∧ (R' = [] ∨ ∃ c A, R' = c :: A ∧ c ≠ 48)
  | [] => ⟨0, [], rfl, Or.inl rfl⟩
  | c :: R => by
    by_cases h : c = 48
    · obtain ⟨j, R', h1, h2⟩ := nought_ahead R
      exact ⟨j + 1, R', by rw [h, h1, List.replicate_succ]; rfl, h2⟩
    · exact ⟨0, c :: R, rfl, Or.inr ⟨c, R, rfl, h⟩⟩
theorem nought_end (P : List UInt8) : ∃ j P', P = P' ++ List.replicate j 48 ∧ (P' = [] ∨ ∃ A c, P' = A ++ [c] ∧ c ≠ 48) := by
  obtain ⟨j, R', h1, h2⟩ := nought_ahead P.reverse
  refine ⟨j, R'.reverse, ?_, ?_⟩
  · have := congrArg List.reverse h1
    rw [List.reverse_reverse, List.reverse_append, List.reverse_replicate] at this
    exact this
  · rcases h2 with rfl | ⟨c, A, rfl, h⟩
    · exact Or.inl rfl
    · exact Or.inr ⟨A.reverse, c, by simp, h⟩
theorem trimR_end {A : List UInt8} {c : UInt8} (h : c ≠ 48) (j : Nat) : Lib.trimRightB ((A ++ [c]) ++ List.replicate j 48) 48 = A ++ [c] := by
  unfold Lib.trimRightB
  rw [List.reverse_append, List.reverse_replicate, List.reverse_append]
  have : ∀ (j : Nat) (l : List UInt8), (List.replicate j (48 : UInt8) ++ l).dropWhile (· == 48) = l.dropWhile (· == 48) := by
    intro j l
    induction j with
    | zero => rfl
    | succ j ih => rw [List.replicate_succ, List.cons_append, List.dropWhile_cons_of_pos (by simp), ih]
  rw [this]
  simp [h]
theorem dcN_zeros (a j : Nat) : dcN a (List.replicate j 48) = a * 10 ^ j := by
  induction j generalizing a with
  | zero => exact (Nat.mul_one a).symm
  | succ j ih =>
    have h48 : (48 : UInt8).toNat - 48 = 0 := by decide
    have e : dcN a (48 :: List.replicate j 48) = dcN (a * 10 + ((48 : UInt8).toNat - 48)) (List.replicate j 48) := rfl
    rw [List.replicate_succ, e, ih, h48, Nat.add_zero, Nat.pow_succ, Nat.mul_assoc, Nat.mul_comm 10]
theorem Bd.cut {B : List UInt8} {r : Nat} (h : Bd B r) : Bd (wCut B) r := by
  obtain ⟨W, P, E, p, q, hB, h0, hW, hP, hp, hE, hE2, hr⟩ := h
  have nW : (101 : UInt8) ∉ W := fun g => (dgt_ne (hW 101 g)).2.1 rfl
  have nP : (101 : UInt8) ∉ P := fun g => (dgt_ne (hP 101 g)).2.1 rfl
  cases p with
  | false =>
    have hP0 := hp rfl
    subst hP0
    have hB2 : B = W ++ E := by rw [hB]; simp
    obtain ⟨e1, e2⟩ := wA_app 101 nW hE2
    have e3 : wCut B = B := by
      unfold wCut
      rw [hB2, e1, e2]
      unfold wCutM
      rw [if_neg (fun g => (dgt_ne (hW 46 g)).1 rfl)]
    rw [e3]
    exact ⟨W, [], E, false, q, hB, h0, hW, hP, hp, hE, hE2, hr⟩
  | true =>
    have hB2 : B = (W ++ 46 :: P) ++ E := by rw [hB]; simp
    obtain ⟨e1, e2⟩ := wA_app (A := W ++ 46 :: P) 101 (by
      intro g
      rcases List.mem_append.1 g with g | g
      · exact nW g
      · rcases List.mem_cons.1 g with g | g
        · exact absurd g (by decide)
        · exact nP g) hE2
    obtain ⟨j, P', hP', hP2⟩ := nought_end P
    have hdP' : ∀ c ∈ P', dgt c := fun c hc => hP c (by rw [hP']; exact List.mem_append_left _ hc)
    have hNj : dcN 0 (W ++ P) = dcN 0 (W ++ P') * 10 ^ j := by rw [hP', ← List.append_assoc, dcN_app, dcN_zeros]
    have hPl : (P.length : Int) = P'.length + j := by rw [hP']; simp
    have hr2 : rat 2 (rdA (dcN 0 (W ++ P')) (q - P'.length)) (rdB (q - P'.length)) = r := by
      rw [← hr, show (q : Int) - (P.length : Int) = (q - P'.length) - (j : Int) by omega]
      exact (rat_move 2 _ _ (q - P'.length) j hNj).1.symm
    have hm : wCut B = wCutM (W ++ 46 :: P) ++ E := by
      unfold wCut
      rw [hB2, e1, e2]
    rcases hP2 with rfl | ⟨A, c, rfl, hc⟩
    · have e4 : wCutM (W ++ 46 :: P) = W := by
        unfold wCutM
        rw [if_pos (by simp), hP', List.nil_append, show W ++ 46 :: List.replicate j 48 = (W ++ [46]) ++ List.replicate j 48 by simp, trimR_end (by decide)]
        simp [Lib.trimSuffix, Lib.hasSuffix]
      rw [hm, e4]
      exact ⟨W, [], E, false, q, by simp, h0, hW, fun c hc => absurd hc (by simp), fun _ => rfl, hE, hE2, hr2⟩
    · have e4 : wCutM (W ++ 46 :: P) = W ++ 46 :: (A ++ [c]) := by
        have hc46 : c ≠ 46 := (dgt_ne (hdP' c (by simp))).1
        unfold wCutM
        rw [if_pos (by simp), hP', show W ++ 46 :: (A ++ [c] ++ List.replicate j 48) = ((W ++ 46 :: A) ++ [c]) ++ List.replicate j 48 by simp, trimR_end hc]
        have : Lib.hasSuffix (W ++ 46 :: A ++ [c]) [46] = false := by
          unfold Lib.hasSuffix List.isSuffixOf
          rw [List.reverse_append]
          have hb : ((46 : UInt8) == c) = false := by simp [Ne.symm hc46]
          simp only [List.reverse_cons, List.reverse_nil, List.nil_append, List.cons_append, List.isPrefixOf, hb, Bool.false_and]
        unfold Lib.trimSuffix
        rw [this]
        simp
      rw [hm, e4]
      exact ⟨W, A ++ [c], E, true, q, by simp, h0, hW, hdP', fun h => absurd h (by decide), hE, hE2, hr2⟩
theorem Bd.ins {B : List UInt8} {r : Nat} (h : Bd B r) (h46 : 46 ∉ B) : Bd (wIns 101 B) r := by
  obtain ⟨W, P, E, p, q, hB, h0, hW, hP, hp, hE, hE2, hr⟩ := h
  have nW : (101 : UInt8) ∉ W := fun g => (dgt_ne (hW 101 g)).2.1 rfl
  cases p with
  | true => exact absurd (by rw [hB]; simp) h46
  | false =>
    have hP0 := hp rfl
    subst hP0
    have hB2 : B = W ++ E := by rw [hB]; simp
    obtain ⟨e1, e2⟩ := wA_app 101 nW hE2
    unfold wIns
    rw [hB2, e1, e2]
    exact ⟨W, [], E, true, q, by simp, h0, hW, hP, fun _ => rfl, hE, hE2, hr⟩
theorem rat_nought {N : Nat} (h : N = 0) (K : Int) : rat 2 (rdA N K) (rdB K) = 0 := by
  have e : rdA N K = 0 := by unfold rdA; rw [h, Nat.zero_mul]
  rw [e]
  exact (rat_zero _ _).1
theorem sgb_pos {y : Int} (y1 : y ≤ 9223372036854775807) : sgS y = [] := by unfold sgS; rw [if_neg (by omega)]
theorem y_zero {y : Int} (y0 : 0 ≤ y) (y1 : y ≤ 9223372036854775807) (h : fabs y < 1) : y = 0 := by unfold fabs at h; omega
theorem bd_sci {y : Int} (y0 : 0 ≤ y) (y1 : y ≤ 9223372036854775807) (hv : hasV y = true) {n : Nat} (h17 : 17 ≤ n) (h200 : n ≤ 200) : Bd (scS y n 0) (fabs y).toNat := by
  have hE : scE y n 0 = 0 := by
    rcases scE_cases y n 0 with ⟨a, b⟩ | ⟨a, b, c⟩ | ⟨a, b, c⟩
    · rw [hv] at a; exact absurd a (by decide)
    · exact absurd ⟨by omega, by omega, by omega⟩ b
    · exact c
  unfold scS
  rw [if_pos hE, Int.toNat_natCast]
  unfold scT
  rw [sgb_pos y1, List.nil_append]
  by_cases hy : 1 ≤ fabs y
  · obtain ⟨Md, Mv⟩ := shD_mid y0 (by omega) hy
    have hl := dgT_len (Or.inr Mv) (g := n) (by omega) 0
    have hpb := dgP_bd (Or.inr Mv) n 0
    have hdg : ∀ c ∈ dgT (valD y) n 0, dgt c := by
      obtain ⟨b0, b1⟩ := dg_bd (mid_lg Mv) n (by omega) 0
      unfold dgT
      rw [if_neg Mv.m0]
      exact (dgS_spec (by omega) b0 b1).2.1
    obtain ⟨j, j1, j2⟩ := sci_num Mv (n := n) (by omega) 0
    rw [pt_one (by omega) hl, if_neg (by omega)]
    have hge := lg_ge (mid_lg Mv) (n - 1)
    have hdp := dD_pos (valD y) ((n : Int) - 1 - lgD (valD y))
    have e16 : -lgD (valD y) + ((n - 1 : Nat) : Int) = (n : Int) - 1 - lgD (valD y) := by omega
    rw [e16] at hge
    have h16 : 10 ^ 16 * dD (valD y) ((n : Int) - 1 - lgD (valD y)) ≤ dN (valD y) ((n : Int) - 1 - lgD (valD y)) := Nat.le_trans (Nat.mul_le_mul_right _ (Nat.pow_le_pow_right (by omega) (by omega))) hge
    have hen := enough y0 (by omega) hv hy (N := dgQ (valD y) n 0) ((n : Int) - 1 - lgD (valD y)) (rq_bd _ hdp).1 (rq_bd _ hdp).2 h16
    rw [show -((n : Int) - 1 - lgD (valD y)) = lgD (valD y) + 1 - (n : Int) by omega] at hen
    generalize dgT (valD y) n 0 = T at *
    generalize dgP (valD y) n 0 = p at *
    generalize dgQ (valD y) n 0 = Q at *
    refine ⟨T.take 1, T.drop 1, 101 :: pwS p, true, p, by simp, ?_, fun c hc => hdg c (List.mem_of_mem_take hc), fun c hc => hdg c (List.mem_of_mem_drop hc), fun h => absurd h (by decide), pw_tail p (by omega), Or.inr ⟨_, rfl⟩, ?_⟩
    · intro h
      have h2 : (T.take 1).length = 0 := by rw [h]; rfl
      rw [List.length_take] at h2
      omega
    · have hdl : ((T.drop 1).length : Int) = (n : Int) - 1 := by rw [List.length_drop]; omega
      have hKK : lgD (valD y) + 1 - (n : Int) = p - ((n : Int) - 1) - j := by omega
      rw [hdl, List.take_append_drop, ← (rat_move 2 (dcN 0 T) Q (p - ((n : Int) - 1)) j j1).1, ← hKK]
      exact hen
  · have hy0 := y_zero y0 y1 (by omega)
    subst hy0
    have hm : (valD 0).m = 0 := by decide
    have hf : (fabs 0).toNat = 0 := by decide
    unfold dgT dgP
    rw [if_pos hm, if_pos hm, hf, pt_one (by omega) (List.length_replicate ..), if_neg (by omega)]
    have hd : ∀ k, ∀ c ∈ List.replicate k (48 : UInt8), dgt c := by
      intro k c hc
      rw [List.eq_of_mem_replicate hc]
      exact ⟨by decide, by decide⟩
    refine ⟨(List.replicate n 48).take 1, (List.replicate n 48).drop 1, 101 :: pwS 0, true, 0, by simp, ?_, fun c hc => hd n c (List.mem_of_mem_take hc), fun c hc => hd n c (List.mem_of_mem_drop hc), fun h => absurd h (by decide), pw_tail 0 (by decide), Or.inr ⟨_, rfl⟩, ?_⟩
    · intro h
      have h2 : ((List.replicate n (48 : UInt8)).take 1).length = 0 := by rw [h]; rfl
      rw [List.length_take, List.length_replicate] at h2
      omega
    · rw [List.take_append_drop]
      exact rat_nought (by rw [dcN_zeros]; simp) _
theorem bd_fix {y : Int} (y0 : 0 ≤ y) (y1 : y ≤ 9223372036854775807) (hv : hasV y = true) {g : Nat} (h17 : 17 ≤ g) (h200 : g ≤ 200) (hk : -4 ≤ dgP (valD y) g 0 ∧ dgP (valD y) g 0 < (g : Int)) :
    Bd (fxS y ((g : Int) - 1 - dgP (valD y) g 0) 0) (fabs y).toNat ∧ (fxS y ((g : Int) - 1 - dgP (valD y) g 0) 0).length ≤ 500 := by
  obtain ⟨t, ht⟩ := Int.eq_ofNat_of_zero_le (show 0 ≤ (g : Int) - 1 - dgP (valD y) g 0 by omega)
  have ht2 : t ≤ 300 := by omega
  rw [ht]
  have hE : fxE y t 0 = 0 := by
    rcases fxE_cases y t 0 with ⟨a, b⟩ | ⟨a, b, c⟩ | ⟨a, b, c⟩
    · rw [hv] at a; exact absurd a (by decide)
    · exact absurd ⟨by omega, by omega, by omega⟩ b
    · exact c
  have hS : fxS y t 0 = pt (Lib.decDigits (dQ (valD y) t 0)) t := by
    unfold fxS
    rw [if_pos hE, sgb_pos y1, List.nil_append, Int.toNat_natCast]
  have key : rat 2 (rdA (dQ (valD y) t 0) (0 - (t : Int))) (rdB (0 - (t : Int))) = (fabs y).toNat ∧ dQ (valD y) t 0 < 10 ^ 201 := by
    by_cases hy : 1 ≤ fabs y
    · obtain ⟨Md, Mv⟩ := shD_mid y0 (by omega) hy
      obtain ⟨b0, b1⟩ := dg_bd (mid_lg Mv) g (by omega) 0
      have hge := lg_ge (mid_lg Mv) (g - 1)
      have hdp := dD_pos (valD y) ((g : Int) - 1 - lgD (valD y))
      have e16 : -lgD (valD y) + ((g - 1 : Nat) : Int) = (g : Int) - 1 - lgD (valD y) := by omega
      rw [e16] at hge
      have h16 : 10 ^ 16 * dD (valD y) ((g : Int) - 1 - lgD (valD y)) ≤ dN (valD y) ((g : Int) - 1 - lgD (valD y)) := Nat.le_trans (Nat.mul_le_mul_right _ (Nat.pow_le_pow_right (by omega) (by omega))) hge
      have hen := enough y0 (by omega) hv hy (N := dQ (valD y) ((g : Int) - 1 - lgD (valD y)) 0) ((g : Int) - 1 - lgD (valD y)) (rq_bd _ hdp).1 (rq_bd _ hdp).2 h16
      unfold dgP dgQ at ht
      rw [if_neg Mv.m0] at ht
      by_cases ho : g < (Lib.decDigits (dQ (valD y) ((g : Int) - 1 - lgD (valD y)) 0)).length
      · rw [if_pos ho] at ht
        have hN : dQ (valD y) ((g : Int) - 1 - lgD (valD y)) 0 = 10 ^ g := by
          rcases Nat.lt_or_ge (dQ (valD y) ((g : Int) - 1 - lgD (valD y)) 0) (10 ^ g) with h | h
          · have := dec_len_le g _ (by omega) h; omega
          · exact Nat.le_antisymm b1 h
        have et : (g : Int) - 1 - lgD (valD y) = (t : Int) + (1 : Nat) := by omega
        rw [et] at hN hen hdp
        have hd2 := dD_pos (valD y) (t : Int)
        have hsh := d_shift (valD y) (t : Int) 1
        obtain ⟨r1, r2⟩ := rq_bd (valD y).neg (N := dN (valD y) ((t : Int) + (1 : Nat))) hdp
        have hN' : rq (valD y).neg (dN (valD y) ((t : Int) + (1 : Nat))) (dD (valD y) ((t : Int) + (1 : Nat))) 0 = 10 ^ g := hN
        rw [hN'] at r1 r2
        have hg1 : 10 ^ g = 10 ^ (g - 1) * 10 := by rw [← Nat.pow_succ]; congr 1; omega
        have hM : dQ (valD y) t 0 = 10 ^ (g - 1) := by
          unfold dQ
          rw [hg1] at r1 r2
          generalize 10 ^ (g - 1) = M at *
          generalize dN (valD y) ((t : Int) + (1 : Nat)) = A1 at *
          generalize dD (valD y) ((t : Int) + (1 : Nat)) = D1 at *
          generalize dN (valD y) (t : Int) = A at *
          generalize dD (valD y) (t : Int) = D at *
          rw [Nat.pow_one] at hsh
          -- A1 * D = A * 10 * D1
          refine rq_near hd2 ?_ ?_
          · have h := Nat.mul_le_mul_right D r1
            have h2 : 0 < D * D1 := Nat.mul_pos hd2 hdp
            have : (2 * A) * (10 * D1) < (2 * (M * D) + D) * (10 * D1) := by
              have e1 : (2 * A) * (10 * D1) = 2 * A1 * D := by
                rw [Nat.mul_assoc 2 A1 D, hsh]; grind
              have e2 : (2 * (M * 10 * D1) + D1) * D + 9 * (D * D1) = (2 * (M * D) + D) * (10 * D1) := by grind
              rw [e1]
              omega
            exact Nat.lt_of_mul_lt_mul_right this
          · have h := Nat.mul_le_mul_right D r2
            have h2 : 0 < D * D1 := Nat.mul_pos hd2 hdp
            have : (2 * (M * D)) * (10 * D1) < (2 * A + D) * (10 * D1) := by
              have e1 : (2 * A + D) * (10 * D1) = (2 * A1 + D1) * D + 9 * (D * D1) := by
                have : A1 * D = A * 10 * D1 := hsh
                grind
              have e2 : (2 * (M * D)) * (10 * D1) = 2 * (M * 10 * D1) * D := by grind
              rw [e1, e2]
              omega
            exact Nat.lt_of_mul_lt_mul_right this
        rw [hM]
        refine ⟨?_, Nat.pow_lt_pow_right (by omega) (by omega)⟩
        have hmv := (rat_move 2 (10 ^ (g - 1)) (10 ^ g) (0 - (t : Int)) 1 (by rw [hg1, Nat.pow_one])).1
        rw [← hmv, ← hN]
        rw [show (0 : Int) - (t : Int) - ((1 : Nat) : Int) = -((t : Int) + (1 : Nat)) by omega]
        exact hen
      · rw [if_neg ho] at ht
        rw [ht] at hen b1
        refine ⟨by rw [show (0 : Int) - (t : Int) = -(t : Int) by omega]; exact hen, Nat.lt_of_le_of_lt b1 (Nat.pow_lt_pow_right (by omega) (by omega))⟩
    · have hy0 := y_zero y0 y1 (by omega)
      subst hy0
      have hz : dQ (valD 0) t 0 = 0 := dQ_zero (by decide) _ _
      rw [hz]
      exact ⟨rat_nought rfl _, Nat.pow_pos (by omega)⟩
  obtain ⟨key, hlt⟩ := key
  have hlen : (fxS y t 0).length ≤ 500 := by
    have h1 := dec_len_le 201 _ (by omega) hlt
    rw [hS, pt_len]
    split <;> omega
  refine ⟨?_, hlen⟩
  obtain ⟨W, P, h0, hW, hP, hPl, hN, hs⟩ := pt_parts (dQ (valD y) t 0) t
  have e := hs [] false
  rw [List.append_nil] at e
  rw [hS]
  refine ⟨W, P, [], decide (t ≠ 0), 0, ?_, h0, hW, hP, fun h => ?_, tail_nil, Or.inl rfl, ?_⟩
  · exact e
  · have : t = 0 := by simpa using h
    exact List.length_eq_zero_iff.1 (by omega)
  · rw [hN, hPl]
    exact key
theorem wCut_le (s : List UInt8) : (wCut s).length ≤ s.length := wCut_len s
theorem bd_val (f : Spc) {y : Int} (y0 : 0 ≤ y) (y1 : y ≤ 9223372036854775807) (hv : hasV y = true) (hf : f.verb = 101 ∨ f.verb = 103) (p17 : 17 ≤ f.pr) (p100 : f.pr ≤ 100) : Bd (wVal f y) (fabs y).toNat ∧ (wVal f y).length ≤ 501 := by
  have hp : ((wPr f.pr : Nat) : Int) = f.pr := wPr_nn (by omega)
  have h0 : Bd (wVal0 f y) (fabs y).toNat ∧ (wVal0 f y).length ≤ 500 := by
    unfold wVal0
    rcases hf with hf | hf
    · rw [if_neg (by omega), if_pos hf]
      have := bd_sci y0 y1 hv (n := wPr f.pr + 1) (by omega) (by omega)
      rw [show ((wPr f.pr + 1 : Nat) : Int) = (wPr f.pr : Int) + 1 by omega] at this
      exact ⟨this, scS_len y0 (by omega) (by omega) (by omega)⟩
    · rw [if_neg (by omega), if_neg (by omega), if_pos hf]
      have hg : max (wPr f.pr) 1 = wPr f.pr := by omega
      rw [hg]
      generalize hgg : wPr f.pr = g at *
      have g17 : 17 ≤ g := by omega
      have g100 : g ≤ 100 := by omega
      have key : Bd (if -4 ≤ dgP (valD y) g 0 ∧ dgP (valD y) g 0 < (g : Int) then fxS y ((g : Int) - 1 - dgP (valD y) g 0) 0 else scS y g 0) (fabs y).toNat ∧ (if -4 ≤ dgP (valD y) g 0 ∧ dgP (valD y) g 0 < (g : Int) then fxS y ((g : Int) - 1 - dgP (valD y) g 0) 0 else scS y g 0).length ≤ 500 := by
        by_cases h : -4 ≤ dgP (valD y) g 0 ∧ dgP (valD y) g 0 < (g : Int)
        · rw [if_pos h]
          exact bd_fix y0 y1 hv g17 (by omega) h
        · rw [if_neg h]
          exact ⟨bd_sci y0 y1 hv g17 (by omega), scS_len y0 (by omega) (by omega) (by omega)⟩
      unfold wGen
      simp only
      by_cases ha : f.al = true
      · rw [if_pos ha]; exact key
      · rw [if_neg ha]; exact ⟨key.1.cut, Nat.le_trans (wCut_len _) key.2⟩
  unfold wVal
  by_cases h : (f.al = true ∧ 46 ∉ wVal0 f y)
  · rw [if_pos h, if_neg (by omega), wIns_len]
    exact ⟨h0.1.ins h.2, by omega⟩
  · rw [if_neg h]
    exact ⟨h0.1, by omega⟩
theorem wErr_facts0 {f : Spc} (hE : wErr f = 0) : f.pr ≤ 100 := by
  unfold wErr at hE
  have hc : ¬ ((f.verb ≠ 101 ∧ f.verb ≠ 102 ∧ f.verb ≠ 103 ∧ f.verb ≠ 97) ∨ f.wd < 0 ∨ 200 < f.wd ∨ f.pr < -1 ∨ (if f.verb = 97 then 30 else 100) < f.pr) := by
    intro h
    rw [if_pos h] at hE
    exact absurd hE (by decide)
  by_cases h97 : f.verb = 97
  · rw [if_pos h97] at hc; omega
  · rw [if_neg h97] at hc; omega
end Go.Proofs.YtofdjfdnckmmmaaGreatDoor

/-
  The law WantedBack: its walk and its plain law, joined.
-/
namespace Go.Proofs.YtofdjfdnckmmmaaGreatDoor
open Go.RowKit Go.Lib Nt Fm Fl

theorem wback_plain (v : Int) (mi ze al : Bool) (pr x : Int) (x0 : 0 ≤ x) (x1 : x ≤ 18446744073709551615) (hv : v = 101 ∨ v = 103) (p17 : 17 ≤ pr) (hc : fcls x < 4) (hE : wErr ⟨v, mi, false, false, ze, al, 0, pr⟩ = 0) :
    readV (wS ⟨v, mi, false, false, ze, al, 0, pr⟩ x) 0 = x ∧ readE (wS ⟨v, mi, false, false, ze, al, 0, pr⟩ x) 0 = 0 := by
  have hb := fabs_bd x
  have hV : hasV x = true := by
    unfold hasV
    refine decide_eq_true ?_
    by_cases h1 : fabs x = 9218868437227405312
    · have := wf_c4 h1; omega
    · by_cases h2 : 9218868437227405312 < fabs x
      · have := wf_c5 h2; omega
      · omega
  have ef : fabs (fabs x) = fabs x := by unfold fabs; omega
  have hVf : hasV (fabs x) = true := by unfold hasV at *; rw [ef]; exact hV
  have hp := wErr_facts0 hE
  have hS : wS ⟨v, mi, false, false, ze, al, 0, pr⟩ x = (if decide (9223372036854775808 ≤ x) = true then [45] else []) ++ wVal ⟨v, mi, false, false, ze, al, 0, pr⟩ (fabs x) := by
    unfold wS
    rw [if_pos hE, wTxt_pad0 _ _ (wPad_0 _ _ (Int.le_refl _))]
    congr 1
    · unfold wHead
      simp only [decide_eq_true_eq]
      by_cases h : 9223372036854775808 ≤ x
      · rw [if_pos ⟨h, by omega⟩, if_pos h]
      · rw [if_neg (fun k => h k.1), if_neg h]
        simp
    · unfold wMid
      rw [if_neg (by intro k; have := k.2.2.2; simp only at this; omega)]
      unfold wBody
      rw [if_neg (by omega), if_neg (by omega)]
  obtain ⟨hB, hl⟩ := bd_val ⟨v, mi, false, false, ze, al, 0, pr⟩ (y := fabs x) hb.1 hb.2 hVf hv p17 hp
  obtain ⟨r1, r2⟩ := hB.read (decide (9223372036854775808 ≤ x)) (by omega)
  rw [hS]
  refine ⟨?_, r1⟩
  rw [r2, ef]
  exact fabs_sign x0 x1
theorem walkWantedBack (f : Spc) (v0 : -9223372036854775808 ≤ f.verb) (v1 : f.verb ≤ 9223372036854775807) (d0 : -9223372036854775808 ≤ f.wd) (d1 : f.wd ≤ 9223372036854775807) (p0 : -9223372036854775808 ≤ f.pr) (p1 : f.pr ≤ 9223372036854775807)
    (x : Int) (x0 : 0 ≤ x) (x1 : x ≤ 18446744073709551615) (w : World) (hT : Tab w) (hT10 : Tab10 w) :
    Calls Tryz.prog 3 #[f.v, .int .u64 x] w fun e w' => e = .returned (.bool true) ∧ Below w.heap.size w w' := by
  obtain ⟨v, mi, pl, bl, ze, al, wd, pr⟩ := f
  have hc0 : 0 ≤ fcls x ∧ fcls x ≤ 5 := by
    unfold fcls
    repeat' split
    all_goals omega
  have CL := Lib.hid (fun w' => class_any x x0 x1 w')
  have F1 := fun w' h1 h2 => wformat_any ⟨v, mi, false, false, ze, al, 0, pr⟩ x x0 x1 w' h1 h2
  have RN := fun w' h1 => rnumber_any (wS ⟨v, mi, false, false, ze, al, 0, pr⟩ x) ⟨(wS ⟨v, mi, false, false, ze, al, 0, pr⟩ x).toArray⟩ rfl 0 w' h1
  unfold RetUBE at RN
  refine wback_t v mi pl bl ze al wd pr x _ _ (fcls x) _ _ hc0.1 hc0.2 _ w hT hT10 (Lib.hid F1) CL (Lib.hid RN) ?_
  by_cases hv : v = 101 ∨ v = 103
  · refine Or.inr ⟨hv, ?_⟩
    by_cases hp : pr < 17
    · exact Or.inl hp
    · refine Or.inr ⟨by omega, ?_⟩
      by_cases hc : 4 ≤ fcls x
      · exact Or.inl hc
      · refine Or.inr ⟨by omega, ?_⟩
        rcases wErr_01 ⟨v, mi, false, false, ze, al, 0, pr⟩ with hE | hE
        · obtain ⟨a, b⟩ := wback_plain v mi ze al pr x x0 x1 hv (by omega) (by omega) hE
          exact Or.inr ⟨hE, a, b⟩
        · exact Or.inl hE
  · exact Or.inl ⟨fun h => hv (Or.inl h), fun h => hv (Or.inr h)⟩
end Go.Proofs.YtofdjfdnckmmmaaGreatDoor

/-
  A struct of eight plain fields that is handed in, by value: its fields.
-/
namespace Go.Proofs.YtofdjfdnckmmmaaGreatDoor
open Go.RowKit Go.Deep Go.Joins Go.ChangeShapes Go.WideShapes Go.ChangeAt

theorem array8 {α : Type} {cs : Array α} (h : cs.size = 8) : ∃ c0 c1 c2 c3 c4 c5 c6 c7, cs = #[c0, c1, c2, c3, c4, c5, c6, c7] := by
  obtain ⟨l⟩ := cs
  match l, h with
  | [c0, c1, c2, c3, c4, c5, c6, c7], _ => exact ⟨c0, c1, c2, c3, c4, c5, c6, c7, rfl⟩
theorem open_spec {H : Type} {P : Program} {enc : TypeId × Value → H} {w : World} {spare : Nat → Bool} {held : Bool} {r : Reach} {b0 : Nat} {t : TypeId} {f0 f1 f2 f3 f4 f5 f6 f7 : Field} {v : Value} {d : DataW H} {p : List MemPlace}
    (hs : P.underlying t = some (.struct #[f0, f1, f2, f3, f4, f5, f6, f7])) (hone : oneCellFields P #[f0, f1, f2, f3, f4, f5, f6, f7] = true) (hC : P.cellsOf t = 8)
    (h0 : P.underlying f0.type = some (.int .i64)) (h1 : P.underlying f1.type = some .bool) (h2 : P.underlying f2.type = some .bool) (h3 : P.underlying f3.type = some .bool)
    (h4 : P.underlying f4.type = some .bool) (h5 : P.underlying f5.type = some .bool) (h6 : P.underlying f6.type = some (.int .i64)) (h7 : P.underlying f7.type = some (.int .i64))
    (hv : Value.okWide P w r b0 t v) (h : DataW.Trod enc P w 0 spare held t v d p) :
    ∃ f : Spc, v = f.v ∧ (-9223372036854775808 ≤ f.verb ∧ f.verb ≤ 9223372036854775807) ∧ (-9223372036854775808 ≤ f.wd ∧ f.wd ≤ 9223372036854775807) ∧ (-9223372036854775808 ≤ f.pr ∧ f.pr ≤ 9223372036854775807) := by
  obtain ⟨cs, rfl, hsz⟩ := okWide_struct hs hv
  obtain ⟨c0, c1, c2, c3, c4, c5, c6, c7, rfl⟩ := array8 (hsz.trans hC)
  obtain ⟨fuel, hf⟩ := h
  obtain ⟨xs, n, _, hx, hl, hlen, hf⟩ := DataW.trod_struct hs hf
  match xs, hlen with
  | [y0, y1, y2, y3, y4, y5, y6, y7], _ =>
    obtain ⟨o0, k0⟩ := hone_of hone 0 f0 rfl
    obtain ⟨o1, k1⟩ := hone_of hone 1 f1 rfl
    obtain ⟨o2, k2⟩ := hone_of hone 2 f2 rfl
    obtain ⟨o3, k3⟩ := hone_of hone 3 f3 rfl
    obtain ⟨o4, k4⟩ := hone_of hone 4 f4 rfl
    obtain ⟨o5, k5⟩ := hone_of hone 5 f5 rfl
    obtain ⟨o6, k6⟩ := hone_of hone 6 f6 rfl
    obtain ⟨o7, k7⟩ := hone_of hone 7 f7 rfl
    have g0 : DataW.trod enc P w 0 spare held n f0.type [c0] = some y0 := by simpa [Value.cells, o0, k0] using hf 0 f0 rfl
    have g1 : DataW.trod enc P w 0 spare held n f1.type [c1] = some y1 := by simpa [Value.cells, o1, k1] using hf 1 f1 rfl
    have g2 : DataW.trod enc P w 0 spare held n f2.type [c2] = some y2 := by simpa [Value.cells, o2, k2] using hf 2 f2 rfl
    have g3 : DataW.trod enc P w 0 spare held n f3.type [c3] = some y3 := by simpa [Value.cells, o3, k3] using hf 3 f3 rfl
    have g4 : DataW.trod enc P w 0 spare held n f4.type [c4] = some y4 := by simpa [Value.cells, o4, k4] using hf 4 f4 rfl
    have g5 : DataW.trod enc P w 0 spare held n f5.type [c5] = some y5 := by simpa [Value.cells, o5, k5] using hf 5 f5 rfl
    have g6 : DataW.trod enc P w 0 spare held n f6.type [c6] = some y6 := by simpa [Value.cells, o6, k6] using hf 6 f6 rfl
    have g7 : DataW.trod enc P w 0 spare held n f7.type [c7] = some y7 := by simpa [Value.cells, o7, k7] using hf 7 f7 rfl
    obtain ⟨z0, e0, _, w0⟩ := DataW.trod_int h0 g0
    obtain ⟨z1, e1, _⟩ := DataW.trod_bool h1 g1
    obtain ⟨z2, e2, _⟩ := DataW.trod_bool h2 g2
    obtain ⟨z3, e3, _⟩ := DataW.trod_bool h3 g3
    obtain ⟨z4, e4, _⟩ := DataW.trod_bool h4 g4
    obtain ⟨z5, e5, _⟩ := DataW.trod_bool h5 g5
    obtain ⟨z6, e6, _, w6⟩ := DataW.trod_int h6 g6
    obtain ⟨z7, e7, _, w7⟩ := DataW.trod_int h7 g7
    simp at e0 e1 e2 e3 e4 e5 e6 e7
    subst e0 e1 e2 e3 e4 e5 e6 e7
    exact ⟨⟨z0, z1, z2, z3, z4, z5, z6, z7⟩, rfl, bounds_i64 w0, bounds_i64 w6, bounds_i64 w7⟩
end Go.Proofs.YtofdjfdnckmmmaaGreatDoor
