/-
  PLAIN: the law ReadForms: noughts ahead, a dash ahead, ten times as much with one less in its exponent.
-/
import Derived.Test.YthlocmhfjandlaaDoorZo
set_option linter.unusedVariables false
set_option linter.unusedSimpArgs false
namespace Go.Proofs.YthlocmhfjandlaaDoor
open Fm Fl

def flipM (mode : Int) : Int := if mode = 1 then 2 else if mode = 2 then 1 else mode
theorem flip_known (mode : Int) : knownB (flipM mode) = knownB mode := by
  unfold flipM knownB
  split
  · rename_i h; subst h; rfl
  · split
    · rename_i h; subst h; rfl
    · rfl
theorem flip_kd (mode : Int) : kd true (flipM mode) = kd false mode := by
  unfold flipM
  split
  · rename_i h; subst h; rfl
  · split
    · rename_i h; subst h; rfl
    · rename_i h1 h2; unfold kd; rw [if_neg h1, if_neg h2, if_neg h1, if_neg h2]
theorem rf_nodash {s : List UInt8} (h : rNeg s = false) : Lib.trimPrefix s [45] = s := by
  unfold Lib.trimPrefix
  rw [if_neg (by rw [show Lib.hasPrefix s [45] = false from h]; decide)]
/-- noughts ahead -/
theorem rf_nought {s : List UInt8} (h : rNeg s = false) : rNeg (48 :: 48 :: s) = false ∧ rWhole (48 :: 48 :: s) = 48 :: 48 :: rWhole s ∧ rPart (48 :: 48 :: s) = rPart s ∧ rRest (48 :: 48 :: s) = rRest s ∧ rDig (48 :: 48 :: s) = rDig s := by
  have t1 := trim_miss 45 48 [] (48 :: s) (by decide)
  have hw : rWhole (48 :: 48 :: s) = 48 :: 48 :: rWhole s := by
    unfold rWhole
    rw [t1.1, rf_nodash h, List.takeWhile_cons_of_pos (by decide), List.takeWhile_cons_of_pos (by decide)]
  have h2 : rT2 (48 :: 48 :: s) = rT2 s := by
    unfold rT2
    rw [t1.1, rf_nodash h, List.dropWhile_cons_of_pos (by decide), List.dropWhile_cons_of_pos (by decide)]
  have hp : rPart (48 :: 48 :: s) = rPart s := by unfold rPart rPt; rw [h2]
  refine ⟨t1.2, hw, hp, by unfold rRest rPt; rw [h2], ?_⟩
  unfold rDig
  rw [hw, hp, List.cons_append, List.cons_append, List.dropWhile_cons_of_pos (by decide), List.dropWhile_cons_of_pos (by decide)]
/-- a dash ahead -/
theorem rf_dash {s : List UInt8} (h : rNeg s = false) : rNeg (45 :: s) = true ∧ rWhole (45 :: s) = rWhole s ∧ rPart (45 :: s) = rPart s ∧ rRest (45 :: s) = rRest s ∧ rDig (45 :: s) = rDig s := by
  have t1 : Lib.trimPrefix (45 :: s) [45] = s ∧ Lib.hasPrefix (45 :: s) [45] = true := trim_hit [45] s
  have hw : rWhole (45 :: s) = rWhole s := by unfold rWhole; rw [t1.1, rf_nodash h]
  have h2 : rT2 (45 :: s) = rT2 s := by unfold rT2; rw [t1.1, rf_nodash h]
  have hp : rPart (45 :: s) = rPart s := by unfold rPart rPt; rw [h2]
  exact ⟨t1.2, hw, hp, by unfold rRest rPt; rw [h2], by unfold rDig; rw [hw, hp]⟩
theorem rErr_of {s t : List UInt8} (he : rErr s = 0) (hr : rRest t = rRest s) (hw : (rWhole t ++ rPart t).isEmpty = false) (hl : t.length ≤ 1000) : rErr t = 0 := by
  unfold rErr rpE at he ⊢
  split at he
  · exact absurd he (by decide)
  · split at he
    · rename_i h1 h2
      rw [if_neg (by omega), hr, if_pos ⟨h2.1, hw⟩]
    · exact absurd he (by decide)
theorem rErr_parts {s : List UInt8} (he : rErr s = 0) : pwOK (rRest s) = true ∧ (rWhole s ++ rPart s).isEmpty = false ∧ s.length ≤ 1000 := by
  unfold rErr rpE at he
  split at he
  · exact absurd he (by decide)
  · split at he
    · rename_i h1 h2
      exact ⟨h2.1, h2.2, by omega⟩
    · exact absurd he (by decide)
theorem rf_no {s : List UInt8} (he : rErr s = 0) : s ≠ sInf ∧ s ≠ sNinf ∧ s ≠ sNan := by
  refine ⟨?_, ?_, ?_⟩ <;> (rintro rfl; exact absurd he (by decide +kernel))
/-- what is told of a text in its form -/
theorem rf_val {s : List UInt8} (hneg : rNeg s = false) (he : rErr s = 0) (mode : Int) (hk : knownB mode = true) :
    readE s mode = 0 ∧ readV s mode = (rat (kd false mode) (rdA (rdN s) (rExp s)) (rdB (rExp s)) : Int) ∧ readC s mode = ratC (rdA (rdN s) (rExp s)) (rdB (rExp s)) := by
  obtain ⟨n1, n2, n3⟩ := rf_no he
  have hno : ¬ (s = sInf ∨ s = sNinf ∨ s = sNan) := by rintro (h | h | h); exact n1 h; exact n2 h; exact n3 h
  refine ⟨by unfold readE; rw [if_pos hk, if_neg hno]; exact he, ?_, ?_⟩
  · unfold readV; rw [if_pos hk, if_neg n1, if_neg n2, if_neg n3, if_pos he, hneg]; simp
  · unfold readC; rw [if_pos hk, if_neg hno, if_pos he]
theorem rf_bad (s : List UInt8) (mode : Int) (hk : knownB mode = false) : readE s mode = 1 := by
  unfold readE; rw [if_neg (by rw [hk]; decide)]
theorem rf_low {s : List UInt8} (hneg : rNeg s = false) (he : rErr s = 0) (mode : Int) (hk : knownB mode = true) : 0 ≤ readV s mode ∧ readV s mode < 9223372036854775808 ∧ (rDig s = [] → readV s mode = 0) := by
  obtain ⟨-, v, -⟩ := rf_val hneg he mode hk
  have h1 := rat_le_MR (kd false mode) (rdA (rdN s) (rExp s)) (rdB_pos (rExp s))
  have hMR : MR = 9218868437227405312 := rfl
  refine ⟨by omega, by omega, fun h => ?_⟩
  have : rdN s = 0 := by unfold rdN; rw [h]; rfl
  rw [v, this, show rdA 0 (rExp s) = 0 from Nat.zero_mul _, (rat_zero _ _).1]
  rfl
theorem rf_noughts {s : List UInt8} (hneg : rNeg s = false) (he : rErr s = 0) (hl : s.length ≤ 900) (mode : Int) (hk : knownB mode = true) :
    readE (48 :: 48 :: s) mode = 0 ∧ readV (48 :: 48 :: s) mode = readV s mode ∧ readC (48 :: 48 :: s) mode = readC s mode := by
  obtain ⟨p1, p2, p3, p4, p5⟩ := rf_nought hneg
  have he2 : rErr (48 :: 48 :: s) = 0 := rErr_of he p4 (by rw [p2]; rfl) (by simp; omega)
  obtain ⟨a1, a2, a3⟩ := rf_val p1 he2 mode hk
  obtain ⟨b1, b2, b3⟩ := rf_val hneg he mode hk
  have hN : rdN (48 :: 48 :: s) = rdN s := by unfold rdN; rw [p5]
  have hX : rExp (48 :: 48 :: s) = rExp s := by unfold rExp; rw [p3, p4, p5]
  rw [a2, a3, b2, b3, hN, hX]
  exact ⟨a1, rfl, rfl⟩
theorem rf_dashed {s : List UInt8} (hneg : rNeg s = false) (he : rErr s = 0) (hl : s.length ≤ 900) (mode : Int) (hk : knownB mode = true) :
    readE (45 :: s) (flipM mode) = 0 ∧ readV (45 :: s) (flipM mode) = readV s mode + 9223372036854775808 ∧ readC (45 :: s) (flipM mode) = readC s mode := by
  obtain ⟨p1, p2, p3, p4, p5⟩ := rf_dash hneg
  obtain ⟨q1, q2, q3⟩ := rErr_parts he
  have he2 : rErr (45 :: s) = 0 := rErr_of he p4 (by rw [p2, p3]; exact q2) (by simp; omega)
  obtain ⟨n1, n2, n3⟩ := rf_no he2
  have hno : ¬ (45 :: s = sInf ∨ 45 :: s = sNinf ∨ 45 :: s = sNan) := by rintro (h | h | h); exact n1 h; exact n2 h; exact n3 h
  have hk2 : knownB (flipM mode) = true := by rw [flip_known]; exact hk
  obtain ⟨b1, b2, b3⟩ := rf_val hneg he mode hk
  have hN : rdN (45 :: s) = rdN s := by unfold rdN; rw [p5]
  have hX : rExp (45 :: s) = rExp s := by unfold rExp; rw [p3, p4, p5]
  refine ⟨by unfold readE; rw [if_pos hk2, if_neg hno]; exact he2, ?_, ?_⟩
  · unfold readV
    rw [if_pos hk2, if_neg n1, if_neg n2, if_neg n3, if_pos he2, p1, if_pos rfl, flip_kd, hN, hX]
    exact congrArg (· + (9223372036854775808 : Int)) b2.symm
  · unfold readC
    rw [if_pos hk2, if_neg hno, if_pos he2, hN, hX]
    exact b3.symm
/-- four digits -/
def e4 (n : Nat) : List UInt8 := [UInt8.ofNat (48 + n / 1000 % 10), UInt8.ofNat (48 + n / 100 % 10), UInt8.ofNat (48 + n / 10 % 10), UInt8.ofNat (48 + n % 10)]
theorem e4_num (n : Nat) (h : n < 10000) : (∀ c ∈ e4 n, dgt c) ∧ dcN 0 (e4 n) = n := by
  have o : ∀ a : Nat, a < 10 → (UInt8.ofNat (48 + a)).toNat = 48 + a := fun a ha => UInt8.toNat_ofNat_of_lt' (by show _ < 256; omega)
  have o1 := o (n / 1000 % 10) (by omega)
  have o2 := o (n / 100 % 10) (by omega)
  have o3 := o (n / 10 % 10) (by omega)
  have o4 := o (n % 10) (by omega)
  constructor
  · intro c hc
    unfold e4 at hc
    simp only [List.mem_cons, List.not_mem_nil, or_false] at hc
    unfold dgt
    rcases hc with rfl | rfl | rfl | rfl <;> omega
  · unfold e4
    show (((0 * 10 + ((UInt8.ofNat (48 + n / 1000 % 10)).toNat - 48)) * 10 + ((UInt8.ofNat (48 + n / 100 % 10)).toNat - 48)) * 10 + ((UInt8.ofNat (48 + n / 10 % 10)).toNat - 48)) * 10 + ((UInt8.ofNat (48 + n % 10)).toNat - 48) = n
    rw [o1, o2, o3, o4]
    omega
theorem e4_tail (p : Int) (h : p.natAbs < 10000) : Tail (101 :: (if p < 0 then 45 else 43) :: e4 p.natAbs) p := by
  obtain ⟨hd, hN⟩ := e4_num p.natAbs h
  have hl : (e4 p.natAbs).length = 4 := rfl
  obtain ⟨c, hc⟩ : ∃ c : UInt8, c = if p < 0 then 45 else 43 := ⟨_, rfl⟩
  rw [← hc]
  generalize e4 p.natAbs = l at *
  have hcc : c = 45 ∧ p < 0 ∨ c = 43 ∧ 0 ≤ p := by
    rw [hc]; by_cases h : p < 0
    · left; simp [h]
    · right; simp [h]; omega
  have hpre : Lib.hasPrefix (c :: l) [45] = decide (c = 45) ∧ Lib.hasPrefix (c :: l) [43] = decide (c = 43) := by
    rcases hcc with ⟨rfl, -⟩ | ⟨rfl, -⟩ <;> exact ⟨rfl, rfl⟩
  have hT : pwT (c :: l) = l := by
    unfold pwT
    rw [hpre.1, hpre.2]
    rcases hcc with ⟨rfl, -⟩ | ⟨rfl, -⟩ <;> rfl
  have hfull : dgN l = l.length := by
    have tw : ∀ m : List UInt8, (∀ c ∈ m, dgt c) → m.takeWhile (decCs.contains ·) = m := by
      intro m
      induction m with
      | nil => intro _; rfl
      | cons c m ih =>
        intro hm
        rw [List.takeWhile_cons_of_pos (by exact dec_has (hm c (List.mem_cons_self ..))), ih (fun e he => hm e (List.mem_cons_of_mem _ he))]
    unfold dgN
    rw [tw l hd]
  have hG : pwG (c :: l) = true := by
    unfold pwG
    rw [hT, hfull, decide_eq_false (show ¬ l.length = 0 by omega), decide_eq_false (show ¬ 6 < l.length by omega), decide_eq_true rfl]
    rfl
  have hOK : pwOK (101 :: c :: l) = true := by
    show ((101 == 101 || 101 == 69) && pwG (c :: l)) = true
    rw [hG]; rfl
  refine ⟨Or.inr ⟨101, c :: l, rfl, by decide, by decide⟩, hOK, ?_⟩
  show (if pwOK (101 :: c :: l) = true then pwV (c :: l) else 0) = p
  rw [if_pos hOK]
  unfold pwV
  rw [hpre.1, hT, hN]
  rcases hcc with ⟨rfl, h⟩ | ⟨rfl, h⟩
  · rw [if_pos (by decide)]; omega
  · rw [if_neg (by decide)]; omega
/-- the text with ten times as much, and one less in its exponent -/
def tenT (s : List UInt8) : List UInt8 := rDig s ++ [48] ++ (101 :: (if rExp s - 1 < 0 then 45 else 43) :: e4 (rExp s - 1).natAbs)
theorem rf_ten {s : List UInt8} (hneg : rNeg s = false) (he : rErr s = 0) (hl : s.length ≤ 900) (hd : rDig s ≠ []) (mode : Int) (hk : knownB mode = true) (k0 : -9000 ≤ rExp s) (k1 : rExp s ≤ 9000) :
    readE (tenT s) mode = 0 ∧ readV (tenT s) mode = readV s mode ∧ readC (tenT s) mode = readC s mode := by
  obtain ⟨d1, d2, d3⟩ := rdig_spec s
  have hW : ∀ c ∈ rDig s ++ [48], dgt c := by
    intro c hc
    rcases List.mem_append.1 hc with h | h
    · exact d1 c h
    · obtain rfl := List.mem_singleton.1 h; exact ⟨by decide, by decide⟩
  have e : tenT s = mkS false (rDig s ++ [48]) [] (101 :: (if rExp s - 1 < 0 then 45 else 43) :: e4 (rExp s - 1).natAbs) false := by
    unfold mkS tenT; simp
  have hlen : (tenT s).length ≤ 1000 := by
    unfold tenT e4
    simp only [List.length_append, List.length_cons, List.length_nil]
    omega
  obtain ⟨g1, g2, g3⟩ := made_num false (rDig s ++ [48]) [] (101 :: (if rExp s - 1 < 0 then 45 else 43) :: e4 (rExp s - 1).natAbs) false (by simp) hW (fun c hc => by simp at hc) (fun _ => rfl) (e4_tail (rExp s - 1) (by omega)) (by rw [← e]; exact hlen) mode hk
  rw [← e] at g1 g2 g3
  obtain ⟨b1, b2, b3⟩ := rf_val hneg he mode hk
  have hN : dcN 0 (rDig s ++ [48] ++ []) = rdN s * 10 := by
    rw [List.append_nil, dcN_app]
    show dcN 0 (rDig s) * 10 + (48 - 48) = _
    rfl
  have hq : rExp s - 1 - (([] : List UInt8).length : Int) = rExp s - 1 := by simp
  rw [hN, hq] at g2 g3
  have key : rdA (rdN s * 10) (rExp s - 1) * rdB (rExp s) = rdA (rdN s) (rExp s) * rdB (rExp s - 1) := by
    unfold rdA rdB
    generalize rExp s = K
    generalize rdN s = N
    have : 10 * (10 ^ (K - 1).toNat * 10 ^ (-K).toNat) = 10 ^ K.toNat * 10 ^ (-(K - 1)).toNat := by
      rw [← Nat.pow_add, ← Nat.pow_add, Nat.mul_comm 10, ← Nat.pow_succ]
      congr 1
      omega
    calc N * 10 * 10 ^ (K - 1).toNat * 10 ^ (-K).toNat = N * (10 * (10 ^ (K - 1).toNat * 10 ^ (-K).toNat)) := by ac_rfl
      _ = N * (10 ^ K.toNat * 10 ^ (-(K - 1)).toNat) := by rw [this]
      _ = _ := by ac_rfl
  refine ⟨g1, ?_, ?_⟩
  · rw [g2, b2, rat_congr (kd false mode) (rdB_pos _) (rdB_pos _) key]; simp
  · rw [g3, b3, ratC_congr (rdB_pos _) (rdB_pos _) key]
end Go.Proofs.YthlocmhfjandlaaDoor
