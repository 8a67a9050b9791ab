/-
  SOME OF MY TEXTS in one: Zs Zt Zq. Each says what it proves.
-/
import Derived.Test.YthkcbjhjhkpclaaGreatDoorZp
import Derived.Test.YthkcbjhjhkpclaaGreatDoorZxv
import Derived.Test.YthkcbjhjhkpclaaGreatDoorHg
import Derived.Test.YthkcbjhjhkpclaaGreatDoorDo
set_option linter.unusedVariables false
set_option linter.unusedSimpArgs false
/-
  PLAIN: what read.Number tells of a text; the pieces of texts that are made.
-/
namespace Go.Proofs.YthkcbjhjhkpclaaGreatDoor
open Fm Fl

def rWhole (s : List UInt8) : List UInt8 := (Lib.trimPrefix s [45]).takeWhile (decCs.contains ·)
def rT2 (s : List UInt8) : List UInt8 := (Lib.trimPrefix s [45]).dropWhile (decCs.contains ·)
def rPt (s : List UInt8) : Bool := Lib.hasPrefix (rT2 s) [46]
def rPart (s : List UInt8) : List UInt8 := if rPt s = true then (Lib.trimPrefix (rT2 s) [46]).takeWhile (decCs.contains ·) else []
def rRest (s : List UInt8) : List UInt8 := if rPt s = true then (Lib.trimPrefix (rT2 s) [46]).dropWhile (decCs.contains ·) else rT2 s
def rDig (s : List UInt8) : List UInt8 := (rWhole s ++ rPart s).dropWhile ([48].contains ·)
def rNeg (s : List UInt8) : Bool := Lib.hasPrefix s [45]
def rErr (s : List UInt8) : Int := rpE s (rWhole s) (rPart s) (rRest s)
def rExp (s : List UInt8) : Int := rpK (rPart s) (rRest s) (rDig s)
def rdN (s : List UInt8) : Nat := dcN 0 (rDig s)
theorem rpc_self (s : List UInt8) : Rpc s (Lib.trimPrefix s [45]) (rWhole s) (rT2 s) (Lib.trimPrefix (rT2 s) [46]) (rPart s) (rRest s) (rDig s) (rNeg s) (rPt s) := ⟨rfl, rfl, rfl, rfl, rfl, rfl, rfl, rfl, rfl⟩
theorem rpc_eq {s t whole t2 r part rest d : List UInt8} {neg pt : Bool} (H : Rpc s t whole t2 r part rest d neg pt) : rWhole s = whole ∧ rPart s = part ∧ rRest s = rest ∧ rDig s = d ∧ rNeg s = neg := by
  obtain ⟨rfl, rfl, rfl, rfl, rfl, rfl, rfl, rfl, rfl⟩ := H
  exact ⟨rfl, rfl, rfl, rfl, rfl⟩
def sInf : List UInt8 := [105, 110, 102]
def sNinf : List UInt8 := [45, 105, 110, 102]
def sNan : List UInt8 := [110, 97, 110]
def readE (s : List UInt8) (mode : Int) : Int := if knownB mode = true then (if s = sInf ∨ s = sNinf ∨ s = sNan then 0 else rErr s) else 1
def readV (s : List UInt8) (mode : Int) : Int :=
  if knownB mode = true then
    (if s = sInf then 9218868437227405312 else if s = sNinf then 18442240474082181120 else if s = sNan then 9221120237041090560
     else if rErr s = 0 then (rat (kd (rNeg s) mode) (rdA (rdN s) (rExp s)) (rdB (rExp s)) : Int) + (if rNeg s = true then 9223372036854775808 else 0) else 0)
  else 0
def readC (s : List UInt8) (mode : Int) : Bool :=
  if knownB mode = true then
    (if s = sInf ∨ s = sNinf ∨ s = sNan then false
     else if rErr s = 0 then ratC (rdA (rdN s) (rExp s)) (rdB (rExp s)) else false)
  else false
theorem rdig_spec (s : List UInt8) : (∀ c ∈ rDig s, dgt c) ∧ (rDig s).length ≤ s.length ∧ (rDig s = [] ∨ ∃ c l, rDig s = c :: l ∧ c ≠ 48) := by
  have H := rpc_self s
  obtain ⟨lw, l1, l2, lr, lp, le, ls, hdg⟩ := rpc_len H
  refine ⟨fun c hc => decCs_dgt (hdg c ?_), ?_, ?_⟩
  · exact (List.dropWhile_sublist _).mem hc
  · have := dropW_len (p := ([48].contains ·)) (rWhole s ++ rPart s)
    rw [List.length_append] at this
    unfold rDig
    omega
  · unfold rDig
    generalize rWhole s ++ rPart s = l
    induction l with
    | nil => exact Or.inl rfl
    | cons c l ih =>
      by_cases hc : c = 48
      · rw [List.dropWhile_cons_of_pos (by simp [hc])]
        exact ih
      · rw [List.dropWhile_cons_of_neg (by simp [hc])]
        exact Or.inr ⟨c, l, rfl, hc⟩
/-- the pieces of a text that is made of digits, perhaps a point and digits, and a tail -/
theorem rpc_mk (neg : Bool) (W P E : List UInt8) (pt : Bool) (hW0 : W ≠ []) (hW : ∀ c ∈ W, decCs.contains c = true) (hP : ∀ c ∈ P, decCs.contains c = true) (hpt : pt = false → P = []) (hE : E = [] ∨ ∃ c l, E = c :: l ∧ decCs.contains c = false ∧ c ≠ 46) :
    ∃ t t2 r, Rpc ((if neg = true then [45] else []) ++ (W ++ ((if pt = true then 46 :: P else []) ++ E))) t W t2 r P E ((W ++ P).dropWhile ([48].contains ·)) neg pt := by
  have t1 : Lib.trimPrefix ((if neg = true then [45] else []) ++ (W ++ ((if pt = true then 46 :: P else []) ++ E))) [45] = W ++ ((if pt = true then 46 :: P else []) ++ E) ∧ Lib.hasPrefix ((if neg = true then [45] else []) ++ (W ++ ((if pt = true then 46 :: P else []) ++ E))) [45] = neg := by
    cases neg with
    | true => exact trim_hit [45] _
    | false =>
      cases W with
      | nil => exact absurd rfl hW0
      | cons c W =>
        have hc := hW c (List.mem_cons_self ..)
        exact trim_miss 45 c [] _ (by rw [beq_eq_false_iff_ne]; intro h; subst h; revert hc; decide)
  have tkE : E.takeWhile (decCs.contains ·) = [] ∧ E.dropWhile (decCs.contains ·) = E := by
    rcases hE with rfl | ⟨c, l, rfl, h1, h2⟩
    · exact ⟨rfl, rfl⟩
    · exact ⟨List.takeWhile_cons_of_neg (by simp only [h1]; decide), List.dropWhile_cons_of_neg (by simp only [h1]; decide)⟩
  have app : ∀ (A B : List UInt8), (∀ c ∈ A, decCs.contains c = true) → B.takeWhile (decCs.contains ·) = [] → B.dropWhile (decCs.contains ·) = B → (A ++ B).takeWhile (decCs.contains ·) = A ∧ (A ++ B).dropWhile (decCs.contains ·) = B := fun A B hA h1 h2 => by
    induction A with
    | nil => exact ⟨h1, h2⟩
    | cons c A ih =>
      have ih := ih (fun d hd => hA d (List.mem_cons_of_mem _ hd))
      have hc := hA c (List.mem_cons_self ..)
      rw [List.cons_append, List.takeWhile_cons_of_pos (by exact hc), List.dropWhile_cons_of_pos (by exact hc), ih.1, ih.2]
      exact ⟨rfl, rfl⟩
  have h46 : decCs.contains 46 = false := by decide
  have tk2 : ((if pt = true then 46 :: P else []) ++ E).takeWhile (decCs.contains ·) = [] ∧ ((if pt = true then 46 :: P else []) ++ E).dropWhile (decCs.contains ·) = (if pt = true then 46 :: P else []) ++ E := by
    cases pt with
    | true => exact ⟨List.takeWhile_cons_of_neg (by simp only [h46]; decide), List.dropWhile_cons_of_neg (by simp only [h46]; decide)⟩
    | false => exact tkE
  have w := app W _ hW tk2.1 tk2.2
  have pe := app P E hP tkE.1 tkE.2
  refine ⟨_, _, _, t1.1.symm, t1.2.symm, w.1.symm, w.2.symm, rfl, ?_, ?_, ?_, rfl⟩
  · cases pt with
    | true => exact (trim_hit [46] (P ++ E)).2.symm
    | false =>
      show false = Lib.hasPrefix ([] ++ E) [46]
      rcases hE with rfl | ⟨c, l, rfl, h1, h2⟩
      · rfl
      · exact (trim_miss 46 c [] l (by rw [beq_eq_false_iff_ne]; exact Ne.symm h2)).2.symm
  · cases pt with
    | true =>
      show P = (Lib.trimPrefix ([46] ++ (P ++ E)) [46]).takeWhile _
      rw [(trim_hit [46] (P ++ E)).1]; exact pe.1.symm
    | false => exact hpt rfl
  · cases pt with
    | true =>
      show E = (Lib.trimPrefix ([46] ++ (P ++ E)) [46]).dropWhile _
      rw [(trim_hit [46] (P ++ E)).1]; exact pe.2.symm
    | false => rfl
/-- digits count the same without noughts ahead -/
theorem dcN_drop (l : List UInt8) : dcN 0 (l.dropWhile ([48].contains ·)) = dcN 0 l := by
  induction l with
  | nil => rfl
  | cons c l ih =>
    by_cases hc : c = 48
    · rw [List.dropWhile_cons_of_pos (by simp [hc]), ih, hc]
      rfl
    · rw [List.dropWhile_cons_of_neg (by simp [hc])]
/-- what counts 0 has no digit but noughts -/
theorem dcN_zero {l : List UInt8} (h : ∀ c ∈ l, dgt c) (h0 : dcN 0 (l.dropWhile ([48].contains ·)) = 0) : l.dropWhile ([48].contains ·) = [] := by
  induction l with
  | nil => rfl
  | cons c l ih =>
    by_cases hc : c = 48
    · rw [List.dropWhile_cons_of_pos (by simp [hc])] at h0 ⊢
      exact ih (fun d hd => h d (List.mem_cons_of_mem _ hd)) h0
    · rw [List.dropWhile_cons_of_neg (by simp [hc])] at h0
      exfalso
      have h1 := h c (List.mem_cons_self ..)
      unfold dgt at h1
      have e1 : dcN 0 (c :: l) = dcN (0 * 10 + (c.toNat - 48)) l := rfl
      rw [e1, dcN_two] at h0
      have h2 : c.toNat ≠ 48 := fun h => hc (UInt8.toNat_inj.1 (by rw [h]; rfl))
      have h3 := Nat.mul_pos (show 0 < 0 * 10 + (c.toNat - 48) by omega) (Nat.pow_pos (n := l.length) (show 0 < 10 by omega))
      omega
end Go.Proofs.YthkcbjhjhkpclaaGreatDoor

/-
  PLAIN: a text that is made of a sign, digits, perhaps a point, and perhaps a power of ten, is read as what it counts.
-/
namespace Go.Proofs.YthkcbjhjhkpclaaGreatDoor
open Fm Fl

def mkS (neg : Bool) (W P E : List UInt8) (p : Bool) : List UInt8 := (if neg = true then [45] else []) ++ (W ++ ((if p = true then 46 :: P else []) ++ E))
theorem mkS_no (neg : Bool) (W P E : List UInt8) (p : Bool) (hW0 : W ≠ []) (hW : ∀ c ∈ W, decCs.contains c = true) : ¬ (mkS neg W P E p = sInf ∨ mkS neg W P E p = sNinf ∨ mkS neg W P E p = sNan) := by
  cases W with
  | nil => exact absurd rfl hW0
  | cons c W =>
    have hc := hW c (List.mem_cons_self ..)
    unfold mkS sInf sNinf sNan
    cases neg with
    | true =>
      simp only [if_true, List.cons_append, List.nil_append, List.cons.injEq]
      rintro (⟨h, -⟩ | ⟨-, h, -⟩ | ⟨h, -⟩)
      · revert h; decide
      · subst h; revert hc; decide
      · revert h; decide
    | false =>
      simp only [Bool.false_eq_true, if_false, List.cons_append, List.nil_append, List.cons.injEq]
      rintro (⟨h, -⟩ | ⟨h, -⟩ | ⟨h, -⟩) <;> (subst h; revert hc; decide)
/-- what a tail tells: nothing, or a power of ten -/
def Tail (E : List UInt8) (q : Int) : Prop := (E = [] ∨ ∃ c l, E = c :: l ∧ decCs.contains c = false ∧ c ≠ 46) ∧ pwOK E = true ∧ pwK E = q
theorem tail_nil : Tail [] 0 := ⟨Or.inl rfl, rfl, rfl⟩
theorem rat_zero (k B : Nat) : rat k 0 B = 0 ∧ ratC 0 B = false := by unfold rat ratC; rw [if_pos rfl, if_pos rfl]; exact ⟨rfl, rfl⟩
theorem made_num (neg : Bool) (W P E : List UInt8) (p : Bool) (hW0 : W ≠ []) (hW : ∀ c ∈ W, dgt c) (hP : ∀ c ∈ P, dgt c) (hp : p = false → P = []) {q : Int} (hE : Tail E q) (hl : (mkS neg W P E p).length ≤ 1000) (mode : Int) (hk : knownB mode = true) :
    readE (mkS neg W P E p) mode = 0 ∧
    readV (mkS neg W P E p) mode = (rat (kd neg mode) (rdA (dcN 0 (W ++ P)) (q - P.length)) (rdB (q - P.length)) : Int) + (if neg = true then 9223372036854775808 else 0) ∧
    readC (mkS neg W P E p) mode = ratC (rdA (dcN 0 (W ++ P)) (q - P.length)) (rdB (q - P.length)) := by
  have hW' : ∀ c ∈ W, decCs.contains c = true := fun c hc => dec_has (hW c hc)
  have hP' : ∀ c ∈ P, decCs.contains c = true := fun c hc => dec_has (hP c hc)
  obtain ⟨t, t2, r, H⟩ := rpc_mk neg W P E p hW0 hW' hP' hp hE.1
  obtain ⟨e1, e2, e3, e4, e5⟩ := rpc_eq H
  have hno := mkS_no neg W P E p hW0 hW'
  have hne : (W ++ P).isEmpty = false := by cases W with | nil => exact absurd rfl hW0 | cons c W => rfl
  have hr : rErr (mkS neg W P E p) = 0 := by
    unfold rErr mkS
    rw [e1, e2, e3]
    unfold rpE
    rw [if_neg (by unfold mkS at hl; omega), if_pos ⟨hE.2.1, hne⟩]
  have hN : rdN (mkS neg W P E p) = dcN 0 (W ++ P) := by unfold rdN mkS; rw [e4, dcN_drop]
  have hn : rNeg (mkS neg W P E p) = neg := e5
  have hX : rdA (rdN (mkS neg W P E p)) (rExp (mkS neg W P E p)) = rdA (dcN 0 (W ++ P)) (q - P.length) ∧ (dcN 0 (W ++ P) ≠ 0 → rExp (mkS neg W P E p) = q - P.length) := by
    rw [hN]
    have hx : rExp (mkS neg W P E p) = if (rDig (mkS neg W P E p)).isEmpty = true then 0 else q - P.length := by
      unfold rExp rpK mkS
      rw [e2, e3, hE.2.2]
    by_cases hz : dcN 0 (W ++ P) = 0
    · rw [hz]; unfold rdA; rw [Nat.zero_mul, Nat.zero_mul]; exact ⟨rfl, fun h => absurd rfl h⟩
    · have hd : (rDig (mkS neg W P E p)).isEmpty = false := by
        cases hh : (rDig (mkS neg W P E p)).isEmpty
        · rfl
        · exfalso
          apply hz
          rw [← hN]
          unfold rdN
          rw [List.isEmpty_iff.1 hh]; rfl
      rw [hd] at hx
      rw [hx]
      exact ⟨rfl, fun _ => rfl⟩
  refine ⟨by unfold readE; rw [if_pos hk, if_neg hno]; exact hr, ?_, ?_⟩
  · unfold readV
    rw [if_pos hk, if_neg (fun e => hno (Or.inl e)), if_neg (fun e => hno (Or.inr (Or.inl e))), if_neg (fun e => hno (Or.inr (Or.inr e))), if_pos hr, hn, hX.1]
    by_cases hz : dcN 0 (W ++ P) = 0
    · have : rdA (dcN 0 (W ++ P)) (q - P.length) = 0 := by unfold rdA; rw [hz, Nat.zero_mul]
      rw [this, (rat_zero _ _).1, (rat_zero _ _).1]
    · rw [hX.2 hz]
  · unfold readC
    rw [if_pos hk, if_neg hno, if_pos hr, hX.1]
    by_cases hz : dcN 0 (W ++ P) = 0
    · have : rdA (dcN 0 (W ++ P)) (q - P.length) = 0 := by unfold rdA; rw [hz, Nat.zero_mul]
      rw [this, (rat_zero 0 _).2, (rat_zero 0 _).2]
    · rw [hX.2 hz]
/-- digits with a point put in -/
theorem pt_parts (q p : Nat) : ∃ W P, W ≠ [] ∧ (∀ c ∈ W, dgt c) ∧ (∀ c ∈ P, dgt c) ∧ P.length = p ∧ dcN 0 (W ++ P) = q ∧ ∀ E neg, (if neg = true then [45] else []) ++ (pt (Lib.decDigits q) p ++ E) = mkS neg W P E (decide (p ≠ 0)) := by
  by_cases hp : p = 0
  · subst hp
    have h0 : Lib.decDigits q ≠ [] := fun h => by have := dec_len_pos q; rw [h] at this; simp at this
    refine ⟨Lib.decDigits q, [], h0, dec_dgt q, fun c hc => by simp at hc, rfl, by rw [List.append_nil]; exact dcN_dec q, fun E neg => ?_⟩
    unfold mkS pt
    rw [if_pos rfl]
    simp
  · have hl := padK_len (p + 1) q
    have hd := padK_dgt (p + 1) q
    obtain ⟨n, hn⟩ : ∃ n, n = (padK (p + 1) q).length - p := ⟨_, rfl⟩
    refine ⟨(padK (p + 1) q).take n, (padK (p + 1) q).drop n, ?_, fun c hc => hd c (List.mem_of_mem_take hc), fun c hc => hd c (List.mem_of_mem_drop hc), ?_, ?_, fun E neg => ?_⟩
    · intro h
      have h2 : ((padK (p + 1) q).take n).length = 0 := by rw [h]; rfl
      rw [List.length_take] at h2
      omega
    · rw [List.length_drop]; omega
    · rw [List.take_append_drop, dcN_num _ _ hd, num_pad]
    · unfold mkS
      rw [pt_pad, if_neg hp, ← hn, show decide (p ≠ 0) = true by simp [hp], if_pos rfl]
      simp
theorem sgS_if (x : Int) : sgS x = if decide (9223372036854775808 ≤ x) = true then [45] else [] := by
  unfold sgS; by_cases h : 9223372036854775808 ≤ x <;> simp [h]
/-- a number told exactly -/
theorem exact_rat {x : Int} (x0 : 0 ≤ x) (x1 : x ≤ 18446744073709551615) (hv : hasV x = true) (k : Nat) :
    rat k (rdA (qA (valD x)) (-(pl (valD x) : Int))) (rdB (-(pl (valD x) : Int))) = (fabs x).toNat ∧ ratC (rdA (qA (valD x)) (-(pl (valD x) : Int))) (rdB (-(pl (valD x) : Int))) = false := by
  have hMR : MR = 9218868437227405312 := rfl
  have hlt : (fabs x).toNat < MR := by
    unfold hasV at hv; rw [decide_eq_true_eq] at hv
    have : 0 ≤ fabs x := by unfold fabs; omega
    omega
  refine rat_exact k (Nat.pow_pos (by omega)) hlt ?_
  rw [dVal_mag x0 x1 hv]
  unfold rdA rdB qA pl
  obtain ⟨f1, f2, f3, f4, f5⟩ := valD_facts x x0 x1
  rw [show (-((-(valD x).e).toNat : Int)).toNat = 0 by omega, Nat.pow_zero, Nat.mul_one, show (- -((-(valD x).e).toNat : Int)).toNat = (-(valD x).e).toNat by omega, ten_two, u74]
  have hK : K74 = 1074 := rfl
  generalize (valD x).m = m at *
  generalize (valD x).e = e at *
  generalize K74 = K at *
  have : 2 ^ (e + ((1074 : Nat) : Int)).toNat * 2 ^ (-e).toNat = 2 ^ e.toNat * 2 ^ K := by
    rw [← Nat.pow_add, ← Nat.pow_add]; congr 1; omega
  calc m * 2 ^ (e + ((1074 : Nat) : Int)).toNat * (5 ^ (-e).toNat * 2 ^ (-e).toNat) = m * 5 ^ (-e).toNat * (2 ^ (e + ((1074 : Nat) : Int)).toNat * 2 ^ (-e).toNat) := by ac_rfl
    _ = m * 5 ^ (-e).toNat * (2 ^ e.toNat * 2 ^ K) := by rw [this]
    _ = _ := by ac_rfl
theorem fabs_sign {x : Int} (x0 : 0 ≤ x) (x1 : x ≤ 18446744073709551615) : (((fabs x).toNat : Nat) : Int) + (if decide (9223372036854775808 ≤ x) = true then 9223372036854775808 else 0) = x := by
  unfold fabs; by_cases h : 9223372036854775808 ≤ x
  · simp [h]; omega
  · simp [h]; omega
theorem exS_read {x : Int} (x0 : 0 ≤ x) (x1 : x ≤ 18446744073709551615) (hv : hasV x = true) (hl : (exS x).length ≤ 1000) (mode : Int) (hk : knownB mode = true) :
    readE (exS x) mode = 0 ∧ readV (exS x) mode = x ∧ readC (exS x) mode = false := by
  obtain ⟨W, P, h0, hW, hP, hPl, hN, hs⟩ := pt_parts (qA (valD x)) (pl (valD x))
  have e := hs [] (decide (9223372036854775808 ≤ x))
  rw [List.append_nil] at e
  have e2 : exS x = mkS (decide (9223372036854775808 ≤ x)) W P [] (decide (pl (valD x) ≠ 0)) := by
    unfold exS; rw [if_pos hv, sgS_if]; exact e
  rw [e2] at hl ⊢
  obtain ⟨g1, g2, g3⟩ := made_num (decide (9223372036854775808 ≤ x)) W P [] (decide (pl (valD x) ≠ 0)) h0 hW hP (fun h => by
    have : pl (valD x) = 0 := by simpa using h
    exact List.length_eq_zero_iff.1 (by omega)) tail_nil hl mode hk
  have hq : (0 : Int) - (P.length : Int) = -(pl (valD x) : Int) := by rw [hPl]; omega
  rw [hN, hq] at g2 g3
  obtain ⟨r1, r2⟩ := exact_rat x0 x1 hv (kd (decide (9223372036854775808 ≤ x)) mode)
  rw [r1, fabs_sign x0 x1] at g2
  rw [r2] at g3
  exact ⟨g1, g2, g3⟩
end Go.Proofs.YthkcbjhjhkpclaaGreatDoor

/-
  PLAIN: with digits enough a number is read as it was.
-/
namespace Go.Proofs.YthkcbjhjhkpclaaGreatDoor
open Fm Fl

/-- the nearest one, by the middles -/
theorem rat2_iff {A B r : Nat} (hB : 0 < B) (hr : r < MR) : rat 2 A B = r ↔
    (r = 0 ∨ (mag (r - 1) + mag r) * B < 2 * (A * u74) ∨ ((mag (r - 1) + mag r) * B = 2 * (A * u74) ∧ r % 2 = 0)) ∧
    (2 * (A * u74) < (mag r + mag (r + 1)) * B ∨ (2 * (A * u74) = (mag r + mag (r + 1)) * B ∧ r % 2 = 0)) := by
  have h1 := rat_iff 2 A hB r
  have h2 := rat_iff 2 A hB (r + 1)
  have e1 : PkC 2 1 (qle A B) (qlt A B) r ↔ (r = 0 ∨ (mag (r - 1) + mag r) * B < 2 * (A * u74) ∨ ((mag (r - 1) + mag r) * B = 2 * (A * u74) ∧ r % 2 = 0)) := by
    show (r ≤ MR ∧ (r = 0 ∨ (mag (r - 1) + mag r) * 1 * B < 2 * (A * u74) ∨ ((mag (r - 1) + mag r) * 1 * B ≤ 2 * (A * u74) ∧ r % 2 = 0))) ↔ _
    rw [Nat.mul_one]
    generalize (mag (r - 1) + mag r) * B = x
    generalize 2 * (A * u74) = y
    omega
  have e2 : PkC 2 1 (qle A B) (qlt A B) (r + 1) ↔ ¬ (2 * (A * u74) < (mag r + mag (r + 1)) * B ∨ (2 * (A * u74) = (mag r + mag (r + 1)) * B ∧ r % 2 = 0)) := by
    show (r + 1 ≤ MR ∧ (r + 1 = 0 ∨ (mag (r + 1 - 1) + mag (r + 1)) * 1 * B < 2 * (A * u74) ∨ ((mag (r + 1 - 1) + mag (r + 1)) * 1 * B ≤ 2 * (A * u74) ∧ (r + 1) % 2 = 0))) ↔ _
    rw [Nat.mul_one, Nat.add_sub_cancel]
    generalize (mag r + mag (r + 1)) * B = x
    generalize 2 * (A * u74) = y
    omega
  rw [e1] at h1
  rw [e2] at h2
  rw [← h1]
  constructor
  · intro h
    refine ⟨by omega, ?_⟩
    exact Decidable.byContradiction fun h3 => by have := h2.2 h3; omega
  · rintro ⟨h3, h4⟩
    have : ¬ r + 1 ≤ rat 2 A B := fun h5 => h2.1 h5 h4
    omega
theorem ulp_mono {r s : Nat} (h : r ≤ s) : ulp r ≤ ulp s := by
  unfold ulp
  apply Nat.pow_le_pow_right (by omega)
  omega
/-- how near the next one is -/
theorem ulp_big (r : Nat) : mag (r + 1) ≤ ulp r * 2 ^ 53 := by
  by_cases h : r < 4503599627370496
  · have h1 : ulp r = 1 := by unfold ulp; rw [show r / 4503599627370496 - 1 = 0 by omega]
    have h3 := mag_of (r + 1) 0 (by omega) (by omega)
    rw [h1]
    simp at h3
    rw [h3]
    omega
  · obtain ⟨j, q, hq1, hq2, hr⟩ : ∃ j q, 4503599627370496 ≤ q ∧ q < 9007199254740992 ∧ r = q + j * 4503599627370496 :=
      ⟨r / 4503599627370496 - 1, r % 4503599627370496 + 4503599627370496, by omega, by omega, by omega⟩
    subst hr
    have h3 := mag_of (q + 1) j (by omega) (by omega)
    rw [show q + j * 4503599627370496 + 1 = q + 1 + j * 4503599627370496 by omega, h3]
    unfold ulp
    rw [show (q + j * 4503599627370496) / 4503599627370496 - 1 = j by omega, Nat.mul_comm]
    exact Nat.mul_le_mul_left _ (by omega)
/-- near enough -/
theorem rat2_near {A B r u : Nat} (hB : 0 < B) (hr0 : 1 ≤ r) (hr : r < MR) (hu : 0 < u) (h1 : 2 * (mag r * B) ≤ 2 * (A * u74) + u) (h2 : 2 * (A * u74) ≤ 2 * (mag r * B) + u) (h3 : 10 ^ 16 * u ≤ mag r * B) : rat 2 A B = r := by
  rw [rat2_iff hB hr]
  have g1 := ulp_big (r - 1)
  have g2 := ulp_mono (show r - 1 ≤ r by omega)
  have g3 := mag_succ (r - 1)
  have g4 := mag_succ r
  rw [show r - 1 + 1 = r by omega] at g1 g3
  have k1 := Nat.mul_le_mul_right B g1
  have k2 := Nat.mul_le_mul_right B g2
  rw [Nat.mul_right_comm] at k1
  have s1 : (mag (r - 1) + mag r) * B = mag (r - 1) * B + mag r * B := Nat.add_mul _ _ _
  have s2 : (mag r + mag (r + 1)) * B = mag r * B + (mag r * B + ulp r * B) := by rw [g4, Nat.add_mul, Nat.add_mul]
  have s3 : mag r * B = mag (r - 1) * B + ulp (r - 1) * B := by rw [← Nat.add_mul, ← g3]
  have e1 : (10 : Nat) ^ 16 = 10000000000000000 := by decide
  have e2 : (2 : Nat) ^ 53 = 9007199254740992 := by decide
  rw [e1] at h3
  rw [e2] at k1
  rw [s1, s2]
  clear s1 s2 g1 g2 g3 g4 e1 e2
  generalize mag (r - 1) * B = a at *
  generalize mag r * B = b at *
  generalize ulp (r - 1) * B = x at *
  generalize ulp r * B = y at *
  generalize A * u74 = z at *
  exact ⟨by omega, by omega⟩
theorem dn_mag {x : Int} (x0 : 0 ≤ x) (x1 : x ≤ 18446744073709551615) (hv : hasV x = true) (t : Int) : dN (valD x) t * u74 = mag (fabs x).toNat * 10 ^ t.toNat * 2 ^ (-(valD x).e).toNat := by
  obtain ⟨f1, f2, f3, f4, f5⟩ := valD_facts x x0 x1
  rw [dVal_mag x0 x1 hv]
  unfold dN
  rw [u74]
  have hK : K74 = 1074 := rfl
  generalize K74 = K at *
  generalize (valD x).m = m at *
  generalize (valD x).e = e at *
  have : 2 ^ e.toNat * 2 ^ K = 2 ^ (e + ((1074 : Nat) : Int)).toNat * 2 ^ (-e).toNat := by
    rw [← Nat.pow_add, ← Nat.pow_add]; congr 1; omega
  rw [Nat.mul_assoc, this]
  simp only [Nat.mul_assoc, Nat.mul_comm, Nat.mul_left_comm]
/-- of digits enough the number is read -/
theorem enough {x : Int} (x0 : 0 ≤ x) (x1 : x ≤ 18446744073709551615) (hv : hasV x = true) (hx : 1 ≤ fabs x) {N : Nat} (t : Int) (h1 : 2 * dN (valD x) t ≤ 2 * (N * dD (valD x) t) + dD (valD x) t) (h2 : 2 * (N * dD (valD x) t) ≤ 2 * dN (valD x) t + dD (valD x) t) (h3 : 10 ^ 16 * dD (valD x) t ≤ dN (valD x) t) :
    rat 2 (rdA N (-t)) (rdB (-t)) = (fabs x).toNat := by
  have hd := dn_mag x0 x1 hv t
  have hMR : MR = 9218868437227405312 := rfl
  have hlt : (fabs x).toNat < MR := by unfold hasV at hv; rw [decide_eq_true_eq] at hv; omega
  have eD : dD (valD x) t = 10 ^ (-t).toNat * 2 ^ (-(valD x).e).toNat := rfl
  have hp := Nat.two_pow_pos (-(valD x).e).toNat
  rw [eD] at h1 h2 h3
  unfold rdA rdB
  rw [Int.neg_neg]
  have hu : 0 < 10 ^ (-t).toNat * u74 := Nat.mul_pos (Nat.pow_pos (by omega)) u74_pos
  generalize (2 : Nat) ^ (-(valD x).e).toNat = P at *
  generalize dN (valD x) t = n at *
  generalize (10 : Nat) ^ (-t).toNat = U at *
  apply rat2_near (u := U * u74) (Nat.pow_pos (by omega)) (by omega) hlt hu
  · generalize mag (fabs x).toNat = mg at *
    generalize (10 : Nat) ^ t.toNat = T at *
    generalize u74 = V at *
    apply Nat.le_of_mul_le_mul_right _ hp
    have e1 : 2 * (mg * T) * P = 2 * n * V := by rw [Nat.mul_assoc 2 n, hd]; ac_rfl
    have e2 : (2 * (N * U * V) + U * V) * P = (2 * (N * (U * P)) + U * P) * V := by rw [Nat.add_mul, Nat.add_mul]; congr 1 <;> ac_rfl
    rw [e1, e2]
    exact Nat.mul_le_mul_right V h1
  · generalize mag (fabs x).toNat = mg at *
    generalize (10 : Nat) ^ t.toNat = T at *
    generalize u74 = V at *
    apply Nat.le_of_mul_le_mul_right _ hp
    have e1 : (2 * (mg * T) + U * V) * P = (2 * n + U * P) * V := by rw [Nat.add_mul, Nat.add_mul, Nat.mul_assoc 2 n, hd]; congr 1 <;> ac_rfl
    have e2 : 2 * (N * U * V) * P = 2 * (N * (U * P)) * V := by ac_rfl
    rw [e1, e2]
    exact Nat.mul_le_mul_right V h2
  · generalize mag (fabs x).toNat = mg at *
    generalize (10 : Nat) ^ t.toNat = T at *
    generalize u74 = V at *
    generalize (10 : Nat) ^ 16 = W at *
    apply Nat.le_of_mul_le_mul_right _ hp
    have e1 : mg * T * P = n * V := hd.symm
    have e2 : W * (U * V) * P = W * (U * P) * V := by ac_rfl
    rw [e1, e2]
    exact Nat.mul_le_mul_right V h3
end Go.Proofs.YthkcbjhjhkpclaaGreatDoor
