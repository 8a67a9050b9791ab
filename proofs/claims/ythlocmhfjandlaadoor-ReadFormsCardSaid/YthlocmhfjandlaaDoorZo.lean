/-
  PLAIN: of two texts of as many digits, with one tail, the one that is more is read as no less.
-/
import Derived.Test.YthlocmhfjandlaaDoorZu
import Derived.Test.YthlocmhfjandlaaDoorPar
set_option linter.unusedVariables false
set_option linter.unusedSimpArgs false
namespace Go.Proofs.YthlocmhfjandlaaDoor
open Fm Fl

theorem app_digs (d e : List UInt8) (hd : ∀ c ∈ d, decCs.contains c = true) : (d ++ e).takeWhile (decCs.contains ·) = d ++ e.takeWhile (decCs.contains ·) ∧ (d ++ e).dropWhile (decCs.contains ·) = e.dropWhile (decCs.contains ·) := by
  induction d with
  | nil => exact ⟨rfl, rfl⟩
  | cons c d ih =>
    have ih := ih (fun x hx => hd x (List.mem_cons_of_mem _ hx))
    have hc := hd c (List.mem_cons_self ..)
    rw [List.cons_append, List.takeWhile_cons_of_pos (by exact hc), List.dropWhile_cons_of_pos (by exact hc), ih.1, ih.2]
    exact ⟨rfl, rfl⟩
/-- the pieces of a tail -/
def eU (e : List UInt8) : List UInt8 := e.takeWhile (decCs.contains ·)
def eT (e : List UInt8) : List UInt8 := e.dropWhile (decCs.contains ·)
def eP (e : List UInt8) : List UInt8 := if Lib.hasPrefix (eT e) [46] = true then (Lib.trimPrefix (eT e) [46]).takeWhile (decCs.contains ·) else []
def eR (e : List UInt8) : List UInt8 := if Lib.hasPrefix (eT e) [46] = true then (Lib.trimPrefix (eT e) [46]).dropWhile (decCs.contains ·) else eT e
theorem ro_pieces (d e : List UInt8) (h0 : d ≠ []) (hd : ∀ c ∈ d, dgt c) : rNeg (d ++ e) = false ∧ rWhole (d ++ e) = d ++ eU e ∧ rPart (d ++ e) = eP e ∧ rRest (d ++ e) = eR e ∧ ¬ (d ++ e = sInf ∨ d ++ e = sNinf ∨ d ++ e = sNan) := by
  have hd' : ∀ c ∈ d, decCs.contains c = true := fun c hc => dec_has (hd c hc)
  obtain ⟨a1, a2⟩ := app_digs d e hd'
  cases d with
  | nil => exact absurd rfl h0
  | cons c d =>
    have hc := hd' c (List.mem_cons_self ..)
    have t1 := trim_miss 45 c [] (d ++ e) (by rw [beq_eq_false_iff_ne]; intro h; subst h; revert hc; decide)
    have e1 : Lib.trimPrefix (c :: d ++ e) [45] = c :: d ++ e := t1.1
    have e2 : rT2 (c :: d ++ e) = eT e := by unfold rT2; rw [e1]; exact a2
    refine ⟨t1.2, by unfold rWhole; rw [e1]; exact a1, by unfold rPart rPt; rw [e2]; rfl, by unfold rRest rPt; rw [e2]; rfl, ?_⟩
    unfold sInf sNinf sNan
    simp only [List.cons_append, List.cons.injEq]
    rintro (⟨h, -⟩ | ⟨h, -⟩ | ⟨h, -⟩) <;> (subst h; revert hc; decide)
theorem ro_val (d e : List UInt8) (h0 : d ≠ []) (hd : ∀ c ∈ d, dgt c) (mode : Int) (he : readE (d ++ e) mode = 0) :
    knownB mode = true ∧ readV (d ++ e) mode = (rat (kd false mode) (rdA (dcN 0 (d ++ (eU e ++ eP e))) (pwK (eR e) - (eP e).length)) (rdB (pwK (eR e) - (eP e).length)) : Int) ∧ rErr (d ++ e) = 0 := by
  obtain ⟨p1, p2, p3, p4, p5⟩ := ro_pieces d e h0 hd
  have hk : knownB mode = true := by
    cases h : knownB mode
    · unfold readE at he; rw [h, if_neg (by decide)] at he; exact absurd he (by decide)
    · rfl
  have hr : rErr (d ++ e) = 0 := by unfold readE at he; rw [if_pos hk, if_neg p5] at he; exact he
  refine ⟨hk, ?_, hr⟩
  have hN : rdN (d ++ e) = dcN 0 (d ++ (eU e ++ eP e)) := by
    unfold rdN rDig
    rw [p2, p3, dcN_drop, List.append_assoc]
  have hx : rExp (d ++ e) = if (rDig (d ++ e)).isEmpty = true then 0 else pwK (eR e) - (eP e).length := by
    unfold rExp rpK; rw [p3, p4]
  unfold readV
  rw [if_pos hk, if_neg (fun e => p5 (Or.inl e)), if_neg (fun e => p5 (Or.inr (Or.inl e))), if_neg (fun e => p5 (Or.inr (Or.inr e))), if_pos hr, p1, hN]
  by_cases hz : dcN 0 (d ++ (eU e ++ eP e)) = 0
  · have z1 : ∀ K, rdA (dcN 0 (d ++ (eU e ++ eP e))) K = 0 := fun K => by unfold rdA; rw [hz, Nat.zero_mul]
    rw [z1, z1, (rat_zero _ _).1, (rat_zero _ _).1]; rfl
  · have hd : (rDig (d ++ e)).isEmpty = false := by
      cases hh : (rDig (d ++ e)).isEmpty
      · rfl
      · exfalso
        apply hz
        rw [← hN]
        unfold rdN
        rw [List.isEmpty_iff.1 hh]; rfl
    rw [hd] at hx
    rw [hx]
    simp
theorem dcN_less {l m : List UInt8} {a b : Nat} (h : a < b) (hl : l.length = m.length) (hd : ∀ c ∈ l, dgt c) : dcN a l < dcN b m := by
  have h1 := dcN_lt l a hd
  have h2 := dcN_two m b
  have h3 : (a + 1) * 10 ^ l.length ≤ b * 10 ^ l.length := Nat.mul_le_mul_right _ h
  rw [hl] at h1 h3
  omega
theorem less_dcN : ∀ (d c : List UInt8) (a : Nat), d.length = c.length → (∀ x ∈ d, dgt x) → (∀ x ∈ c, dgt x) → Op.bytesLess d c = true → dcN a d ≤ dcN a c
  | [], [], a, _, _, _, h => Nat.le_refl _
  | [], y :: d, a, hl, _, _, _ => by simp at hl
  | x :: c, [], a, hl, _, _, _ => by simp at hl
  | y :: d, x :: c, a, hl, hd, hc, h => by
    have hl' : d.length = c.length := by simpa using hl
    have hx := hc x (List.mem_cons_self ..)
    have hy := hd y (List.mem_cons_self ..)
    unfold dgt at hx hy
    have e1 : dcN a (x :: c) = dcN (a * 10 + (x.toNat - 48)) c := rfl
    have e2 : dcN a (y :: d) = dcN (a * 10 + (y.toNat - 48)) d := rfl
    rw [e1, e2]
    rw [Op.bytesLess, Bool.or_eq_true, Bool.and_eq_true, decide_eq_true_eq, beq_iff_eq] at h
    rcases h with h | ⟨rfl, h⟩
    · have h2 : y.toNat < x.toNat := UInt8.lt_iff_toNat_lt.1 h
      exact Nat.le_of_lt (dcN_less (by omega) hl' (fun z hz => hd z (List.mem_cons_of_mem _ hz)))
    · exact less_dcN d c _ hl' (fun z hz => hd z (List.mem_cons_of_mem _ hz)) (fun z hz => hc z (List.mem_cons_of_mem _ hz)) h
theorem rat_sides (A B k : Nat) : rat 0 A B ≤ rat k A B ∧ rat k A B ≤ rat 1 A B := by
  unfold rat
  split
  · exact ⟨Nat.le_refl _, Nat.le_refl _⟩
  · obtain ⟨h1, h2⟩ := numk_01 k (ratD false A B 0).m (ratD false A B 0).e
    obtain ⟨h3, h4⟩ := numk_01 1 (ratD false A B 0).m (ratD false A B 0).e
    have h5 := (numk_sides (m := (ratD false A B 0).m) (e := (ratD false A B 0).e) k).2
    omega
theorem ro_law (d c e : List UInt8) (mode : Int) (h0 : d ≠ []) (hl : d.length = c.length) (hd : ∀ x ∈ d, dgt x) (hc : ∀ x ∈ c, dgt x) (he : readE (d ++ e) mode = 0) (hf : readE (c ++ e) mode = 0) (hle : Op.bytesLess d c = true ∨ d = c) :
    readV (d ++ e) mode ≤ readV (c ++ e) mode ∧ readE (d ++ e) 2 = 0 ∧ readE (d ++ e) 0 = 0 ∧ readE (d ++ e) 1 = 0 ∧ readV (d ++ e) 2 ≤ readV (d ++ e) 0 ∧ readV (d ++ e) 0 ≤ readV (d ++ e) 1 := by
  have c0 : c ≠ [] := fun h => by
    rw [h] at hl
    exact h0 (List.length_eq_zero_iff.1 hl)
  obtain ⟨hk, v1, r1⟩ := ro_val d e h0 hd mode he
  obtain ⟨-, v2, r2⟩ := ro_val c e c0 hc mode hf
  have hno := (ro_pieces d e h0 hd).2.2.2.2
  have hE : ∀ m : Int, knownB m = true → readE (d ++ e) m = 0 := fun m hm => by unfold readE; rw [if_pos hm, if_neg hno]; exact r1
  have e2 := hE 2 (by decide)
  have e0 := hE 0 (by decide)
  have e1 := hE 1 (by decide)
  obtain ⟨-, w2, -⟩ := ro_val d e h0 hd 2 e2
  obtain ⟨-, w0, -⟩ := ro_val d e h0 hd 0 e0
  obtain ⟨-, w1, -⟩ := ro_val d e h0 hd 1 e1
  have hNle : dcN 0 (d ++ (eU e ++ eP e)) ≤ dcN 0 (c ++ (eU e ++ eP e)) := by
    have key : dcN 0 d ≤ dcN 0 c := by
      rcases hle with h | h
      · exact less_dcN d c 0 hl hd hc h
      · rw [h]; exact Nat.le_refl _
    generalize eU e ++ eP e = u
    rw [dcN_app 0 d u, dcN_app 0 c u, dcN_two u (dcN 0 d), dcN_two u (dcN 0 c)]
    have := Nat.mul_le_mul_right (10 ^ u.length) key
    omega
  refine ⟨?_, e2, e0, e1, ?_, ?_⟩
  · rw [v1, v2]
    have := rat_mono (kd false mode) (rdB_pos (pwK (eR e) - (eP e).length)) (rdB_pos (pwK (eR e) - (eP e).length)) (A := rdA (dcN 0 (d ++ (eU e ++ eP e))) (pwK (eR e) - (eP e).length)) (A' := rdA (dcN 0 (c ++ (eU e ++ eP e))) (pwK (eR e) - (eP e).length)) (Nat.mul_le_mul_right _ (by unfold rdA; exact Nat.mul_le_mul_right _ hNle))
    omega
  · rw [w2, w0, show kd false 2 = 0 from rfl, show kd false 0 = 2 from rfl]
    have := (rat_sides (rdA (dcN 0 (d ++ (eU e ++ eP e))) (pwK (eR e) - (eP e).length)) (rdB (pwK (eR e) - (eP e).length)) 2).1
    omega
  · rw [w1, w0, show kd false 1 = 1 from rfl, show kd false 0 = 2 from rfl]
    have := (rat_sides (rdA (dcN 0 (d ++ (eU e ++ eP e))) (pwK (eR e) - (eP e).length)) (rdB (pwK (eR e) - (eP e).length)) 2).2
    omega
end Go.Proofs.YthlocmhfjandlaaDoor
