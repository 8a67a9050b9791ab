/-
  PLAIN: a long division, limb by limb of the quotient. No Go here.
-/
import Derived.Test.YtofdjfdnckmmmaaGreatDoorNat7
set_option linter.unusedVariables false
namespace Go.Proofs.YtofdjfdnckmmmaaGreatDoor
open Nt

/-- what is known above place k: m limbs of a quotient, by n limbs -/
structure OvRel (X V m n k : Nat) (U o : List Nat) : Prop where
  lu : U.length = m + n
  lo : o.length = m
  ul : Lims U
  ol : Lims o
  hk : k ≤ m
  top : val (U.drop (k + n)) = 0
  lt : val (U.drop k) < V
  eq : val (o.drop k) * 2 ^ (32 * k) * V + val U = X

theorem OvRel.split {X V m n j : Nat} {U o : List Nat} (h : OvRel X V m n (j + 1) U o) :
    U = U.take j ++ ((U.drop j).take (n + 1) ++ U.drop (j + n + 1)) ∧ (U.take j).length = j ∧ ((U.drop j).take (n + 1)).length = n + 1 ∧
      val (U.drop (j + n + 1)) = 0 ∧ val ((U.drop j).take (n + 1)) < V * 4294967296 := by
  have hlu := h.lu
  have hk := h.hk
  have e0 : (U.drop j).drop (n + 1) = U.drop (j + n + 1) := by rw [List.drop_drop]; congr 1
  have e1 : U.drop j = (U.drop j).take (n + 1) ++ U.drop (j + n + 1) := by rw [← e0, List.take_append_drop]
  have e2 : val (U.drop (j + n + 1)) = 0 := by have := h.top; rwa [show j + 1 + n = j + n + 1 by omega] at this
  have e3 : ((U.drop j).take (n + 1)).length = n + 1 := by rw [List.length_take, List.length_drop]; omega
  refine ⟨by rw [← e1, List.take_append_drop], by rw [List.length_take]; omega, e3, e2, ?_⟩
  have h1 := val_drop U j (by omega)
  have h2 := h.ul.get j (by omega)
  have h3 := h.lt
  rw [e1, val_append, e2, Nat.mul_zero, Nat.add_zero] at h1
  omega
theorem val_zero_drop {l : List Nat} {n V : Nat} (h : val l < V) (hV : V < 2 ^ (32 * n)) (hn : n ≤ l.length) : val (l.drop n) = 0 := by
  have h1 := val_take_drop l n hn
  rcases Nat.eq_zero_or_pos (val (l.drop n)) with h0 | h0
  · exact h0
  · have : 2 ^ (32 * n) * 1 ≤ 2 ^ (32 * n) * val (l.drop n) := Nat.mul_le_mul_left _ h0
    omega
theorem OvRel.step {X V m n j d : Nat} {U o u' : List Nat} (h : OvRel X V m n (j + 1) U o) (hV : V < 2 ^ (32 * n)) (hd : d = val ((U.drop j).take (n + 1)) / V) (hl : u'.length = n + 1) (hL : Lims u') (hu : val u' = val ((U.drop j).take (n + 1)) % V) :
    d < 4294967296 ∧ OvRel X V m n j (U.take j ++ (u' ++ U.drop (j + n + 1))) (o.set j d) := by
  obtain ⟨e1, e2, e3, e4, e5⟩ := h.split
  have hV0 : 0 < V := Nat.lt_of_le_of_lt (Nat.zero_le _) h.lt
  have hlu := h.lu
  have hk := h.hk
  have hlo := h.lo
  have hdl : d < 4294967296 := by rw [hd, Nat.div_lt_iff_lt_mul hV0, Nat.mul_comm]; exact e5
  have hdr : (U.take j ++ (u' ++ U.drop (j + n + 1))).drop j = u' ++ U.drop (j + n + 1) := by
    rw [List.drop_append, e2, Nat.sub_self, List.drop_of_length_le (by omega)]; rfl
  have hvd : val (u' ++ U.drop (j + n + 1)) = val u' := by rw [val_append, e4, Nat.mul_zero, Nat.add_zero]
  have hlt : val u' < V := by rw [hu]; exact Nat.mod_lt _ hV0
  have hlen : (u' ++ U.drop (j + n + 1)).length = m + n - j := by rw [List.length_append, List.length_drop, hl]; omega
  refine ⟨hdl, ⟨?_, ?_, (h.ul.take j).append (hL.append (h.ul.drop _)), ?_, by omega, ?_, ?_, ?_⟩⟩
  · rw [List.length_append, e2, hlen]; omega
  · rw [List.length_set]; exact hlo
  · intro x hx
    rcases List.mem_or_eq_of_mem_set hx with hx | rfl
    · exact h.ol x hx
    · exact hdl
  · have e : (U.take j ++ (u' ++ U.drop (j + n + 1))).drop (j + n) = (u' ++ U.drop (j + n + 1)).drop n := by
      have := congrArg (List.drop n) hdr
      rw [List.drop_drop] at this
      exact this
    rw [e]
    exact val_zero_drop (V := V) (by rw [hvd]; exact hlt) hV (by omega)
  · rw [hdr, hvd]; exact hlt
  · have eo : (o.set j d).drop j = d :: o.drop (j + 1) := by
      rw [List.drop_eq_getElem_cons (by rw [List.length_set]; omega)]
      congr 1
      · simp
      · rw [List.drop_set_of_lt (by omega)]
    have hq := h.eq
    have hU : val U = val (U.take j) + 2 ^ (32 * j) * val ((U.drop j).take (n + 1)) := by
      conv => lhs; rw [e1]
      rw [val_append, val_append, e2, e4, Nat.mul_zero, Nat.add_zero]
    rw [val_append, hvd, e2, eo]
    simp only [val]
    rw [hU, pow32_succ] at hq
    have hdm := Nat.div_add_mod (val ((U.drop j).take (n + 1))) V
    rw [← hd, ← hu] at hdm
    rw [← hdm] at hq
    generalize 2 ^ (32 * j) = W at *
    generalize val (o.drop (j + 1)) = O at *
    generalize val (U.take j) = A at *
    generalize val u' = R at *
    rw [Nat.add_mul, Nat.add_mul]
    rw [Nat.mul_add] at hq
    have a1 : 4294967296 * O * W * V = O * (4294967296 * W) * V := by rw [Nat.mul_comm 4294967296 O, Nat.mul_assoc O]
    have a2 : W * (V * d) = d * W * V := by rw [Nat.mul_comm V d, ← Nat.mul_assoc, Nat.mul_comm W d]
    omega
theorem OvRel.fin {X V m n : Nat} {U o : List Nat} (h : OvRel X V m n 0 U o) : val o = X / V ∧ val (U.take n) = X % V := by
  have h1 := h.eq
  have h2 := h.lt
  have h3 := h.top
  simp only [List.drop_zero, Nat.mul_zero, Nat.pow_zero, Nat.mul_one, Nat.zero_add] at h1 h2 h3
  have h4 := val_take_drop U n (by have := h.lu; omega)
  rw [h3, Nat.mul_zero, Nat.add_zero] at h4
  have hV0 : 0 < V := Nat.lt_of_le_of_lt (Nat.zero_le _) h2
  rw [← h4, ← h1, Nat.mul_comm (val o), Nat.mul_add_div hV0, Nat.div_eq_of_lt h2, Nat.mul_add_mod, Nat.mod_eq_of_lt h2]
  exact ⟨rfl, rfl⟩

/-- the number that is divided, and the one that divides, made ready -/
structure OvIn (la lb : List Nat) (n s : Nat) (lu lv : List Nat) : Prop where
  na : Nrm la
  nb : Nrm lb
  nu : Nrm lu
  nv : Nrm lv
  hb : lb.length = n + 1
  hs : s = 32 - Lib.bitLen (lb.getD n 0)
  vu : val lu = val la * 2 ^ s
  vv : val lv = val lb * 2 ^ s
  le : val lb ≤ val la
theorem OvIn.facts {la lb lu lv : List Nat} {n s : Nat} (h : OvIn la lb n s lu lv) :
    s ≤ 31 ∧ lv.length = n + 1 ∧ 2147483648 ≤ lv.getD n 0 ∧ la.length ≤ lu.length ∧ lu.length ≤ la.length + 1 ∧ n + 1 ≤ la.length ∧ val lv < 2 ^ (32 * (n + 1)) := by
  obtain ⟨d0, d1, d2⟩ := blen_limbs h.nb h.hb rfl
  obtain ⟨j, hj, e, b1, b2⟩ := libLen d0 d1
  have hs : s = 31 - j := by rw [h.hs, e]; omega
  have hvb := val_take_succ lb n (by have := h.hb; omega)
  rw [List.take_of_length_le (by have := h.hb; omega)] at hvb
  have hd : lb[n]'(by have := h.hb; omega) = lb.getD n 0 := by simp [List.getD, show n < lb.length by have := h.hb; omega]
  rw [hd] at hvb
  have hvt := val_lt (h.nb.1.take n)
  rw [List.length_take, Nat.min_eq_left (by have := h.hb; omega)] at hvt
  generalize lb.getD n 0 = d at *
  have hlo : 2 ^ (32 * n + j) ≤ val lb := by
    rw [Nat.pow_add]
    have := Nat.mul_le_mul_left (2 ^ (32 * n)) b1
    omega
  have hhi : val lb < 2 ^ (32 * n + (j + 1)) := by
    rw [Nat.pow_add]
    have := Nat.mul_le_mul_left (2 ^ (32 * n)) (Nat.succ_le_of_lt b2)
    rw [Nat.succ_eq_add_one, Nat.mul_add] at this
    omega
  have hvlo : 2 ^ (32 * n + 31) ≤ val lv := by
    rw [h.vv, show 32 * n + 31 = 32 * n + j + s by omega, Nat.pow_add]
    exact Nat.mul_le_mul_right _ hlo
  have hvhi : val lv < 2 ^ (32 * (n + 1)) := by
    rw [h.vv, show 32 * (n + 1) = 32 * n + (j + 1) + s by omega, Nat.pow_add]
    exact Nat.mul_lt_mul_of_pos_right hhi (Nat.two_pow_pos _)
  have hvl : lv.length = n + 1 := by
    have h1 := h.nv.len hvhi
    rcases Nat.lt_or_ge lv.length (n + 1) with h2 | h2
    · have h3 := val_lt h.nv.1
      have h4 : 2 ^ (32 * lv.length) ≤ 2 ^ (32 * n + 31) := Nat.pow_le_pow_right (by decide) (by omega)
      omega
    · omega
  refine ⟨by omega, hvl, ?_, ?_, ?_, ?_, hvhi⟩
  · have h1 := val_take_succ lv n (by omega)
    rw [List.take_of_length_le (by omega)] at h1
    have h2 := val_lt (h.nv.1.take n)
    rw [List.length_take, Nat.min_eq_left (by omega)] at h2
    have h3 : lv.getD n 0 = lv[n]'(by omega) := by simp [List.getD, show n < lv.length by omega]
    rw [h3]
    rw [Nat.pow_add] at hvlo
    have h4 : 2 ^ (32 * n) * 2 ^ 31 < 2 ^ (32 * n) * (lv[n]'(by omega) + 1) := by rw [Nat.mul_add]; omega
    have := Nat.lt_of_mul_lt_mul_left h4
    omega
  · rcases Nat.lt_or_ge lu.length la.length with h1 | h1
    · have h2 := h.na.ge (la.length - 1) (by omega)
      have h3 := val_lt h.nu.1
      have h4 : 2 ^ (32 * lu.length) ≤ 2 ^ (32 * (la.length - 1)) := Nat.pow_le_pow_right (by decide) (by omega)
      have h5 : val la * 1 ≤ val la * 2 ^ s := Nat.mul_le_mul_left _ (Nat.two_pow_pos _)
      have h6 := h.vu
      omega
    · exact h1
  · have h1 := val_lt h.na.1
    have h2 : val lu < 2 ^ (32 * la.length + s) := by rw [h.vu, Nat.pow_add]; exact Nat.mul_lt_mul_of_pos_right h1 (Nat.two_pow_pos _)
    have := h.nu.len h2
    omega
  · rcases Nat.lt_or_ge la.length (n + 1) with h1 | h1
    · have h2 := val_lt_len h.na h.nb (by have := h.hb; omega)
      have := h.le
      omega
    · exact h1
theorem val_take_pad {l : List Nat} {k : Nat} (h1 : l.length ≤ k) (h2 : k ≤ l.length + 1) : val ((l ++ [0]).take k) = val l ∧ ((l ++ [0]).take k).length = k := by
  refine ⟨?_, by rw [List.length_take, List.length_append]; simp; omega⟩
  rcases Nat.lt_or_ge l.length k with h | h
  · rw [List.take_of_length_le (by rw [List.length_append]; simp; omega), val_snoc]; omega
  · have : k = l.length := by omega
    subst this
    rw [List.take_append_of_le_length (Nat.le_refl _), List.take_length]
theorem OvIn.start {la lb lu lv : List Nat} {n s : Nat} (h : OvIn la lb n s lu lv) :
    OvRel (val la * 2 ^ s) (val lv) (la.length - n) (n + 1) (la.length - n) ((lu ++ [0]).take (la.length + 1)) (List.replicate (la.length - n) 0) := by
  obtain ⟨f1, f2, f3, f4, f5, f6, f7⟩ := h.facts
  obtain ⟨g1, g2⟩ := val_take_pad (l := lu) (k := la.length + 1) (by omega) (by omega)
  have hL : Lims ((lu ++ [0]).take (la.length + 1)) := Lims.take (h.nu.1.snoc (by decide)) _
  refine ⟨by rw [g2]; omega, by simp, hL, ?_, Nat.le_refl _, ?_, ?_, ?_⟩
  · intro x hx; rw [List.eq_of_mem_replicate hx]; decide
  · rw [List.drop_of_length_le (by rw [g2]; omega)]; rfl
  · have h1 := val_take_drop ((lu ++ [0]).take (la.length + 1)) (la.length - n) (by rw [g2]; omega)
    rw [g1, h.vu] at h1
    have h2 := val_lt h.na.1
    have h3 := h.nb.ge n h.hb
    have h4 : val la * 2 ^ s < 2 ^ (32 * la.length) * 2 ^ s := Nat.mul_lt_mul_of_pos_right h2 (Nat.two_pow_pos _)
    have h5 : 2 ^ (32 * n) * 2 ^ s ≤ val lv := by rw [h.vv]; exact Nat.mul_le_mul_right _ h3
    have h6 : 2 ^ (32 * la.length) * 2 ^ s = 2 ^ (32 * (la.length - n)) * (2 ^ (32 * n) * 2 ^ s) := by
      have e7 : 32 * la.length = 32 * (la.length - n) + 32 * n := by omega
      conv => lhs; rw [e7]
      rw [Nat.pow_add, Nat.mul_assoc]
    rw [h6] at h4
    have h7 : 2 ^ (32 * (la.length - n)) * val (((lu ++ [0]).take (la.length + 1)).drop (la.length - n)) < 2 ^ (32 * (la.length - n)) * (2 ^ (32 * n) * 2 ^ s) := by
      rw [h1] at h4
      exact Nat.lt_of_le_of_lt (Nat.le_add_left _ _) h4
    exact Nat.lt_of_lt_of_le (Nat.lt_of_mul_lt_mul_left h7) h5
  · rw [List.drop_of_length_le (by simp), g1, h.vu]; simp [val]
/-- what comes out -/
theorem ov_done {a b s X V : Nat} (hX : X = a * 2 ^ s) (hV : V = b * 2 ^ s) : X / V = a / b ∧ X % V / 2 ^ s = a % b := by
  have h0 : 0 < 2 ^ s := Nat.two_pow_pos _
  rw [hX, hV, Nat.mul_div_mul_right _ _ h0, Nat.mul_mod_mul_right, Nat.mul_div_cancel _ h0]
  exact ⟨rfl, rfl⟩
end Go.Proofs.YtofdjfdnckmmmaaGreatDoor
