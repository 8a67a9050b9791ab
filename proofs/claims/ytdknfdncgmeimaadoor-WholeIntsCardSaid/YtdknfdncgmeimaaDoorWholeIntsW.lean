/-
  THE WALK of the law WholeInts.
-/
import Derived.Test.YtdknfdncgmeimaaDoorWn
import Derived.Test.YtdknfdncgmeimaaDoorWm
set_option linter.unusedVariables false
set_option linter.unusedSimpArgs false
namespace Go.Proofs.YtdknfdncgmeimaaDoor
open Go.RowKit Nt Fm Fl

theorem known_in2 {mode : Int} (h : knownB mode = true) : 0 ≤ mode ∧ mode ≤ 4 := by unfold knownB at h; simpa using h
theorem inE_no {x mode : Int} (h : adE mode ≠ 0) : inE x mode = adE mode := by
  unfold adE at h ⊢; unfold inE
  cases hk : knownB mode
  · rfl
  · rw [hk] at h; exact absurd rfl h
theorem in_again {x mode : Int} (x0 : 0 ≤ x) (x1 : x ≤ 18446744073709551615) (h : adE mode = 0) :
    inE (woV x mode) mode = inE x mode ∧ inV (woV x mode) mode = inV x mode ∧ (inE x mode = 0 → inC (woV x mode) mode = false ∧ inC x mode = woC x mode) := by
  have hk : knownB mode = true := by
    unfold adE at h; cases hk : knownB mode
    · rw [hk] at h; exact absurd h (by decide)
    · rfl
  have hm := known_in2 hk
  rw [(woV_yes hk).1, (woV_yes hk).2.1]
  have hh := hasV_wo x0 x1 hm.1 hm.2
  by_cases hx : fabs x < 9218868437227405312
  · obtain ⟨b, h1, h2, h3, h4, h5⟩ := wo_fin x0 x1 hx hm.1 hm.2
    obtain ⟨f1, -⟩ := valD_facts x x0 x1
    obtain ⟨a1, a2⟩ := mul_again (few := 0) f1 hm.1 hm.2 (Int.le_refl 0) mode
    have eR : inR (woV0 x mode) mode = inR x mode := by unfold inR; rw [h2, a1]
    have eM : inM (woV0 x mode) mode = inM x mode := by unfold inM; rw [eR]
    have eE : inE (woV0 x mode) mode = inE x mode := by unfold inE; rw [hh, eR, eM]
    have eV : inV (woV0 x mode) mode = inV x mode := by unfold inV; rw [eE, eR, eM]
    refine ⟨eE, eV, fun h0 => ?_⟩
    unfold inC
    rw [eE, h0, if_pos rfl, if_pos rfl, h2, a2, h4]; exact ⟨rfl, rfl⟩
  · have hv : hasV x = false := by unfold hasV; rw [decide_eq_false hx]
    have e1 : inE x mode = 4 := by unfold inE; rw [hk, hv]; rfl
    have e2 : inE (woV0 x mode) mode = 4 := by unfold inE; rw [hk, hh, hv]; rfl
    refine ⟨by rw [e1, e2], ?_, fun h0 => ?_⟩
    · unfold inV; rw [e1, e2]; rfl
    · rw [e1] at h0; exact absurd h0 (by decide)
theorem frD_vl (n : Int) : ∃ e : Nat, ((frD n).e = e ∧ (frD n).m * 2 ^ e = n.natAbs) ∧ (n ≠ 0 → (frD n).neg = decide (n < 0)) := by
  have hn : (frD n).Nf := norm_nf _ _ _
  have h := norm_vl (decide (n < 0)) n.natAbs 0 0 (by decide)
  have he : 0 ≤ (frD n).e := by
    rcases @norm_e (decide (n < 0)) n.natAbs 0 with h | h
    · unfold frD; rw [h]; decide
    · exact h
  refine ⟨(frD n).e.toNat, ⟨by omega, ?_⟩, fun hz => ?_⟩
  · have h2 := congrArg Int.natAbs h
    rw [vl_natAbs, vl_natAbs] at h2
    have e1 : ((frD n).e + ((0 : Nat) : Int)).toNat = (frD n).e.toNat := by rw [show ((0 : Nat) : Int) = 0 from rfl, Int.add_zero]
    have h3 : (frD n).m * 2 ^ ((frD n).e + ((0 : Nat) : Int)).toNat = n.natAbs * 2 ^ ((0 : Int) + ((0 : Nat) : Int)).toNat := h2
    rw [e1] at h3
    rw [h3]; simp
  · unfold frD; exact norm_neg _ _ _ (by omega)
theorem from_law {n mode : Int} (n0 : -9223372036854775808 ≤ n) (n1 : n ≤ 9223372036854775807) (h : adE mode = 0) :
    (frC n mode = false → inE (frV n mode) mode = 0 ∧ inV (frV n mode) mode = n ∧ inC (frV n mode) mode = false) ∧ (frC n mode = true → 9007199254740992 < n ∨ n < -9007199254740992) := by
  have hk : knownB mode = true := by
    unfold adE at h; cases hk : knownB mode
    · rw [hk] at h; exact absurd h (by decide)
    · rfl
  have e1 : frV n mode = numR (frD n) mode := by unfold frV; rw [hk]; rfl
  have e2 : frC n mode = numC (frD n) := by unfold frC; rw [hk]; rfl
  have hn : (frD n).Nf := norm_nf _ _ _
  obtain ⟨e, ⟨he, hme⟩, hng⟩ := frD_vl n
  rw [e1, e2]
  constructor
  · intro hc
    obtain ⟨v1, v2⟩ := valD_numR hn mode hc
    have eR : inR (numR (frD n) mode) mode = frD n := by
      unfold inR mulD
      rw [v1, if_pos (Or.inl (by omega)), norm_self hn]
    have eM : inM (numR (frD n) mode) mode = n.natAbs := by
      unfold inM; rw [eR, he, Int.toNat_natCast, hme]
    have eE : inE (numR (frD n) mode) mode = 0 := by
      unfold inE; rw [hk, v2, eR, eM]
      simp only [if_true]
      rw [if_neg]
      unfold most
      by_cases hz : n = 0
      · rw [hz]; split <;> decide
      · rw [hng hz]; by_cases hs : n < 0
        · rw [decide_eq_true hs, if_pos rfl]; omega
        · rw [decide_eq_false hs, if_neg (by decide)]; omega
    refine ⟨eE, ?_, ?_⟩
    · unfold inV; rw [eE, if_pos rfl, eR, eM]
      by_cases hz : n = 0
      · rw [hz]; split <;> decide
      · rw [hng hz]; by_cases hs : n < 0
        · rw [decide_eq_true hs, if_pos rfl]; omega
        · rw [decide_eq_false hs, if_neg (by decide)]; omega
    · unfold inC; rw [eE, if_pos rfl, v1]; unfold mulC; rw [if_pos (Or.inl (by omega))]
  · intro hc
    rcases Int.lt_or_le 9007199254740992 n with h1 | h1
    · exact Or.inl h1
    · rcases Int.lt_or_le n (-9007199254740992) with h2 | h2
      · exact Or.inr h2
      · exfalso
        obtain ⟨r, hr, er⟩ := int_float (I := n.natAbs) (by omega) 1074 rfl
        have : numC (frD n) = false := chg_of (d := frD n) (by omega) hr (by unfold frD; rw [int_vl, er])
        rw [hc] at this; cases this
theorem frV_bd (n mode : Int) : 0 ≤ frV n mode ∧ frV n mode ≤ 18446744073709551615 := by
  have := numR_bd (frD n) mode
  unfold frV; split <;> omega
theorem wholeInts_a {x n mode : Int} (x0 : 0 ≤ x) (x1 : x ≤ 18446744073709551615) (n0 : -9223372036854775808 ≤ n) (n1 : n ≤ 9223372036854775807) (h : (adE mode != 0) = false) :
    (inE x mode = 0 → inC (woV x mode) mode = false ∧ inC x mode = woC x mode) ∧
    (frC n mode = false → inE (frV n mode) mode = 0 ∧ inV (frV n mode) mode = n ∧ inC (frV n mode) mode = false) ∧ (frC n mode = true → 9007199254740992 < n ∨ n < -9007199254740992) := by
  have h0 : adE mode = 0 := by simpa using h
  exact ⟨(in_again x0 x1 h0).2.2, from_law n0 n1 h0⟩

set_option maxRecDepth 100000 in
set_option maxHeartbeats 8000000 in
theorem walkWholeInts (x : Int) (x0 : 0 ≤ x) (x1 : x ≤ 18446744073709551615) (n : Int) (n0 : -9223372036854775808 ≤ n) (n1 : n ≤ 9223372036854775807) (mode : Int) (mode0 : -9223372036854775808 ≤ mode) (mode1 : mode ≤ 9223372036854775807) (w : World) (hT : Tab w) :
    Calls Tryd.prog 8 #[.int .u64 x, .int .i64 n, .int .i64 mode] w fun e w' => e = .returned (.bool true) ∧ Below w.heap.size w w' := by
  have L := Lib.hid (fun h => wholeInts_a (mode := mode) x0 x1 n0 n1 h)
  obtain ⟨a0, a1⟩ := woV_bd mode x0 x1
  obtain ⟨b0, b1⟩ := frV_bd n mode
  have NO := Lib.hid (fun h => @inE_no x mode h)
  have hcase : (adE mode ≠ 0) ∨ (adE mode = 0) := by omega
  rcases hcase with hc | hc
  all_goals
    have HT := Lib.hid hT
    clear hT
    first
      | have e1 := inE_no (x := x) hc
      | obtain ⟨e1, e2, -⟩ := in_again x0 x1 hc
    have B : Hid (Below w.heap.size w w) := Lib.hid (Below.refl w.heap.size w)
    go_enter Tryd.func8, Tryd.ntmps8
    go_wp2_with (first
      | (go_at_call 39; (refine (wround_any _ _ (by assumption) (by assumption) (by assumption) (by assumption) _ (HT.out.below (by have := B.out; have := B.out.size; go_grown))).mono ?_); rintro r w1 ⟨rfl, hb⟩; replace B : Hid (Below w.heap.size w w1) := Lib.hid (bl_thru (by have := B.out; have := B.out.size; go_grown) (Nat.le_refl _) hb); clear hb)
      | (go_at_call 38; (refine (wint_any _ _ (by assumption) (by assumption) (by assumption) (by assumption) _ (HT.out.below (by have := B.out; have := B.out.size; go_grown))).mono ?_); rintro r w1 ⟨rfl, hb⟩; replace B : Hid (Below w.heap.size w w1) := Lib.hid (bl_thru (by have := B.out; have := B.out.size; go_grown) (Nat.le_refl _) hb); clear hb)
      | (go_at_call 41; (refine (wfrom_any _ _ (by assumption) (by assumption) (by assumption) (by assumption) _ (HT.out.below (by have := B.out; have := B.out.size; go_grown))).mono ?_); rintro r w1 ⟨rfl, hb⟩; replace B : Hid (Below w.heap.size w w1) := Lib.hid (bl_thru (by have := B.out; have := B.out.size; go_grown) (Nat.le_refl _) hb); clear hb)
      | (go_at_call 40; (refine (wholeLives_any _ (HT.out.below (by have := B.out; have := B.out.size; go_grown))).mono ?_); rintro r w1 ⟨rfl, hb⟩; replace B : Hid (Below w.heap.size w w1) := Lib.hid (bl_thru (by have := B.out; have := B.out.size; go_grown) (Nat.le_refl _) hb); clear hb))
    all_goals (go_ret; refine ⟨?_, by have := B.out; have := B.out.size; go_grown⟩)
    all_goals (clear HT B)
    all_goals first
      | exact rfl
      | (obtain ⟨k1, k2, k3⟩ := L.out (by rw [hc]; rfl); have := k3 (by assumption); refine ret_bool ?_; simp only [Bool.or_eq_true, decide_eq_true_eq]; omega)
      | (obtain ⟨k1, k2, k3⟩ := L.out (by rw [hc]; rfl); exfalso; have := k1 (by assumption); simp_all; done)
      | (obtain ⟨k1, k2, k3⟩ := L.out (by rw [hc]; rfl); exfalso; have := k2 (by simpa using ‹¬frC n mode = true›); simp_all; done)
      | trace_state
end Go.Proofs.YtdknfdncgmeimaaDoor
