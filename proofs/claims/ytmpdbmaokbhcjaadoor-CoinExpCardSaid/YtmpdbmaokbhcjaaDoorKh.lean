/-
  WALKS AND PLAIN LAWS for CoinExp: limbOf; dyad.Make and Shift of small numbers; what coin.Exp tells of a tape of so many bits; how often, beside what series.Exp tells.
-/
import Derived.Test.YtmpdbmaokbhcjaaDoorKz
import Derived.Test.YtmpdbmaokbhcjaaDoorKg
import Derived.Test.YtmpdbmaokbhcjaaDoorKi
import Derived.Test.YtmpdbmaokbhcjaaDoorMk
import Derived.Test.YtmpdbmaokbhcjaaDoorPds
set_option linter.unusedVariables false
set_option linter.unusedSimpArgs false
namespace Go.Proofs.YtmpdbmaokbhcjaaDoor
open Go.RowKit Nt Fm Kn
open Ea (IsFl tw)

def lN (n : Nat) : List Nat := if n = 0 then [] else [n]
theorem lim_uno (w : World) (b x : Nat) (X : Int) (T : TypeId) (hX : X = (x : Int)) (hb : b = w.heap.size) (h0 : x ≠ 0) (h1 : x < 4294967296) : Lim (w.alloc (.cells #[.int .u32 X] T)) (.slice (some ⟨b, 0, none⟩) 1 1) (lN x) := by
  subst hX hb
  unfold lN
  rw [if_neg h0]
  refine ⟨Lims.cons h1 Lims.nil, some ⟨w.heap.size, 0, none⟩, 1, rfl, Nat.le_refl 1, by show 1 ≤ maxLen; unfold maxLen; omega, Or.inr ⟨w.heap.size, 0, rfl, by simp, ?_⟩⟩
  intro i hi
  match i, hi with
  | 0, _ => simp [go_sem]
theorem lim_nil (w : World) : Lim w (.slice none 0 0) (lN 0) := ⟨Lims.nil, none, 0, rfl, Nat.le_refl 0, Nat.zero_le _, Or.inl (Nat.le_refl 0)⟩
set_option maxHeartbeats 4000000 in
theorem limbOf_any (n : Nat) (hn : n ≤ 5000) (w : World) :
    Calls Tryd.prog 29 #[.int .i64 n] w fun e w' => ∃ v, e = .returned v ∧ Lim w' v (lN n) ∧ Below w.heap.size w w' := by
  by_cases h : n = 0
  · subst h
    go_enter Tryd.func29, Tryd.ntmps29
    go_wp2
    go_ret
    exact ⟨_, rfl, lim_nil _, Below.refl _ _⟩
  · have h2 : ((n : Int) == 0) = false := by rw [beq_eq_false_iff_ne]; omega
    go_enter Tryd.func29, Tryd.ntmps29
    go_wp2
    go_ret
    exact ⟨_, rfl, lim_uno _ _ n _ _ (by first | rfl | (simp; omega) | omega) rfl h (by omega), by go_grown⟩
theorem checkN_lN (n : Nat) : checkN (lN n) = 0 ∧ val (lN n) = n := by
  unfold checkN lN
  by_cases h : n = 0
  · subst h; exact ⟨rfl, rfl⟩
  · rw [if_neg h]
    refine ⟨?_, by simp [val]⟩
    rw [if_neg (by simp), if_neg (by simpa using h)]
theorem norm_small (g : Bool) {n : Nat} (hn : n ≤ 5000) {x : Int} (x0 : -100 ≤ x) (x1 : x ≤ 100) : Fit (norm g n x) := by
  cases g
  · have := ofInt_bd (q := (n : Int)) (e := x) (k := 13) (by omega) (by omega) (by omega) (by omega)
    have e : ofInt (n : Int) x = norm false n x := by unfold ofInt; rw [decide_eq_false (by omega), Int.natAbs_natCast]
    rw [e] at this; exact this
  · by_cases h : n = 0
    · subst h; exact Fit.nz
    · have := ofInt_bd (q := -(n : Int)) (e := x) (k := 13) (by omega) (by omega) (by omega) (by omega)
      have e : ofInt (-(n : Int)) x = norm true n x := by unfold ofInt; rw [decide_eq_true (by omega), Int.natAbs_neg, Int.natAbs_natCast]
      rw [e] at this; exact this
theorem make_small (g : Bool) (v : Value) (n : Nat) (x : Int) (w : World) (hT : Tab w) (hv : Lim w v (lN n)) (hn : n ≤ 5000) (x0 : -100 ≤ x) (x1 : x ≤ 100) :
    Calls Tryd.prog 11 #[.bool g, v, .int .i64 x] w (RetR w 0 (norm g n x)) := by
  have := make_any g v (lN n) x w hT hv (by omega) (by omega)
  have e : mkE g (lN n) x = 0 := by
    unfold mkE
    rw [if_pos (checkN_lN n).1, if_neg (by omega), (checkN_lN n).2]
    exact fitE_of (norm_small g hn x0 x1)
  have e2 : mkR g (lN n) x = norm g n x := by unfold mkR; rw [if_pos e, (checkN_lN n).2]
  rw [e, e2] at this
  exact this
theorem ofInt_pos (n : Nat) (x : Int) : norm false n x = ofInt (n : Int) x := by unfold ofInt; rw [decide_eq_false (by omega), Int.natAbs_natCast]
theorem ofInt_negn (n : Nat) (x : Int) (h : n ≠ 0) : norm true n x = ofInt (-(n : Int)) x := by unfold ofInt; rw [decide_eq_true (by omega), Int.natAbs_neg, Int.natAbs_natCast]
theorem norm_ofInt (q e n : Int) : norm (ofInt q e).neg (ofInt q e).m ((ofInt q e).e + n) = ofInt q (e + n) := by
  obtain ⟨T, h1, h2⟩ := exT e (e + n)
  obtain ⟨U, h3, h4⟩ := exT n ((ofInt q e).e + n)
  have e1 := ofInt_eT (s := q) h1
  have g1 : 0 ≤ e + n + ((T + U : Nat) : Int) := by omega
  have g2 : 0 ≤ (ofInt q e).e + n + ((T + U : Nat) : Int) := by omega
  refine nf_inj (T := T + U) (norm_nf _ _ _) (ofInt_nf _ _) (norm_eT g2) (ofInt_eT g1) ?_
  rw [norm_vl _ _ _ _ g2, ofInt_vl _ _ _ g1]
  have h := ofInt_vl q e T h1
  unfold D.vl at h ⊢
  show (ofInt q e).sm * 2 ^ ((ofInt q e).e + n + ((T + U : Nat) : Int)).toNat = _
  have k1 : ((ofInt q e).e + n + ((T + U : Nat) : Int)).toNat = ((ofInt q e).e + (T : Int)).toNat + (n + (U : Int)).toNat := by omega
  have k2 : (e + n + ((T + U : Nat) : Int)).toNat = (e + (T : Int)).toNat + (n + (U : Int)).toNat := by omega
  rw [k1, k2, Int.pow_add, Int.pow_add, ← Int.mul_assoc, ← Int.mul_assoc, h]
theorem shift_small (v : Value) (q e n : Int) (w : World) (hT : Tab w) (h : RD w v 0 (ofInt q e)) (n0 : 0 ≤ n) (n1 : n ≤ 10) (hf : Fit (ofInt q (e + n))) :
    Calls Tryd.prog 28 #[v, .int .i64 n] w (RetR w 0 (ofInt q (e + n))) := by
  have := shift_any v 0 n (ofInt q e) w hT h (by omega) (by omega)
  rw [norm_ofInt] at this
  have e1 : shE 0 n (ofInt q (e + n)) = 0 := by unfold shE; rw [if_pos rfl, if_neg (by omega)]; exact fitE_of hf
  have e2 : shR 0 n (ofInt q (e + n)) = ofInt q (e + n) := by unfold shR; rw [if_pos e1]
  rw [e1, e2] at this
  exact this
/-- how often a tape tells v; tells nothing -/
def hitE (a b k : Nat) (v : Bool) (t : Nat) : Bool := (expP a b (blN k t)).map (·.1) == some v
def hitO (a b k : Nat) (t : Nat) : Bool := (expP a b (blN k t)).map (·.1) == none
theorem expT_ways (a b k t : Nat) (b0 : 1 ≤ b) (b1 : b ≤ 1000) (a1 : a ≤ 1000 * b) (hk : k ≤ 10) (ht : t < 2 ^ k) :
    (∃ x, (expT a b (tpS t k) 0).2.2 = 0 ∧ (expT a b (tpS t k) 0).2.1 ≤ k ∧ (expT a b (tpS t k) 0).1 = x ∧ (∀ y, hitE a b k y t = (x == y)) ∧ hitO a b k t = false) ∨
    (((expT a b (tpS t k) 0).2.2 = 4 ∨ ((expT a b (tpS t k) 0).2.2 = 0 ∧ (k : Int) < (expT a b (tpS t k) 0).2.1)) ∧ (∀ y, hitE a b k y t = false) ∧ hitO a b k t = true) := by
  have hin : expOk (a : Int) (b : Int) = true := by unfold expOk; simp; omega
  have hsz : (tpS t k).size = 2 := rfl
  have hb := tpS_bits k t hk ht
  have hlen : (blN k t).length = k := by simp [blN]
  have pre := pre_exp a b
  have hT : expT (a : Int) (b : Int) (tpS t k) 0 = smp false (tpS t k) ((0 : Nat) : Int) true (expP a b) := by
    unfold expT; rw [hin, Int.toNat_natCast, Int.toNat_natCast]; rfl
  rw [hT]
  have fill : ∀ {x r}, expP a b (blN k t) = some (x, r) → expP a b (tbits (tpS t k) 0) = some (x, r ++ List.replicate (16 - k) false) := by
    intro x r hq
    obtain ⟨c, e1, e2⟩ := pre _ _ _ hq
    have := e2 (r ++ List.replicate (16 - k) false)
    rw [← List.append_assoc, ← e1, ← hb] at this
    exact this
  cases hp : expP a b (tbits (tpS t k) 0) with
  | none =>
    right
    rw [smp_none (z := false) (P := expP a b) (j := 0) (by omega) (by omega) hp]
    have hq : expP a b (blN k t) = none := by
      cases hq : expP a b (blN k t) with
      | none => rfl
      | some q => obtain ⟨x, r⟩ := q; rw [fill hq] at hp; exact absurd hp (by simp)
    refine ⟨Or.inl rfl, fun y => ?_, ?_⟩
    · unfold hitE; rw [hq]; rfl
    · unfold hitO; rw [hq]; rfl
  | some q =>
    obtain ⟨x, r⟩ := q
    rw [smp_some (z := false) (P := expP a b) (j := 0) (by omega) (by omega) hp, hsz]
    obtain ⟨c, e1, e2⟩ := pre _ _ _ hp
    by_cases hr : 16 - k ≤ r.length
    · left
      have hl : (blN k t).length + (16 - k) = c.length + r.length := by
        have := congrArg List.length e1
        rw [hb, List.length_append, List.length_append, List.length_replicate] at this; exact this
      rw [hb] at e1
      have hc : c.length ≤ (blN k t).length := by omega
      have ht1 : blN k t = c ++ (blN k t).drop c.length := by
        have h5 := congrArg (List.take c.length) e1
        rw [List.take_append_of_le_length hc, List.take_left] at h5
        conv => lhs; rw [← List.take_append_drop c.length (blN k t)]
        rw [h5]
      have h6 := e2 ((blN k t).drop c.length)
      rw [← ht1] at h6
      refine ⟨x, rfl, by show 8 * ((2 : Nat) : Int) - (r.length : Int) ≤ k; omega, rfl, fun y => ?_, ?_⟩
      · unfold hitE
        rw [h6]
        cases x <;> cases y <;> rfl
      · unfold hitO
        rw [h6]; rfl
    · right
      have hq : expP a b (blN k t) = none := by
        cases hq : expP a b (blN k t) with
        | none => rfl
        | some q2 =>
          obtain ⟨x2, r2⟩ := q2
          have := fill hq
          rw [hp] at this
          simp only [Option.some.injEq, Prod.mk.injEq] at this
          exfalso; apply hr; rw [this.2, List.length_append, List.length_replicate]; omega
      refine ⟨Or.inr ⟨rfl, by show (k : Int) < 8 * ((2 : Nat) : Int) - (r.length : Int); omega⟩, fun y => ?_, ?_⟩
      · unfold hitE; rw [hq]; rfl
      · unfold hitO; rw [hq]; rfl
theorem hit_all (a b k : Nat) : ∀ N, cntR N (hitE a b k true) + cntR N (hitE a b k false) + cntR N (hitO a b k) = N
  | 0 => rfl
  | N + 1 => by
    have := hit_all a b k N
    rw [cntR_succ, cntR_succ, cntR_succ]
    have h : (if hitE a b k true N = true then 1 else 0) + (if hitE a b k false N = true then 1 else 0) + (if hitO a b k N = true then 1 else 0) = 1 := by
      unfold hitE hitO
      cases expP a b (blN k N) with
      | none => rfl
      | some p => obtain ⟨v, r⟩ := p; cases v <;> rfl
    omega
theorem hit_exp (a b k : Nat) (v : Bool) : cntR (2 ^ k) (hitE a b k v) = expN a b k v := by
  have := cnt_all (fun l => (expP a b l).map (·.1) == some v) k (fun l => (expP a b l).map (·.1) == some v)
  show cntR (2 ^ k) (fun t => (expP a b (blN k t)).map (·.1) == some v) = _
  rw [this]
  unfold expN
  refine cntL_congr (fun l => ?_) k
  cases expP a b l with
  | none => rfl
  | some p => rfl
end Go.Proofs.YtmpdbmaokbhcjaaDoor
