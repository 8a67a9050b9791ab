/-
  THE WALK of the law CoinEven.
-/
import Derived.Test.YtfnchcogdmpojaaKi
set_option linter.unusedVariables false
set_option linter.unusedSimpArgs false
namespace Go.Proofs.Ytfnchcogdmpojaa
open Go.RowKit Kn

def hitB (n k y t : Nat) : Bool := (belowP n (blN k t)).map (·.1) == some y
theorem belT_ways (n k t : Nat) (n0 : 1 ≤ n) (n1 : n ≤ 32) (hk : k ≤ 10) (ht : t < 2 ^ k) :
    (∃ x, x < n ∧ (belT n (tpS t k) 0).2.2 = 0 ∧ (belT n (tpS t k) 0).2.1 ≤ k ∧ (belT n (tpS t k) 0).1 = x ∧ ∀ y, hitB n k y t = decide (x = y)) ∨
    (((belT n (tpS t k) 0).2.2 ≠ 0 ∨ ((belT n (tpS t k) 0).2.2 = 0 ∧ ¬ (belT n (tpS t k) 0).2.1 ≤ k)) ∧ ∀ y, hitB n k y t = false) := by
  have hin : inN (n : Int) = true := by unfold inN; simp; omega
  have hsz : (tpS t k).size = 2 := rfl
  have hb := tpS_bits k t hk ht
  have hlen : (blN k t).length = k := by simp [blN]
  have pre := pre_below n (Lib.bitLen (n - 1)) 600
  have hT : belT (n : Int) (tpS t k) 0 = smp 0 (tpS t k) ((0 : Nat) : Int) true (belowP n) := by
    unfold belT; rw [hin, Int.toNat_natCast]; rfl
  rw [hT]
  cases hp : belowP n (tbits (tpS t k) 0) with
  | none =>
    right
    rw [smp_none (z := 0) (P := belowP n) (j := 0) (by omega) (by omega) hp]
    refine ⟨Or.inl (by decide), fun y => ?_⟩
    unfold hitB
    cases hq : belowP n (blN k t) with
    | none => rfl
    | some q =>
      obtain ⟨x, r⟩ := q
      obtain ⟨c, e1, e2⟩ := pre _ _ _ hq
      have := e2 (r ++ List.replicate (16 - k) false)
      rw [← List.append_assoc, ← e1, ← hb] at this
      rw [show belowF n (Lib.bitLen (n - 1)) 600 (tbits (tpS t k) 0) = belowP n (tbits (tpS t k) 0) from rfl, hp] at this
      exact absurd this (by simp)
  | some q =>
    obtain ⟨x, r⟩ := q
    rw [smp_some (z := 0) (P := belowP n) (j := 0) (by omega) (by omega) hp, hsz]
    have hx := (below_len _ _ hp).2
    obtain ⟨c, e1, e2⟩ := pre _ _ _ hp
    by_cases hr : 16 - k ≤ r.length
    · left
      refine ⟨x, hx, rfl, by show 8 * ((2 : Nat) : Int) - (r.length : Int) ≤ k; omega, rfl, fun y => ?_⟩
      have hl : (blN k t).length + (16 - k) = c.length + r.length := by
        have := congrArg List.length e1
        rw [hb, List.length_append, List.length_append, List.length_replicate] at this; exact this
      rw [hb] at e1
      have hc : c.length ≤ (blN k t).length := by omega
      have ht1 : blN k t = c ++ (blN k t).drop c.length := by
        have h5 := congrArg (List.take c.length) e1
        rw [List.take_append_of_le_length hc, List.take_left] at h5
        conv => lhs; rw [← List.take_append_drop c.length (blN k t)]
        rw [h5]
      have h6 := e2 ((blN k t).drop c.length)
      rw [← ht1] at h6
      unfold hitB
      rw [show belowP n (blN k t) = some (x, (blN k t).drop c.length) from h6]
      show (some x == some y) = decide (x = y)
      by_cases hxy : x = y
      · subst hxy; simp
      · simp [hxy]
    · right
      refine ⟨Or.inr ⟨rfl, by show ¬ 8 * ((2 : Nat) : Int) - (r.length : Int) ≤ k; omega⟩, fun y => ?_⟩
      unfold hitB
      cases hq : belowP n (blN k t) with
      | none => rfl
      | some q2 =>
        obtain ⟨x2, r2⟩ := q2
        obtain ⟨c2, e3, e4⟩ := pre _ _ _ hq
        have := e4 (r2 ++ List.replicate (16 - k) false)
        rw [← List.append_assoc, ← e3, ← hb] at this
        rw [show belowF n (Lib.bitLen (n - 1)) 600 (tbits (tpS t k) 0) = belowP n (tbits (tpS t k) 0) from rfl, hp] at this
        simp only [Option.some.injEq, Prod.mk.injEq] at this
        exfalso; apply hr; rw [this.2, List.length_append, List.length_replicate]; omega
theorem even_all {n k : Nat} (n0 : 1 ≤ n) (n1 : n ≤ 32) {x y : Nat} (hx : x < n) (hy : y < n) : cntR (2 ^ k) (hitB n k x) = cntR (2 ^ k) (hitB n k y) := by
  have hn : n ≤ 2 ^ Lib.bitLen (n - 1) := by
    have : ∀ n : Fin 33, 1 ≤ n.val → n.val ≤ 2 ^ Lib.bitLen (n.val - 1) := by decide +kernel
    exact this ⟨n, by omega⟩ n0
  have A := fun z => cnt_all (fun l => (belowP n l).map (·.1) == some z) k (fun l => (belowP n l).map (·.1) == some z)
  show cntR (2 ^ k) (fun t => (belowP n (blN k t)).map (·.1) == some x) = cntR (2 ^ k) (fun t => (belowP n (blN k t)).map (·.1) == some y)
  rw [A x, A y]
  exact below_even hn 600 k x y hx hy
/-- what the row holds behind so many tapes -/
def Oft (n k t : Nat) (cs : List Nat) : Prop := cs.length = n ∧ ∀ y, y < n → cs.getD y 0 = cntR t (hitB n k y)
theorem cntR_le (f : Nat → Bool) : ∀ N, cntR N f ≤ N
  | 0 => Nat.le_refl _
  | N + 1 => by
    have := cntR_le f N
    rw [cntR_succ]; split <;> omega
theorem Oft.miss {n k t : Nat} {cs : List Nat} (h : Oft n k t cs) (hm : ∀ y, hitB n k y t = false) : Oft n k (t + 1) cs :=
  ⟨h.1, fun y hy => by rw [cntR_succ, hm y]; exact h.2 y hy⟩
theorem Oft.hit {n k t x : Nat} {cs : List Nat} (h : Oft n k t cs) (hx : x < n) (hm : ∀ y, hitB n k y t = decide (x = y)) : Oft n k (t + 1) (cs.set x (cs.getD x 0 + 1)) := by
  refine ⟨by rw [List.length_set]; exact h.1, fun y hy => ?_⟩
  rw [cntR_succ, hm y]
  by_cases hxy : x = y
  · subst hxy
    rw [if_pos (by simp), ← h.2 x hx, List.getD_eq_getElem?_getD, List.getElem?_set_self (by rw [h.1]; exact hx)]
    rfl
  · rw [if_neg (by simp [hxy]), ← h.2 y hy, List.getD_eq_getElem?_getD, List.getElem?_set_ne hxy, ← List.getD_eq_getElem?_getD]; rfl
set_option maxRecDepth 100000 in
set_option maxHeartbeats 16000000 in
theorem walkCoinEven (n : Int) (n0 : -9223372036854775808 ≤ n) (n1 : n ≤ 9223372036854775807) (k : Int) (k0 : -9223372036854775808 ≤ k) (k1 : k ≤ 9223372036854775807) (w : World) :
    Calls Try.prog 3 #[.int .i64 n, .int .i64 k] w fun e w' => e = .returned (.bool true) ∧ Below w.heap.size w w' := by
  have LV := Lib.hid (fun w' => coinLives_any w')
  have hcase : n < 1 ∨ (1 ≤ n ∧ (32 < n ∨ (n ≤ 32 ∧ (k < 0 ∨ (0 ≤ k ∧ (10 < k ∨ k ≤ 10)))))) := by omega
  rcases hcase with h1 | ⟨h1, h1 | ⟨h2, h1 | ⟨h3, h1 | h4⟩⟩⟩
  iterate 4
    · go_enter Try.func3, Try.ntmps3
      go_wp2_with fail
      refine (LV.out _).mono ?_
      rintro r w1 ⟨rfl, hb⟩
      have B1 := Lib.hid hb
      clear hb
      go_wp2_with fail
      refine (LV.out _).mono ?_
      rintro r w2 ⟨rfl, hb⟩
      have B2 := Lib.hid (bl_thru' B1.out B1.out.size hb)
      clear hb
      go_wp2
      go_ret
      exact ⟨rfl, B2.out⟩
  · obtain ⟨N, rfl⟩ := Int.eq_ofNat_of_zero_le (show 0 ≤ n by omega)
    obtain ⟨K, rfl⟩ := Int.eq_ofNat_of_zero_le h3
    have hN0 : 1 ≤ N := by omega
    have hN1 : N ≤ 32 := by omega
    have hK : K ≤ 10 := by omega
    have hp : 2 ^ K ≤ 1024 := Nat.pow_le_pow_right (show 0 < 2 by decide) hK
    have WY := Lib.hid (fun t ht => belT_ways N K t hN0 hN1 hK ht)
    have EV := Lib.hid (fun x hx y hy => even_all (k := K) hN0 hN1 (x := x) (y := y) hx hy)
    have TP := Lib.hid (fun t ht w' => tapeOf_any t K hK ht w')
    have BE := Lib.hid (fun s w' => bel_any N s 0 w')
    obtain ⟨P, hP⟩ : ∃ P, P = 2 ^ K := ⟨_, rfl⟩
    rw [← hP] at hp
    have HP := Lib.hid hP
    go_enter Try.func3, Try.ntmps3
    go_wp2_with fail
    refine (LV.out _).mono ?_
    rintro r w1 ⟨rfl, hb⟩
    have B1 := Lib.hid hb
    clear hb hP
    have hw : wrap64 ((2 : Int) ^ K) = (P : Int) := by
      have : (2 : Int) ^ K = (P : Int) := by rw [HP.out]; push_cast; rfl
      rw [this, IntWalk.wrap64_in _ (by omega)]
    go_wp2_with (refine wpList_make_ints rfl _ _ rfl _ _ N rfl rfl rfl rfl (by omega) ?_; intro w2 A2 hb)
    have B2 := Lib.hid (bl_thru' B1.out B1.out.size hb)
    have HA2 := Lib.hid A2
    have hb1 := B1.out.size
    clear A2 hb
    rw [hw]
    clear hw
    go_loopw [35] (fun iv wr => ∃ (t : Nat) (cs : List Nat), t ≤ P ∧ iv = .int .i64 t ∧ Hid (Ai wr w1.heap.size cs) ∧ Hid (Oft N K t cs) ∧ Hid (Below w.heap.size w wr)) (fun iv _ => P - (intOf iv).toNat)
    case atStart => exact ⟨0, _, by omega, rfl, HA2, Lib.hid ⟨by simp, fun y hy => by simp [cntR, List.getD, hy]⟩, B2⟩
    case round =>
      clear HA2 B2
      obtain ⟨t, cs, ht, rfl, A, OF, B⟩ := hrel
      by_cases hlt : t < P
      · have hlt2 : (t : Int) < (P : Int) := by omega
        have htp : t < 2 ^ K := by rw [← HP.out]; exact hlt
        have W2 := Lib.hid (WY.out t htp)
        have T2 := Lib.hid (TP.out t htp)
        have BE2 := Lib.hid (BE.out (tpS t K))
        clear htp
        generalize belT (N : Int) (tpS t K) 0 = R at *
        obtain ⟨v, at', e⟩ := R
        simp only at W2 BE2
        rcases W2.out with ⟨x, hx, rfl, hat, rfl, hm⟩ | ⟨hno, hm⟩
        · have HM := Lib.hid hm
          have HL := OF.out.1
          have hcell := A.out.cell (j := v) (by omega)
          have hcb : cs.getD v 0 ≤ t := by rw [OF.out.2 v hx]; exact cntR_le _ _
          have HX := Lib.hid hx
          have hx2 : (v : Int) < (N : Int) := by omega
          clear hm W2 hcell HL
          go_wp2_with fail
          refine (T2.out _).mono ?_
          rintro r w3 ⟨rfl, hb⟩
          have A3 := Lib.hid (A.out.below hb)
          have B3 := Lib.hid (bl_thru' B.out B.out.size hb)
          clear hb
          go_wp2_with fail
          refine (BE2.out _).mono ?_
          rintro r w4 ⟨rfl, hb⟩
          have A4 := Lib.hid (A3.out.below hb)
          have B4 := Lib.hid (bl_thru' B3.out B3.out.size hb)
          clear hb
          obtain ⟨c1, c2⟩ := A4.out.cell (j := v) (by rw [OF.out.1]; exact HX.out)
          generalize hcd : cs.getD v 0 = cd at *
          have HCD := Lib.hid hcd
          clear hcd
          go_wp2
          go_roundw
          case rel =>
            have hA := A4.out.set v (cd + 1)
            have e : ((cd + 1 : Nat) : Int) = (cd : Int) + 1 := by push_cast; rfl
            rw [e] at hA
            have hO := OF.out.hit HX.out HM.out
            rw [HCD.out] at hO
            exact ⟨t + 1, cs.set v (cd + 1), by omega, by go_num, Lib.hid hA, Lib.hid hO, Lib.hid (B4.out.setCell (p := ⟨w1.heap.size, v, none⟩) hb1 _)⟩
          case measure => simp [intOf]; omega
        · have HM := Lib.hid hm
          have hno2 : (e == 0) = false ∨ ((e == 0) = true ∧ ¬ at' ≤ (K : Int)) := by
            rcases hno with h | ⟨h, h'⟩
            · left; rw [beq_eq_false_iff_ne]; exact h
            · right; exact ⟨by rw [beq_iff_eq]; exact h, by omega⟩
          clear hm W2 hno
          rcases hno2 with k1 | ⟨k1, k2⟩
          all_goals
            go_wp2_with fail
            refine (T2.out _).mono ?_
            rintro r w3 ⟨rfl, hb⟩
            have A3 := Lib.hid (A.out.below hb)
            have B3 := Lib.hid (bl_thru' B.out B.out.size hb)
            clear hb
            go_wp2_with fail
            refine (BE2.out _).mono ?_
            rintro r w4 ⟨rfl, hb⟩
            have A4 := Lib.hid (A3.out.below hb)
            have B4 := Lib.hid (bl_thru' B3.out B3.out.size hb)
            clear hb
            go_wp2
            go_roundw
            case rel => exact ⟨t + 1, cs, by omega, by go_num, A4, Lib.hid (OF.out.miss HM.out), B4⟩
            case measure => simp [intOf]; omega
      · have htP : t = P := by omega
        subst htP
        obtain ⟨c0, hc0⟩ : ∃ c0, c0 = cs.getD 0 0 := ⟨_, rfl⟩
        have hall : ∀ j, j < N → cs.getD j 0 = c0 := fun j hj => by
          rw [hc0, OF.out.2 j hj, OF.out.2 0 (by omega), HP.out]; exact EV.out j hj 0 (by omega)
        have CE := Lib.hid (fun j hj => by have := (A.out.cell (j := j) (by rw [OF.out.1]; exact hj)).1; rw [hall j hj] at this; exact this)
        have q0 := CE.out 0 (by omega)
        clear hall hc0
        go_wp2
        go_loop [70] (fun iv => ∃ j : Nat, j ≤ N ∧ iv = .int .i64 j) (fun iv => N - (intOf iv).toNat)
        case atStart => exact ⟨0, by omega, rfl⟩
        case round =>
          obtain ⟨j, hj, rfl⟩ := hrel
          by_cases hjn : j < N
          · have hjn2 : (j : Int) < (N : Int) := by omega
            have q1 := CE.out j hjn
            go_wp2
            go_round
            case rel => exact ⟨j + 1, by omega, by go_num⟩
            case measure => simp [intOf]; omega
          · go_wp2
            go_ret
            exact ⟨rfl, B.out⟩
end Go.Proofs.Ytfnchcogdmpojaa
