/-
  THE WALK of the law CoinTurned.
-/
import Derived.Test.YtfnchcogdmpojaaKi
import Derived.Test.YtfnchcogdmpojaaKy
import Derived.Maps.OwnOps
import Derived.Maps.RangeWalk
import Derived.Maps.Views
set_option linter.unusedVariables false
set_option linter.unusedSimpArgs false
namespace Go.Proofs.Ytfnchcogdmpojaa
open Go.RowKit Kn Go.Maps

def hitL (a b k : Nat) (y : Int) (t : Nat) : Bool := (lapP a b (blN k t)).map (·.1) == some y
theorem lapT_ways (a b k t : Nat) (a0 : 1 ≤ a) (a1 : a ≤ 1000) (b0 : 1 ≤ b) (b1 : b ≤ 1000) (hk : k ≤ 10) (ht : t < 2 ^ k) :
    (∃ x, -100 ≤ x ∧ x ≤ 100 ∧ (lapT a b (tpS t k) 0).2.2 = 0 ∧ (lapT a b (tpS t k) 0).2.1 ≤ k ∧ (lapT a b (tpS t k) 0).1 = x ∧ ∀ y, hitL a b k y t = decide (x = y)) ∨
    (((lapT a b (tpS t k) 0).2.2 ≠ 0 ∨ ((lapT a b (tpS t k) 0).2.2 = 0 ∧ ¬ (lapT a b (tpS t k) 0).2.1 ≤ k)) ∧ ∀ y, hitL a b k y t = false) := by
  have hin : smB (a : Int) (b : Int) = true := by unfold smB; simp; omega
  have hsz : (tpS t k).size = 2 := rfl
  have hb := tpS_bits k t hk ht
  have hlen : (blN k t).length = k := by simp [blN]
  have pre := pre_lap a b 600
  have hT : lapT (a : Int) (b : Int) (tpS t k) 0 = smp 0 (tpS t k) ((0 : Nat) : Int) true (lapP a b) := by
    unfold lapT; rw [hin, Int.toNat_natCast, Int.toNat_natCast]; rfl
  rw [hT]
  cases hp : lapP a b (tbits (tpS t k) 0) with
  | none =>
    right
    rw [smp_none (z := 0) (P := lapP a b) (j := 0) (by omega) (by omega) hp]
    refine ⟨Or.inl (by decide), fun y => ?_⟩
    unfold hitL
    cases hq : lapP a b (blN k t) with
    | none => rfl
    | some q =>
      obtain ⟨x, r⟩ := q
      obtain ⟨c, e1, e2⟩ := pre _ _ _ hq
      have := e2 (r ++ List.replicate (16 - k) false)
      rw [← List.append_assoc, ← e1, ← hb] at this
      rw [show lapF a b 600 (tbits (tpS t k) 0) = lapP a b (tbits (tpS t k) 0) from rfl, hp] at this
      exact absurd this (by simp)
  | some q =>
    obtain ⟨x, r⟩ := q
    rw [smp_some (z := 0) (P := lapP a b) (j := 0) (by omega) (by omega) hp, hsz]
    have hv := lap_val a0 b0 _ _ hp
    rw [tbits_len, hsz] at hv
    obtain ⟨c, e1, e2⟩ := pre _ _ _ hp
    by_cases hr : 16 - k ≤ r.length
    · left
      refine ⟨x, by omega, by omega, rfl, by show 8 * ((2 : Nat) : Int) - (r.length : Int) ≤ k; omega, rfl, fun y => ?_⟩
      have hl : (blN k t).length + (16 - k) = c.length + r.length := by
        have := congrArg List.length e1
        rw [hb, List.length_append, List.length_append, List.length_replicate] at this; exact this
      rw [hb] at e1
      have hc : c.length ≤ (blN k t).length := by omega
      have ht1 : blN k t = c ++ (blN k t).drop c.length := by
        have h5 := congrArg (List.take c.length) e1
        rw [List.take_append_of_le_length hc, List.take_left] at h5
        conv => lhs; rw [← List.take_append_drop c.length (blN k t)]
        rw [h5]
      have h6 := e2 ((blN k t).drop c.length)
      rw [← ht1] at h6
      unfold hitL
      rw [show lapP a b (blN k t) = some (x, (blN k t).drop c.length) from h6]
      show (some x == some y) = decide (x = y)
      by_cases hxy : x = y
      · subst hxy; simp
      · simp [hxy]
    · right
      refine ⟨Or.inr ⟨rfl, by show ¬ 8 * ((2 : Nat) : Int) - (r.length : Int) ≤ k; omega⟩, fun y => ?_⟩
      unfold hitL
      cases hq : lapP a b (blN k t) with
      | none => rfl
      | some q2 =>
        obtain ⟨x2, r2⟩ := q2
        obtain ⟨c2, e3, e4⟩ := pre _ _ _ hq
        have := e4 (r2 ++ List.replicate (16 - k) false)
        rw [← List.append_assoc, ← e3, ← hb] at this
        rw [show lapF a b 600 (tbits (tpS t k) 0) = lapP a b (tbits (tpS t k) 0) from rfl, hp] at this
        simp only [Option.some.injEq, Prod.mk.injEq] at this
        exfalso; apply hr; rw [this.2, List.length_append, List.length_replicate]; omega
theorem turned_all (a b k : Nat) {x : Int} (hx : x ≠ 0) : cntR (2 ^ k) (hitL a b k x) = cntR (2 ^ k) (hitL a b k (-x)) := by
  have A := fun z : Int => cnt_all (fun l => (lapP a b l).map (·.1) == some z) k (fun l => (lapP a b l).map (·.1) == some z)
  show cntR (2 ^ k) (fun t => (lapP a b (blN k t)).map (·.1) == some x) = cntR (2 ^ k) (fun t => (lapP a b (blN k t)).map (·.1) == some (-x))
  rw [A x, A (-x)]
  exact lap_turned a b 600 k x hx
theorem cntR_le' (f : Nat → Bool) : ∀ N, cntR N f ≤ N
  | 0 => Nat.le_refl _
  | N + 1 => by
    have := cntR_le' f N
    rw [cntR_succ]; split <;> omega
abbrev li (x : Int) : Lit := .int .i64 x
abbrev dl (c : Int) : DataW Unit := .lit (.int .i64 c)
/-- what the map holds behind so many tapes -/
def Mp (a b k t : Nat) (D : DataW Unit) : Prop := IsMap D ∧ ∀ x : Int, D.atKey (li x) (dl 0) = dl (cntR t (hitL a b k x) : Nat)
theorem Mp.miss {a b k t : Nat} {D : DataW Unit} (h : Mp a b k t D) (hm : ∀ y, hitL a b k y t = false) : Mp a b k (t + 1) D :=
  ⟨h.1, fun x => by rw [cntR_succ, hm x]; exact h.2 x⟩
theorem Mp.hit {a b k t : Nat} {D : DataW Unit} {x c : Int} (h : Mp a b k t D) (hm : ∀ y, hitL a b k y t = decide (x = y)) (hc : D.atKey (li x) (dl 0) = dl c) : Mp a b k (t + 1) (D.put (li x) (dl (c + 1))) := by
  refine ⟨by obtain ⟨es, he⟩ := h.1; subst he; exact ⟨_, rfl⟩, fun y => ?_⟩
  rw [cntR_succ, hm y]
  by_cases hxy : x = y
  · subst hxy
    rw [atKey_put_same (k := li x) h.1 trivial, if_pos (by simp)]
    have := h.2 x
    rw [hc] at this
    simp only [DataW.lit.injEq, Lit.int.injEq, true_and] at this
    rw [this]; push_cast; rfl
  · rw [atKey_put_other (by simp only [ne_eq, Lit.int.injEq, true_and]; exact fun e => hxy e.symm), if_neg (by simp [hxy])]
    exact h.2 y
theorem owns_below {w w' : World} {P : Program} {k : TypeId} {R : Value → Option (DataW Unit × List MemPlace)} {b n : Nat} {D : DataW Unit} (h : w.ownsMap P k R b n D) (hb : Below w.heap.size w w') : w'.ownsMap P k R b n D := by
  have hl := h.lt
  obtain ⟨es, clock, h1, h2⟩ := h
  exact ⟨es, clock, (hb.block b hl).trans h1, h2⟩
theorem law3 : Keyed Try.prog 3 := int_keyed Try.underlying3
theorem zero3 (w : World) : (zeroValue 3).run Try.prog w = .ok (.int .i64 0) w := by kernel_rfl
theorem neg_w {x : Int} (h : (Lit.int .i64 x).wf = true) : (wrap64 (-x) = -x ∨ wrap64 (-x) = x) ∧ (Lit.int .i64 (wrap64 (-x))).wf = true := by
  have b := bounds_i64 h
  refine ⟨?_, wrap64_wf _⟩
  by_cases hx : x = -9223372036854775808
  · right; subst hx; decide +kernel
  · left; rw [IntWalk.wrap64_in _ (by omega)]
set_option maxRecDepth 100000 in
set_option maxHeartbeats 16000000 in
theorem walkCoinTurned (a : Int) (a0 : -9223372036854775808 ≤ a) (a1 : a ≤ 9223372036854775807) (b : Int) (b0 : -9223372036854775808 ≤ b) (b1 : b ≤ 9223372036854775807) (k : Int) (k0 : -9223372036854775808 ≤ k) (k1 : k ≤ 9223372036854775807) (w : World) :
    Calls Try.prog 4 #[.int .i64 a, .int .i64 b, .int .i64 k] w fun e w' => e = .returned (.bool true) ∧ Below w.heap.size w w' := by
  have LV := Lib.hid (fun w' => coinLives_any w')
  have hcase : a < 1 ∨ (1 ≤ a ∧ (b < 1 ∨ (1 ≤ b ∧ (1000 < a ∨ (a ≤ 1000 ∧ (1000 < b ∨ (b ≤ 1000 ∧ (k < 0 ∨ (0 ≤ k ∧ (10 < k ∨ k ≤ 10)))))))))) := by omega
  rcases hcase with h1 | ⟨h1, h2 | ⟨h2, h3 | ⟨h3, h4 | ⟨h4, h5 | ⟨h5, h6 | h6⟩⟩⟩⟩⟩
  iterate 6
    · go_enter Try.func4, Try.ntmps4
      go_wp2_with fail
      refine (LV.out _).mono ?_
      rintro r w1 ⟨rfl, hb⟩
      have B1 := Lib.hid hb
      clear hb
      go_wp2_with fail
      refine (LV.out _).mono ?_
      rintro r w2 ⟨rfl, hb⟩
      have B2 := Lib.hid (bl_thru' B1.out B1.out.size hb)
      clear hb
      go_wp2
      go_ret
      exact ⟨rfl, B2.out⟩
  · obtain ⟨A, rfl⟩ := Int.eq_ofNat_of_zero_le (show 0 ≤ a by omega)
    obtain ⟨C, rfl⟩ := Int.eq_ofNat_of_zero_le (show 0 ≤ b by omega)
    obtain ⟨K, rfl⟩ := Int.eq_ofNat_of_zero_le h5
    have hK : K ≤ 10 := by omega
    have hp : 2 ^ K ≤ 1024 := Nat.pow_le_pow_right (show 0 < 2 by decide) hK
    have WY := Lib.hid (fun t ht => lapT_ways A C K t (by omega) (by omega) (by omega) (by omega) hK ht)
    have TU := Lib.hid (fun (x : Int) (hx : x ≠ 0) => turned_all A C K hx)
    have TP := Lib.hid (fun t ht w' => tapeOf_any t K hK ht w')
    have BE := Lib.hid (fun s w' => lap_any A C s 0 w')
    obtain ⟨P, hP⟩ : ∃ P, P = 2 ^ K := ⟨_, rfl⟩
    rw [← hP] at hp
    have HP := Lib.hid hP
    have hw : wrap64 ((2 : Int) ^ K) = (P : Int) := by
      have : (2 : Int) ^ K = (P : Int) := by rw [HP.out]; push_cast; rfl
      rw [this, IntWalk.wrap64_in _ (by omega)]
    have hmm := @run_makeMap Try.prog
    go_enter Try.func4, Try.ntmps4
    go_wp2_with fail
    refine (LV.out _).mono ?_
    rintro r w1 ⟨rfl, hb⟩
    have B1 := Lib.hid hb
    have hb1 := hb.size
    clear hb hP
    go_wp2
    rw [hw]
    clear hw
    go_loopw [44] (fun iv wr => ∃ (t : Nat) (D : DataW Unit), t ≤ P ∧ iv = .int .i64 t ∧ Hid (wr.ownsMap Try.prog 3 (plainElem Try.prog 3) w1.heap.size t D) ∧ Hid (Mp A C K t D) ∧ Hid (Below w.heap.size w wr)) (fun iv _ => P - (intOf iv).toNat)
    case atStart => exact ⟨0, .map [], by omega, rfl, Lib.hid (World.ownsMap_made _ _ _ _), Lib.hid ⟨⟨[], rfl⟩, fun x => rfl⟩, Lib.hid (B1.out.alloc hb1 _)⟩
    case round =>
      obtain ⟨t, D, ht, rfl, OW, MP, B⟩ := hrel
      by_cases hlt : t < P
      · have hlt2 : (t : Int) < (P : Int) := by omega
        have htp : t < 2 ^ K := by rw [← HP.out]; exact hlt
        have W2 := Lib.hid (WY.out t htp)
        have T2 := Lib.hid (TP.out t htp)
        have BE2 := Lib.hid (BE.out (tpS t K))
        clear htp
        generalize lapT (A : Int) (C : Int) (tpS t K) 0 = R at *
        obtain ⟨v, at', e⟩ := R
        simp only at W2 BE2
        rcases W2.out with ⟨x, hx1, hx2, rfl, hat, rfl, hm⟩ | ⟨hno, hm⟩
        · have HM := Lib.hid hm
          clear hm W2
          go_wp2_with fail
          refine (T2.out _).mono ?_
          rintro r w3 ⟨rfl, hb⟩
          have O3 := Lib.hid (owns_below OW.out hb)
          have B3 := Lib.hid (bl_thru' B.out B.out.size hb)
          clear hb
          go_wp2_with fail
          refine (BE2.out _).mono ?_
          rintro r w4 ⟨rfl, hb⟩
          have O4 := Lib.hid (owns_below O3.out hb)
          have B4 := Lib.hid (bl_thru' B3.out B3.out.size hb)
          clear hb
          have MB : ∀ c : Int, D.atKey (li v) (dl 0) = dl c → 0 ≤ c ∧ c ≤ 1024 := fun c hc => by
            have h := MP.out.2 v
            rw [hc] at h
            simp only [DataW.lit.injEq, Lit.int.injEq, true_and] at h
            have := cntR_le' (hitL A C K v) t
            omega
          have HMB := Lib.hid MB
          clear MB
          go_wp2_with (first
            | (at_lookup; refine wpList_lookup_own_int _ rfl _ _ 29 rfl 3 3 .i64 law3 Try.underlying29 Try.underlying3 (zero3 _) w1.heap.size t _ rfl O4.out _ _ rfl (keyOf_int_mk Try.underlying3 (WalkArith.wf_i64 (by omega))) ?_; intro c hat2 hwc; obtain ⟨hc0, hc1⟩ := HMB.out c hat2; have HAT := Lib.hid hat2; clear hat2 hwc)
            | (at_mapUpdate; refine wpList_mapUpdate_own _ rfl _ _ _ 29 rfl 3 3 law3 Try.underlying29 _ w1.heap.size t _ rfl O4.out (by unfold maxLen; omega) _ _ _ rfl rfl (keyOf_int_mk Try.underlying3 (WalkArith.wf_i64 (by omega))) _ [] (plainElem_int Try.underlying3 (WalkArith.wf_i64 (by omega))) ?_; intro w5 hown5 hgrow5; have O5 := Lib.hid hown5; have G5 := Lib.hid hgrow5; clear hown5 hgrow5)
            | go_in)
          go_roundw
          case rel => exact ⟨t + 1, _, by omega, by go_num, O5, Lib.hid (MP.out.hit HM.out HAT.out), Lib.hid (B4.out.grown G5.out B4.out.size (fun j hj => by cases hj; exact hb1))⟩
          case measure => simp [intOf]; omega
        · have HM := Lib.hid hm
          have hno2 : (e == 0) = false ∨ ((e == 0) = true ∧ ¬ at' ≤ (K : Int)) := by
            rcases hno with h | ⟨h, h'⟩
            · left; rw [beq_eq_false_iff_ne]; exact h
            · right; exact ⟨by rw [beq_iff_eq]; exact h, by omega⟩
          clear hm W2 hno
          rcases hno2 with k1 | ⟨k1, k2⟩
          all_goals
            go_wp2_with fail
            refine (T2.out _).mono ?_
            rintro r w3 ⟨rfl, hb⟩
            have O3 := Lib.hid (owns_below OW.out hb)
            have B3 := Lib.hid (bl_thru' B.out B.out.size hb)
            clear hb
            go_wp2_with fail
            refine (BE2.out _).mono ?_
            rintro r w4 ⟨rfl, hb⟩
            have O4 := Lib.hid (owns_below O3.out hb)
            have B4 := Lib.hid (bl_thru' B3.out B3.out.size hb)
            clear hb
            go_wp2
            go_roundw
            case rel => exact ⟨t + 1, D, by omega, by go_num, Lib.hid (O4.out.mono (by omega)), Lib.hid (MP.out.miss HM.out), B4⟩
            case measure => simp [intOf]; omega
      · have htP : t = P := by omega
        subst htP
        have EQ : Hid (∀ x : Int, x ≠ 0 → ∀ c y c2 : Int, (∀ zd, D.atKey (li x) zd = dl c) → (y = -x ∨ y = x) → D.atKey (li y) (dl 0) = dl c2 → c2 = c) := Lib.hid (by
          intro x hx c y c2 h1 hy h2
          have e1 := MP.out.2 x
          rw [h1] at e1
          have e2 := MP.out.2 y
          rw [h2] at e2
          simp only [DataW.lit.injEq, Lit.int.injEq, true_and] at e1 e2
          rw [e1, e2]
          rcases hy with rfl | rfl
          · rw [HP.out, TU.out x hx]
          · rfl)
        go_wp2_with (first
          | (at_range; refine wpList_range_own _ rfl _ 29 rfl 3 3 law3 Try.underlying29 _ w1.heap.size t _ rfl OW.out ?_; intro w5 hrg0 hg0 hs0)
          | go_in)
        have hbs := B.out.size
        have B5 := Lib.hid (B.out.grown hg0 hbs (fun j hj => by cases hj))
        clear hg0
        generalize hrb : wr.heap.size = rb at hrg0 hs0 hbs ⊢
        have R5 := Lib.hid hrg0
        clear hrg0
        go_frame
        go_loopw [12] (fun _ w6 => ∃ (left : Lit → Bool) (cnt : Nat), Hid (w6.ranges Try.prog 3 (plainElem Try.prog 3) w1.heap.size rb t D left cnt) ∧ Hid (Below w.heap.size w w6)) (fun _ w6 => w6.rangeLeft w1.heap.size rb)
        case atStart => exact ⟨_, _, R5, B5⟩
        case round =>
          obtain ⟨left, cnt, RG, B6⟩ := hrel
          go_wp2_with (first
            | (at_next; refine wpList_next_ranges_ii _ rfl _ rfl 3 3 .i64 .i64 law3 Try.underlying3 Try.underlying3 w1.heap.size _ t _ _ _ rfl RG.out ?_ ?_)
            | go_in)
          · intro _ hl0
            go_wp2
            go_ret
            exact ⟨rfl, B6.out⟩
          · intro x c w7 cnt1 hwx hwc hlx hat hrg1 hlt1 hg1 hs1 hen
            have B7 := Lib.hid (B6.out.grown hg1 B6.out.size (fun j hj => by cases hj; exact hbs))
            have MS : Hid (w7.rangeLeft w1.heap.size rb < wr.rangeLeft w1.heap.size rb ∧ True) := Lib.hid ⟨by rw [hrg1.left_eq, RG.out.left_eq]; exact hlt1, trivial⟩
            by_cases hx0 : x = 0
            · subst hx0
              have RG1 := Lib.hid hrg1
              clear hrg1 hlt1 hg1 hs1 hwx hwc hlx hat
              go_wp2
              go_roundw
              case rel => exact ⟨_, cnt1, RG1, B7⟩
              case measure => exact MS.out.1
            · have hx1 : (x == 0) = false := by rw [beq_eq_false_iff_ne]; exact hx0
              obtain ⟨hyc, hyw⟩ := neg_w hwx
              obtain ⟨y, hy⟩ : ∃ y, wrap64 (-x) = y := ⟨_, rfl⟩
              rw [hy] at hyc hyw
              obtain ⟨c2, hrun, hat2, _⟩ := hrg1.owns.lookup_int law3 Try.underlying29 Try.underlying3 (zero3 _) (keyOf_int_mk Try.underlying3 hyw)
              have hcc := EQ.out x hx0 c y c2 hat hyc hat2
              subst hcc
              have RG1 := Lib.hid hrg1
              clear hrg1 hlt1 hg1 hs1 hwx hwc hlx hat hyc hyw hat2
              go_wp2
              go_roundw
              case rel => exact ⟨_, cnt1, RG1, B7⟩
              case measure => exact MS.out.1
end Go.Proofs.Ytfnchcogdmpojaa
