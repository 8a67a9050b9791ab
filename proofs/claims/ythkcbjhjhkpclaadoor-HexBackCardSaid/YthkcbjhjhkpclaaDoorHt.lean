/-
  THE WALK of hex.Text; hex.Number for all texts.
-/
import Derived.Test.YthkcbjhjhkpclaaDoorHf
import Derived.Test.YthkcbjhjhkpclaaDoorHn
set_option linter.unusedVariables false
set_option linter.unusedSimpArgs false
namespace Go.Proofs.YthkcbjhjhkpclaaDoor
open Go.RowKit Nt Fm Fl

/-- so many digits Text writes -/
def hxq (d : D) : Nat := (max (blen d.m) 1 - 1 + 3) / 4
/-- what Text tells -/
def hxT (x : Int) : List UInt8 := if fcls x = 5 then [110, 97, 110] else if fcls x = 4 then (if 9223372036854775808 ≤ x then [45, 105, 110, 102] else [105, 110, 102]) else hxW x (valD x) (hxq (valD x))
/-- a call that tells a text -/
def RetT (w : World) (l : List UInt8) (e : Ending) (w' : World) : Prop := e = .returned (.string ⟨l.toArray⟩) ∧ Below w.heap.size w w'
set_option maxRecDepth 100000 in
set_option maxHeartbeats 8000000 in
theorem htext_any (x : Int) (x0 : 0 ≤ x) (x1 : x ≤ 18446744073709551615) (w : World) (hT : Tab w) (hT10 : Tab10 w) :
    Calls Tryd.prog 15 #[.int .u64 x] w (RetT w (hxT x)) := by
  have CL := Lib.hid (fun w' => class_any x x0 x1 w')
  unfold RetT hxT
  by_cases h5 : fcls x = 5
  · rw [if_pos h5]
    rw [h5] at CL
    clear hT hT10 h5
    go_enter Tryd.func15, Tryd.ntmps15
    go_wp2_with (go_at_call 13; refine (CL.out _).mono ?_; rintro e w1 ⟨rfl, rfl⟩)
    go_ret
    exact ⟨rfl, Below.refl _ _⟩
  by_cases h4 : fcls x = 4
  · rw [if_neg h5, if_pos h4]
    rw [h4] at CL
    clear hT hT10 h5 h4
    by_cases hs : 9223372036854775808 ≤ x
    · have hh : (x / 9223372036854775808 == 1) = true := by rw [beq_iff_eq]; omega
      rw [if_pos hs]
      go_enter Tryd.func15, Tryd.ntmps15
      go_wp2_with (go_at_call 13; refine (CL.out _).mono ?_; rintro e w1 ⟨rfl, rfl⟩)
      go_ret
      exact ⟨rfl, Below.refl _ _⟩
    · have hh : (x / 9223372036854775808 == 1) = false := by rw [beq_eq_false_iff_ne]; omega
      rw [if_neg hs]
      go_enter Tryd.func15, Tryd.ntmps15
      go_wp2_with (go_at_call 13; refine (CL.out _).mono ?_; rintro e w1 ⟨rfl, rfl⟩)
      go_ret
      exact ⟨rfl, Below.refl _ _⟩
  rw [if_neg h5, if_neg h4]
  have g5 : (fcls x == 5) = false := by rw [beq_eq_false_iff_ne]; exact h5
  have g4 : (fcls x == 4) = false := by rw [beq_eq_false_iff_ne]; exact h4
  generalize fcls x = c at *
  clear h4 h5
  obtain ⟨f1, f2, f3, f4, f5⟩ := valD_facts x x0 x1
  have hbl : blen (valD x).m ≤ 53 := blen_le_of f2
  have VL := Lib.hid (fun w' h => value_any x x0 x1 w' h)
  have LN := Lib.hid (fun va w' (h : NV w' va (valD x).m) => natLen_any va _ 53 w' h f2 (by omega))
  have WR := Lib.hid (fun v w' (h : DV w' v (valD x)) h2 => write_any x x0 x1 v (valD x) (hxq (valD x)) w' h (Nat.lt_of_lt_of_le f2 (Nat.pow_le_pow_right (by omega) (by omega))) (by omega) (by omega) (by unfold hxq; omega) (by unfold hxq; omega) h2)
  obtain ⟨q, hq⟩ : ∃ q, q = hxq (valD x) := ⟨_, rfl⟩
  have hqv : (q : Int) = (max ((blen (valD x).m : Nat) : Int) 1 - 1 + 3) / 4 := by rw [hq]; unfold hxq; omega
  rw [← hq] at WR
  rw [← hq]
  obtain ⟨RS, hRS⟩ : ∃ RS : ByteArray, RS = ⟨(hxW x (valD x) q).toArray⟩ := ⟨_, rfl⟩
  rw [← hRS]
  rw [← hRS] at WR
  generalize valD x = d at *
  generalize blen d.m = L at *
  have H1 := Lib.hid hT
  have H2 := Lib.hid hT10
  have hqL : ∀ Y : Int, Y = max (L : Int) 1 → IntKind.i64.wrap ((IntKind.i64.wrap (IntKind.i64.wrap (Y - 1) + 3)).tdiv 4) = (q : Int) := by
    intro Y hY
    rw [IntWalk.i64_in (Y - 1) (by omega), IntWalk.i64_in (Y - 1 + 3) (by omega), Int.tdiv_eq_ediv_of_nonneg (by omega), IntWalk.i64_in _ (by omega)]
    omega
  clear hT hT10 hRS hq f1 f2 f3 f4 f5
  have B0 : Hid (Below w.heap.size w w) := Lib.hid (Below.refl _ _)
  have B0s := Lib.hid (Nat.le_refl w.heap.size)
  go_enter Tryd.func15, Tryd.ntmps15
  go_wp2_with (first
    | (go_at_call 13; refine (CL.out _).mono ?_; rintro e w1 ⟨rfl, rfl⟩)
    | (go_at_call 36; refine (VL.out _ H1.out).mono ?_; rintro e w1 ⟨v1, rfl, hd1, hb1⟩; obtain ⟨s1, rfl, hs1⟩ := hd1; obtain ⟨a1, n1, c1, rfl⟩ := hs1.shape; have D1 := Lib.hid hs1; have B1 := Lib.hid hb1; have T1 := Lib.hid (H2.out.below hb1); clear hs1 hb1))
  obtain ⟨V, hV⟩ : ∃ V, V = w1.alloc (.cells #[.bool d.neg, .slice a1 n1 c1, .int .i64 d.e] 50) := ⟨_, rfl⟩
  have XC : Hid (Box V w1.heap.size 50 (.bool d.neg) (.slice a1 n1 c1) (.int .i64 d.e)) := Lib.hid (by rw [hV]; exact Box.new w1 (.bool d.neg) (.slice a1 n1 c1) (.int .i64 d.e) 50)
  replace B1 : Hid (Below w.heap.size w V) := Lib.hid (by rw [hV]; exact B1.out.alloc B1.out.size _)
  replace D1 : Hid (NV V (.slice a1 n1 c1) d.m) := Lib.hid (by rw [hV]; exact D1.out.alloc _)
  replace T1 : Hid (Tab10 V) := Lib.hid (by rw [hV]; exact T1.out.below ((Below.refl _ _).alloc (Nat.le_refl _) _))
  obtain ⟨bk, hbk⟩ : ∃ bk, bk = w1.heap.size := ⟨_, rfl⟩
  rw [← hV]
  rw [← hbk] at XC
  rw [← hbk]
  clear hV hbk
  replace XC := Lib.hid XC.out.drew
  replace B1 := Lib.hid B1.out.drew
  replace D1 := Lib.hid D1.out.drew
  replace T1 : Hid (Tab10 V.drew) := Lib.hid (T1.out.below (Below.refl _ _).drew)
  obtain ⟨p0, p1, p2, q0, q1, q2⟩ := XC.out.cells
  go_region_held3 (fun w' => w'.cell? ⟨bk, 0, none⟩ = some (.bool d.neg) ∧ w'.cell? ⟨bk, 1, none⟩ = some (.slice a1 n1 c1) ∧ w'.cell? ⟨bk, 2, none⟩ = some (.int .i64 d.e))
    (first
      | exact ⟨p0, p1, p2⟩
      | (obtain ⟨p0, p1, p2, -, -, -⟩ := XC.out.cells; exact ⟨p0, p1, p2⟩)
      | (go_keep; done))
    (first
      | (go_at_call 34; refine (LN.out _ _ D1.out).mono ?_; rintro e w' ⟨rfl, rfl⟩)
      | (go_at_call 37; rw [← hqv]; refine (WR.out _ _ ⟨_, rfl, D1.out⟩ T1.out).mono ?_; rintro e w' ⟨rfl, hb⟩; replace B1 := Lib.hid (bl_thru B1.out (Nat.le_refl _) hb); replace XC := Lib.hid (XC.out.below hb); clear hb))
  go_wp2
  go_ret
  exact ⟨rfl, B1.out⟩
set_option maxRecDepth 100000 in
set_option maxHeartbeats 8000000 in
theorem hnumber_any {s t1 t2 whole t3 r part t4 t5 t6 power rest : List UInt8} {neg ok pt p down up : Bool} (H : Prs s t1 t2 whole t3 r part t4 t5 t6 power rest neg ok pt p down up) (S : ByteArray) (hS : S = ⟨s.toArray⟩) (mode : Int) (w : World) :
    Calls Tryd.prog 14 #[.string S, .int .i64 mode] w (RetUBE w (if hnE s (prBad whole part power rest ok p) mode = 0 then hnV neg (hxN 0 (whole ++ part)) (prK part power down) mode else 0) (decide (hnE s (prBad whole part power rest ok p) mode = 0) && hnC neg (hxN 0 (whole ++ part)) (prK part power down)) (hnE s (prBad whole part power rest ok p) mode)) := by
  have zS : ((S.size : Nat) : Int) = (s.length : Int) := by rw [hS]; rfl
  by_cases hk : 0 ≤ mode ∧ mode ≤ 4
  · have hkb : knownB mode = true := by unfold knownB; rw [decide_eq_true_eq]; exact hk
    by_cases hl : 1000 < s.length
    · have hE : hnE s (prBad whole part power rest ok p) mode = 2 := by unfold hnE; rw [if_pos hkb, if_pos hl]
      rw [hE, if_neg (by decide), show (decide ((2 : Int) = 0) && hnC neg (hxN 0 (whole ++ part)) (prK part power down)) = false by rfl]
      have KN := Lib.hid (fun w' => known_any mode w')
      rw [hkb] at KN
      have hz : ((1000 : Int) < ((S.size : Nat) : Int)) := by omega
      clear hE hk hkb H hS zS
      unfold RetUBE
      go_enter Tryd.func14, Tryd.ntmps14
      go_wp2_with (go_at_call 21; refine (KN.out _).mono ?_; rintro e w1 ⟨rfl, rfl⟩)
      go_ret3
      exact ⟨rfl, Below.refl _ _⟩
    · have PR := Lib.hid (fun w' => parse_any H S hS (by omega) w')
      obtain ⟨d1, d2, d3, d4⟩ := prs_dig H
      obtain ⟨bad, hbad⟩ : ∃ bad, bad = prBad whole part power rest ok p := ⟨_, rfl⟩
      rw [← hbad] at PR
      rw [← hbad]
      cases bad
      · have hE : hnE s false mode = 0 := by unfold hnE; rw [if_pos hkb, if_neg hl]; rfl
        rw [hE, if_pos rfl, show (decide ((0 : Int) = 0) && hnC neg (hxN 0 (whole ++ part)) (prK part power down)) = hnC neg (hxN 0 (whole ++ part)) (prK part power down) by rfl]
        have hp5 : power.length ≤ 5 := by
          unfold prBad at hbad
          have := hbad.symm
          simp at this
          omega
        have hdc := dcN_lt power 0 d4
        have h10 : (10 : Nat) ^ power.length ≤ 10 ^ 5 := Nat.pow_le_pow_right (by omega) hp5
        have h10' : (10 : Nat) ^ 5 = 100000 := by decide
        have hkk : -200000 ≤ prK part power down ∧ prK part power down ≤ 200000 := by
          unfold prK
          cases down <;> simp <;> omega
        exact hnum_good (whole ++ part) neg (prK part power down) mode s S hS (by omega) d1 (by omega) hkk.1 hkk.2 hk.1 hk.2 w (fun w' => PR.out w')
      · have hE : hnE s true mode = 5 := by unfold hnE; rw [if_pos hkb, if_neg hl]; rfl
        rw [hE, if_neg (by decide), show (decide ((5 : Int) = 0) && hnC neg (hxN 0 (whole ++ part)) (prK part power down)) = false by rfl]
        have KN := Lib.hid (fun w' => known_any mode w')
        rw [hkb] at KN
        have hz : ((S.size : Nat) : Int) ≤ 1000 := by omega
        unfold RetPr at PR
        simp only [Bool.not_true, Bool.false_and, if_true] at PR
        clear hE hk hkb H hS zS d1 d2 d3 d4 hbad
        unfold RetUBE
        go_enter Tryd.func14, Tryd.ntmps14
        go_wp2_with (first
          | (go_at_call 21; refine (KN.out _).mono ?_; rintro e w1 ⟨rfl, rfl⟩)
          | (go_at_call 32; refine (PR.out _).mono ?_; rintro e w2 ⟨rfl, hb2⟩))
        go_ret3
        exact ⟨rfl, hb2⟩
  · have hkb : knownB mode = false := by unfold knownB; rw [decide_eq_false_iff_not]; exact hk
    have hE : hnE s (prBad whole part power rest ok p) mode = 1 := by unfold hnE; rw [hkb]; rfl
    rw [hE, if_neg (by decide), show (decide ((1 : Int) = 0) && hnC neg (hxN 0 (whole ++ part)) (prK part power down)) = false by rfl]
    have KN := Lib.hid (fun w' => known_any mode w')
    rw [hkb] at KN
    clear hE hk hkb H hS zS
    unfold RetUBE
    go_enter Tryd.func14, Tryd.ntmps14
    go_wp2_with (go_at_call 21; refine (KN.out _).mono ?_; rintro e w1 ⟨rfl, rfl⟩)
    go_ret3
    exact ⟨rfl, Below.refl _ _⟩
end Go.Proofs.YthkcbjhjhkpclaaDoor
