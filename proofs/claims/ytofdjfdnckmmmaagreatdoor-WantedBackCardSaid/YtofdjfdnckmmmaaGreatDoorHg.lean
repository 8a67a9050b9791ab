/-
  SOME OF MY TEXTS in one: Hv Hn Ht Hl Hs Hb Hk. Each says what it proves.
-/
import Derived.Test.YtofdjfdnckmmmaaGreatDoorHf
import Derived.Test.YtofdjfdnckmmmaaGreatDoorHr
import Derived.Test.YtofdjfdnckmmmaaGreatDoorBe
import Derived.Test.YtofdjfdnckmmmaaGreatDoorNat7
import Derived.Test.YtofdjfdnckmmmaaGreatDoorNy
import Derived.Test.YtofdjfdnckmmmaaGreatDoorBa
import Derived.Test.YtofdjfdnckmmmaaGreatDoorLk
import Derived.Test.YtofdjfdnckmmmaaGreatDoorDk
set_option linter.unusedVariables false
set_option linter.unusedSimpArgs false
/-
  THE WALK of hex.Text.
-/
namespace Go.Proofs.YtofdjfdnckmmmaaGreatDoor
open Go.RowKit Nt Fm Fl

/-- so many digits Text writes -/
def hxq (d : D) : Nat := (max (blen d.m) 1 - 1 + 3) / 4
/-- what Text tells -/
def hxT (x : Int) : List UInt8 := if fcls x = 5 then [110, 97, 110] else if fcls x = 4 then (if 9223372036854775808 ≤ x then [45, 105, 110, 102] else [105, 110, 102]) else hxW x (valD x) (hxq (valD x))
/-- a call that tells a text -/
def RetT (w : World) (l : List UInt8) (e : Ending) (w' : World) : Prop := e = .returned (.string ⟨l.toArray⟩) ∧ Below w.heap.size w w'
set_option maxRecDepth 100000 in
set_option maxHeartbeats 8000000 in
theorem htext_any (x : Int) (x0 : 0 ≤ x) (x1 : x ≤ 18446744073709551615) (w : World) (hT : Tab w) (hT10 : Tab10 w) :
    Calls Tryz.prog 51 #[.int .u64 x] w (RetT w (hxT x)) := by
  have CL := Lib.hid (fun w' => class_any x x0 x1 w')
  unfold RetT hxT
  by_cases h5 : fcls x = 5
  · rw [if_pos h5]
    rw [h5] at CL
    clear hT hT10 h5
    go_enter Tryz.func51, Tryz.ntmps51
    go_wp2_with (go_at_call 8; refine (CL.out _).mono ?_; rintro e w1 ⟨rfl, rfl⟩)
    go_ret
    exact ⟨rfl, Below.refl _ _⟩
  by_cases h4 : fcls x = 4
  · rw [if_neg h5, if_pos h4]
    rw [h4] at CL
    clear hT hT10 h5 h4
    by_cases hs : 9223372036854775808 ≤ x
    · have hh : (x / 9223372036854775808 == 1) = true := by rw [beq_iff_eq]; omega
      rw [if_pos hs]
      go_enter Tryz.func51, Tryz.ntmps51
      go_wp2_with (go_at_call 8; refine (CL.out _).mono ?_; rintro e w1 ⟨rfl, rfl⟩)
      go_ret
      exact ⟨rfl, Below.refl _ _⟩
    · have hh : (x / 9223372036854775808 == 1) = false := by rw [beq_eq_false_iff_ne]; omega
      rw [if_neg hs]
      go_enter Tryz.func51, Tryz.ntmps51
      go_wp2_with (go_at_call 8; refine (CL.out _).mono ?_; rintro e w1 ⟨rfl, rfl⟩)
      go_ret
      exact ⟨rfl, Below.refl _ _⟩
  rw [if_neg h5, if_neg h4]
  have g5 : (fcls x == 5) = false := by rw [beq_eq_false_iff_ne]; exact h5
  have g4 : (fcls x == 4) = false := by rw [beq_eq_false_iff_ne]; exact h4
  generalize fcls x = c at *
  clear h4 h5
  obtain ⟨f1, f2, f3, f4, f5⟩ := valD_facts x x0 x1
  have hbl : blen (valD x).m ≤ 53 := blen_le_of f2
  have VL := Lib.hid (fun w' h => value_any x x0 x1 w' h)
  have LN := Lib.hid (fun va w' (h : NV w' va (valD x).m) => natLen_any va _ 53 w' h f2 (by omega))
  have WR := Lib.hid (fun v w' (h : DV w' v (valD x)) h2 => write_any x x0 x1 v (valD x) (hxq (valD x)) w' h (Nat.lt_of_lt_of_le f2 (Nat.pow_le_pow_right (by omega) (by omega))) (by omega) (by omega) (by unfold hxq; omega) (by unfold hxq; omega) h2)
  obtain ⟨q, hq⟩ : ∃ q, q = hxq (valD x) := ⟨_, rfl⟩
  have hqv : (q : Int) = (max ((blen (valD x).m : Nat) : Int) 1 - 1 + 3) / 4 := by rw [hq]; unfold hxq; omega
  rw [← hq] at WR
  rw [← hq]
  obtain ⟨RS, hRS⟩ : ∃ RS : ByteArray, RS = ⟨(hxW x (valD x) q).toArray⟩ := ⟨_, rfl⟩
  rw [← hRS]
  rw [← hRS] at WR
  generalize valD x = d at *
  generalize blen d.m = L at *
  have H1 := Lib.hid hT
  have H2 := Lib.hid hT10
  have hqL : ∀ Y : Int, Y = max (L : Int) 1 → IntKind.i64.wrap ((IntKind.i64.wrap (IntKind.i64.wrap (Y - 1) + 3)).tdiv 4) = (q : Int) := by
    intro Y hY
    rw [IntWalk.i64_in (Y - 1) (by omega), IntWalk.i64_in (Y - 1 + 3) (by omega), Int.tdiv_eq_ediv_of_nonneg (by omega), IntWalk.i64_in _ (by omega)]
    omega
  clear hT hT10 hRS hq f1 f2 f3 f4 f5
  have B0 : Hid (Below w.heap.size w w) := Lib.hid (Below.refl _ _)
  have B0s := Lib.hid (Nat.le_refl w.heap.size)
  go_enter Tryz.func51, Tryz.ntmps51
  go_wp2_with (first
    | (go_at_call 8; refine (CL.out _).mono ?_; rintro e w1 ⟨rfl, rfl⟩)
    | (go_at_call 79; refine (VL.out _ H1.out).mono ?_; rintro e w1 ⟨v1, rfl, hd1, hb1⟩; obtain ⟨s1, rfl, hs1⟩ := hd1; obtain ⟨a1, n1, c1, rfl⟩ := hs1.shape; have D1 := Lib.hid hs1; have B1 := Lib.hid hb1; have T1 := Lib.hid (H2.out.below hb1); clear hs1 hb1))
  obtain ⟨V, hV⟩ : ∃ V, V = w1.alloc (.cells #[.bool d.neg, .slice a1 n1 c1, .int .i64 d.e] 68) := ⟨_, rfl⟩
  have XC : Hid (Box V w1.heap.size 68 (.bool d.neg) (.slice a1 n1 c1) (.int .i64 d.e)) := Lib.hid (by rw [hV]; exact Box.new w1 (.bool d.neg) (.slice a1 n1 c1) (.int .i64 d.e) 68)
  replace B1 : Hid (Below w.heap.size w V) := Lib.hid (by rw [hV]; exact B1.out.alloc B1.out.size _)
  replace D1 : Hid (NV V (.slice a1 n1 c1) d.m) := Lib.hid (by rw [hV]; exact D1.out.alloc _)
  replace T1 : Hid (Tab10 V) := Lib.hid (by rw [hV]; exact T1.out.below ((Below.refl _ _).alloc (Nat.le_refl _) _))
  obtain ⟨bk, hbk⟩ : ∃ bk, bk = w1.heap.size := ⟨_, rfl⟩
  rw [← hV]
  rw [← hbk] at XC
  rw [← hbk]
  clear hV hbk
  replace XC := Lib.hid XC.out.drew
  replace B1 := Lib.hid B1.out.drew
  replace D1 := Lib.hid D1.out.drew
  replace T1 : Hid (Tab10 V.drew) := Lib.hid (T1.out.below (Below.refl _ _).drew)
  obtain ⟨p0, p1, p2, q0, q1, q2⟩ := XC.out.cells
  go_region_held3 (fun w' => w'.cell? ⟨bk, 0, none⟩ = some (.bool d.neg) ∧ w'.cell? ⟨bk, 1, none⟩ = some (.slice a1 n1 c1) ∧ w'.cell? ⟨bk, 2, none⟩ = some (.int .i64 d.e))
    (first
      | exact ⟨p0, p1, p2⟩
      | (obtain ⟨p0, p1, p2, -, -, -⟩ := XC.out.cells; exact ⟨p0, p1, p2⟩)
      | (go_keep; done))
    (first
      | (go_at_call 59; refine (LN.out _ _ D1.out).mono ?_; rintro e w' ⟨rfl, rfl⟩)
      | (go_at_call 87; rw [← hqv]; refine (WR.out _ _ ⟨_, rfl, D1.out⟩ T1.out).mono ?_; rintro e w' ⟨rfl, hb⟩; replace B1 := Lib.hid (bl_thru B1.out (Nat.le_refl _) hb); replace XC := Lib.hid (XC.out.below hb); clear hb))
  go_wp2
  go_ret
  exact ⟨rfl, B1.out⟩
end Go.Proofs.YtofdjfdnckmmmaaGreatDoor

/-
  THE WALK of hex.Number.
-/
namespace Go.Proofs.YtofdjfdnckmmmaaGreatDoor
open Go.RowKit Nt Fm Fl

theorem isHx_of {c : UInt8} (h : hexCs.contains c = true) : IsHx c := by
  unfold hexCs at h
  unfold IsHx
  simp at h
  rcases h with rfl | rfl | rfl | rfl | rfl | rfl | rfl | rfl | rfl | rfl | rfl | rfl | rfl | rfl | rfl | rfl <;> decide
/-- the number that is rounded -/
def hnD (neg : Bool) (M : Nat) (k : Int) : D := if 2000 < (blen M : Int) + k then ⟨neg, 1, 2000⟩ else if (blen M : Int) + k < -2000 then ⟨neg, 1, -2000⟩ else ⟨neg, M, k⟩
def hnV (neg : Bool) (M : Nat) (k mode : Int) : Int := if M = 0 then (if neg = true then 9223372036854775808 else 0) else numR (hnD neg M k) mode
def hnC (neg : Bool) (M : Nat) (k : Int) : Bool := if M = 0 then false else numC (hnD neg M k)
/-- a call that tells a number, a mark, an error -/
def RetUBE (w : World) (x : Int) (b : Bool) (er : Int) (e : Ending) (w' : World) : Prop := e = .returned (.tuple #[.int .u64 x, .bool b, .int .i64 er]) ∧ Below w.heap.size w w'
/-- the pieces' number, exponent -/
def prK (part power : List UInt8) (down : Bool) : Int := (if down = true then -((dcN 0 power : Nat) : Int) else ((dcN 0 power : Nat) : Int)) - 4 * (part.length : Int)
def hnE (s : List UInt8) (bad : Bool) (mode : Int) : Int := if knownB mode = true then (if 1000 < s.length then 2 else if bad = true then 5 else 0) else 1
theorem prs_dig {s t1 t2 whole t3 r part t4 t5 t6 power rest : List UInt8} {neg ok pt p down up : Bool} (H : Prs s t1 t2 whole t3 r part t4 t5 t6 power rest neg ok pt p down up) : (∀ c ∈ whole ++ part, IsHx c) ∧ (whole ++ part).length ≤ 2 * s.length ∧ part.length ≤ s.length ∧ ∀ c ∈ power, dgt c := by
  obtain ⟨h1, n1, h2, n2, hw, h3, hr, np, hp, h4, h5, n5, nd, nu, h6, hq, he⟩ := H
  have l1 := trimP_len s [45]
  have l2 := trimP_len t1 [48, 120]
  have l3 := dropW_len (p := (hexCs.contains ·)) t2
  have lw := takeW_le (p := (hexCs.contains ·)) t2
  have lr := trimP_len t3 [46]
  have lr2 := takeW_le (p := (hexCs.contains ·)) r
  rw [← h1] at l1
  rw [← h2] at l2
  rw [← h3] at l3
  rw [← hw] at lw
  rw [← hr] at lr
  have lp : part.length ≤ r.length := by rw [hp]; split; exact lr2; simp
  refine ⟨fun c hc => ?_, by rw [List.length_append]; omega, by omega, fun c hc => ?_⟩
  · rw [List.mem_append] at hc
    rcases hc with hc | hc
    · rw [hw] at hc; exact isHx_of (takeW_mem hc)
    · rw [hp] at hc
      split at hc
      · exact isHx_of (takeW_mem hc)
      · simp at hc
  · rw [hq] at hc
    have := takeW_mem hc
    unfold decCs at this
    unfold dgt
    simp at this
    rcases this with rfl | rfl | rfl | rfl | rfl | rfl | rfl | rfl | rfl | rfl <;> decide
set_option maxRecDepth 100000 in
set_option maxHeartbeats 8000000 in
theorem hnum_good (d : List UInt8) (neg : Bool) (k mode : Int) (s : List UInt8) (S : ByteArray) (hS : S = ⟨s.toArray⟩) (hsl : s.length ≤ 1000) (hd : ∀ c ∈ d, IsHx c) (hdl : d.length ≤ 2000) (k0 : -200000 ≤ k) (k1 : k ≤ 200000) (m0 : 0 ≤ mode) (m1 : mode ≤ 4) (w : World)
    (hpr : ∀ w', Calls Tryz.prog 216 #[.string S] w' fun e w2 => e = .returned (.tuple #[.bool neg, .string ⟨d.toArray⟩, .int .i64 k, .bool true]) ∧ Below w'.heap.size w' w2) :
    Calls Tryz.prog 170 #[.string S, .int .i64 mode] w (RetUBE w (hnV neg (hxN 0 d) k mode) (hnC neg (hxN 0 d) k) 0) := by
  have hkb : knownB mode = true := by unfold knownB; rw [decide_eq_true_eq]; exact ⟨m0, m1⟩
  have KN := Lib.hid (fun w' => known_any mode w')
  rw [hkb] at KN
  have PR := Lib.hid hpr
  obtain ⟨DS, hDS⟩ : ∃ T : ByteArray, T = ⟨d.toArray⟩ := ⟨_, rfl⟩
  rw [← hDS] at PR
  have MN := Lib.hid (fun w' => mantissa_any d DS hDS hd hdl w')
  have hMb := hxN_bd d hd
  obtain ⟨K0, hK0, hK1⟩ : ∃ K0, 8000 ≤ K0 ∧ K0 ≤ 8000 := ⟨8000, by omega, by omega⟩
  have hMb2 : hxN 0 d < 2 ^ K0 := Nat.lt_of_lt_of_le hMb (Nat.pow_le_pow_right (by omega) (by omega))
  have LN := Lib.hid (fun va w' (h : NV w' va (hxN 0 d)) => natLen_any va _ K0 w' h hMb2 (by omega))
  have hbl := blen_le_of hMb2
  have OF := Lib.hid (fun w' => natOf_any 1 (by omega) (by omega) w')
  have RN1 := fun v w' (h : DV w' v (hnD neg (hxN 0 d) k)) (hm : (hnD neg (hxN 0 d) k).m < 2 ^ K0) (hz : (hnD neg (hxN 0 d) k).m ≠ 0) (e0 : -400000 ≤ (hnD neg (hxN 0 d) k).e) (e1 : (hnD neg (hxN 0 d) k).e ≤ 400000) => number_any v _ K0 mode w' h hm (by omega) (by omega) (by omega) (fun h => absurd h hz) m0 m1
  have zS : S.size = s.length := by rw [hS]; rfl
  have hsz : ((S.size : Nat) : Int) ≤ 1000 := by omega
  have B : Hid (Below w.heap.size w w) := Lib.hid (Below.refl _ _)
  have h1K : (1 : Nat) < 2 ^ K0 := Nat.lt_of_lt_of_le (show 1 < 2 ^ 1 by decide) (Nat.pow_le_pow_right (by omega) (by omega))
  unfold hnV hnC
  generalize hxN 0 d = M at *
  unfold RetUBE
  clear hkb hpr hDS hd hS hMb zS
  by_cases hM : M = 0
  · rw [if_pos hM, if_pos hM]
    have HM := Lib.hid hM
    clear RN1
    cases neg
    all_goals
      go_enter Tryz.func170, Tryz.ntmps170
      go_wp2_with (first
        | (go_at_call 28; refine (KN.out _).mono ?_; rintro e w1 ⟨rfl, rfl⟩)
        | (go_at_call 216; refine (PR.out _).mono ?_; rintro e w2 ⟨rfl, hb⟩; replace B : Hid (Below w.heap.size w w2) := Lib.hid (bl_thru B.out (Nat.le_refl _) hb); clear hb)
        | (go_at_call 217; refine (MN.out _).mono ?_; rintro e w3 ⟨v3, rfl, hv, hb⟩; replace B : Hid (Below w.heap.size w w3) := Lib.hid (bl_thru B.out (Nat.le_refl _) hb); obtain ⟨a3, n3, c3, rfl, hnc, hc3, hcase⟩ := nv_len hv; have N3 := Lib.hid hv; obtain rfl : n3 = 0 := (by rcases hcase with ⟨_, h⟩ | ⟨h, _⟩; exact h; exact absurd HM.out h); clear hv hb hcase)
        | (go_at_call 59; refine (LN.out _ _ N3.out).mono ?_; rintro e w4 ⟨rfl, rfl⟩)
        | (go_at_call 61; refine (OF.out _).mono ?_; rintro e w4 ⟨v4, rfl, hv, hb⟩; obtain ⟨a4, n4, c4, rfl⟩ := hv.shape; have N4 : Hid (NV w4 (Value.slice a4 n4 c4) 1) := Lib.hid hv; replace B : Hid (Below w.heap.size w w4) := Lib.hid (bl_thru B.out (Nat.le_refl _) hb); clear hv hb))
      go_ret3
      exact ⟨rfl, B.out⟩
  · rw [if_neg hM, if_neg hM]
    have HM := Lib.hid hM
    obtain ⟨L, hL⟩ : ∃ L, L = blen M := ⟨_, rfl⟩
    rw [← hL] at LN hbl
    have hw0 : IntKind.i64.wrap ((L : Int) + k) = (L : Int) + k := IntWalk.i64_in _ (by omega)
    by_cases ht : 2000 < (L : Int) + k
    · have hD : hnD neg M k = ⟨neg, 1, 2000⟩ := by unfold hnD; rw [← hL, if_pos ht]
      rw [hD] at RN1
      rw [hD]
      have RN := Lib.hid (fun v w' h => RN1 v w' h h1K (show (1 : Nat) ≠ 0 by decide) (show (-400000 : Int) ≤ _ by dsimp only; omega) (show _ ≤ (400000 : Int) by dsimp only; omega))
      clear RN1 hD hL
      cases neg
      all_goals
        go_enter Tryz.func170, Tryz.ntmps170
        go_wp2_with (first
        | (go_at_call 28; refine (KN.out _).mono ?_; rintro e w1 ⟨rfl, rfl⟩)
        | (go_at_call 216; refine (PR.out _).mono ?_; rintro e w2 ⟨rfl, hb⟩; replace B : Hid (Below w.heap.size w w2) := Lib.hid (bl_thru B.out (Nat.le_refl _) hb); clear hb)
        | (go_at_call 217; refine (MN.out _).mono ?_; rintro e w3 ⟨v3, rfl, hv, hb⟩; replace B : Hid (Below w.heap.size w w3) := Lib.hid (bl_thru B.out (Nat.le_refl _) hb); obtain ⟨a3, n3, c3, rfl, hnc, hc3, hcase⟩ := nv_len hv; have N3 := Lib.hid hv; obtain ⟨hm0, hn3⟩ : M ≠ 0 ∧ 1 ≤ n3 := (by rcases hcase with ⟨h, _⟩ | h; exact absurd h HM.out; exact h); have hn3b : ((n3 : Int) == 0) = false := (by rw [beq_eq_false_iff_ne]; omega); clear hv hb hcase)
        | (go_at_call 59; refine (LN.out _ _ N3.out).mono ?_; rintro e w4 ⟨rfl, rfl⟩)
        | (go_at_call 61; refine (OF.out _).mono ?_; rintro e w4 ⟨v4, rfl, hv, hb⟩; obtain ⟨a4, n4, c4, rfl⟩ := hv.shape; have N4 : Hid (NV w4 (Value.slice a4 n4 c4) 1) := Lib.hid hv; replace B : Hid (Below w.heap.size w w4) := Lib.hid (bl_thru B.out (Nat.le_refl _) hb); clear hv hb)
        | (go_at_call 30; refine (RN.out _ _ ⟨_, rfl, N4.out⟩).mono ?_; rintro e w5 ⟨rfl, hb⟩; replace B : Hid (Below w.heap.size w w5) := Lib.hid (bl_thru B.out (Nat.le_refl _) hb); clear hb))
        go_ret3
        exact ⟨rfl, B.out⟩
    · by_cases hb : (L : Int) + k < -2000
      · have hD : hnD neg M k = ⟨neg, 1, -2000⟩ := by unfold hnD; rw [← hL, if_neg ht, if_pos hb]
        rw [hD] at RN1
        rw [hD]
        have RN := Lib.hid (fun v w' h => RN1 v w' h h1K (show (1 : Nat) ≠ 0 by decide) (show (-400000 : Int) ≤ _ by dsimp only; omega) (show _ ≤ (400000 : Int) by dsimp only; omega))
        clear RN1 hD hL
        cases neg
        all_goals
          go_enter Tryz.func170, Tryz.ntmps170
          go_wp2_with (first
          | (go_at_call 28; refine (KN.out _).mono ?_; rintro e w1 ⟨rfl, rfl⟩)
          | (go_at_call 216; refine (PR.out _).mono ?_; rintro e w2 ⟨rfl, hb⟩; replace B : Hid (Below w.heap.size w w2) := Lib.hid (bl_thru B.out (Nat.le_refl _) hb); clear hb)
          | (go_at_call 217; refine (MN.out _).mono ?_; rintro e w3 ⟨v3, rfl, hv, hb⟩; replace B : Hid (Below w.heap.size w w3) := Lib.hid (bl_thru B.out (Nat.le_refl _) hb); obtain ⟨a3, n3, c3, rfl, hnc, hc3, hcase⟩ := nv_len hv; have N3 := Lib.hid hv; obtain ⟨hm0, hn3⟩ : M ≠ 0 ∧ 1 ≤ n3 := (by rcases hcase with ⟨h, _⟩ | h; exact absurd h HM.out; exact h); have hn3b : ((n3 : Int) == 0) = false := (by rw [beq_eq_false_iff_ne]; omega); clear hv hb hcase)
          | (go_at_call 59; refine (LN.out _ _ N3.out).mono ?_; rintro e w4 ⟨rfl, rfl⟩)
          | (go_at_call 61; refine (OF.out _).mono ?_; rintro e w4 ⟨v4, rfl, hv, hb⟩; obtain ⟨a4, n4, c4, rfl⟩ := hv.shape; have N4 : Hid (NV w4 (Value.slice a4 n4 c4) 1) := Lib.hid hv; replace B : Hid (Below w.heap.size w w4) := Lib.hid (bl_thru B.out (Nat.le_refl _) hb); clear hv hb)
          | (go_at_call 30; refine (RN.out _ _ ⟨_, rfl, N4.out⟩).mono ?_; rintro e w5 ⟨rfl, hb⟩; replace B : Hid (Below w.heap.size w w5) := Lib.hid (bl_thru B.out (Nat.le_refl _) hb); clear hb))
          go_ret3
          exact ⟨rfl, B.out⟩
      · have hD : hnD neg M k = ⟨neg, M, k⟩ := by unfold hnD; rw [← hL, if_neg ht, if_neg hb]
        rw [hD] at RN1
        rw [hD]
        have RN := Lib.hid (fun v w' h => RN1 v w' h hMb2 hM (by show -400000 ≤ k; omega) (by show k ≤ 400000; omega))
        clear RN1 hD hL
        cases neg
        all_goals
          go_enter Tryz.func170, Tryz.ntmps170
          go_wp2_with (first
          | (go_at_call 28; refine (KN.out _).mono ?_; rintro e w1 ⟨rfl, rfl⟩)
          | (go_at_call 216; refine (PR.out _).mono ?_; rintro e w2 ⟨rfl, hb⟩; replace B : Hid (Below w.heap.size w w2) := Lib.hid (bl_thru B.out (Nat.le_refl _) hb); clear hb)
          | (go_at_call 217; refine (MN.out _).mono ?_; rintro e w3 ⟨v3, rfl, hv, hb⟩; replace B : Hid (Below w.heap.size w w3) := Lib.hid (bl_thru B.out (Nat.le_refl _) hb); obtain ⟨a3, n3, c3, rfl, hnc, hc3, hcase⟩ := nv_len hv; have N3 := Lib.hid hv; obtain ⟨hm0, hn3⟩ : M ≠ 0 ∧ 1 ≤ n3 := (by rcases hcase with ⟨h, _⟩ | h; exact absurd h HM.out; exact h); have hn3b : ((n3 : Int) == 0) = false := (by rw [beq_eq_false_iff_ne]; omega); clear hv hb hcase)
          | (go_at_call 59; refine (LN.out _ _ N3.out).mono ?_; rintro e w4 ⟨rfl, rfl⟩)
          | (go_at_call 61; refine (OF.out _).mono ?_; rintro e w4 ⟨v4, rfl, hv, hb⟩; obtain ⟨a4, n4, c4, rfl⟩ := hv.shape; have N4 : Hid (NV w4 (Value.slice a4 n4 c4) 1) := Lib.hid hv; replace B : Hid (Below w.heap.size w w4) := Lib.hid (bl_thru B.out (Nat.le_refl _) hb); clear hv hb)
          | (go_at_call 30; refine (RN.out _ _ ⟨_, rfl, N3.out⟩).mono ?_; rintro e w5 ⟨rfl, hb⟩; replace B : Hid (Below w.heap.size w w5) := Lib.hid (bl_thru B.out (Nat.le_refl _) hb); clear hb))
          go_ret3
          exact ⟨rfl, B.out⟩
end Go.Proofs.YtofdjfdnckmmmaaGreatDoor

/-
  THE WALK of hex.Text; hex.Number for all texts.
-/
namespace Go.Proofs.YtofdjfdnckmmmaaGreatDoor
open Go.RowKit Nt Fm Fl

set_option maxRecDepth 100000 in
set_option maxHeartbeats 8000000 in
theorem hnumber_any {s t1 t2 whole t3 r part t4 t5 t6 power rest : List UInt8} {neg ok pt p down up : Bool} (H : Prs s t1 t2 whole t3 r part t4 t5 t6 power rest neg ok pt p down up) (S : ByteArray) (hS : S = ⟨s.toArray⟩) (mode : Int) (w : World) :
    Calls Tryz.prog 170 #[.string S, .int .i64 mode] w (RetUBE w (if hnE s (prBad whole part power rest ok p) mode = 0 then hnV neg (hxN 0 (whole ++ part)) (prK part power down) mode else 0) (decide (hnE s (prBad whole part power rest ok p) mode = 0) && hnC neg (hxN 0 (whole ++ part)) (prK part power down)) (hnE s (prBad whole part power rest ok p) mode)) := by
  have zS : ((S.size : Nat) : Int) = (s.length : Int) := by rw [hS]; rfl
  by_cases hk : 0 ≤ mode ∧ mode ≤ 4
  · have hkb : knownB mode = true := by unfold knownB; rw [decide_eq_true_eq]; exact hk
    by_cases hl : 1000 < s.length
    · have hE : hnE s (prBad whole part power rest ok p) mode = 2 := by unfold hnE; rw [if_pos hkb, if_pos hl]
      rw [hE, if_neg (by decide), show (decide ((2 : Int) = 0) && hnC neg (hxN 0 (whole ++ part)) (prK part power down)) = false by rfl]
      have KN := Lib.hid (fun w' => known_any mode w')
      rw [hkb] at KN
      have hz : ((1000 : Int) < ((S.size : Nat) : Int)) := by omega
      clear hE hk hkb H hS zS
      unfold RetUBE
      go_enter Tryz.func170, Tryz.ntmps170
      go_wp2_with (go_at_call 28; refine (KN.out _).mono ?_; rintro e w1 ⟨rfl, rfl⟩)
      go_ret3
      exact ⟨rfl, Below.refl _ _⟩
    · have PR := Lib.hid (fun w' => parse_any H S hS (by omega) w')
      obtain ⟨d1, d2, d3, d4⟩ := prs_dig H
      obtain ⟨bad, hbad⟩ : ∃ bad, bad = prBad whole part power rest ok p := ⟨_, rfl⟩
      rw [← hbad] at PR
      rw [← hbad]
      cases bad
      · have hE : hnE s false mode = 0 := by unfold hnE; rw [if_pos hkb, if_neg hl]; rfl
        rw [hE, if_pos rfl, show (decide ((0 : Int) = 0) && hnC neg (hxN 0 (whole ++ part)) (prK part power down)) = hnC neg (hxN 0 (whole ++ part)) (prK part power down) by rfl]
        have hp5 : power.length ≤ 5 := by
          unfold prBad at hbad
          have := hbad.symm
          simp at this
          omega
        have hdc := dcN_lt power 0 d4
        have h10 : (10 : Nat) ^ power.length ≤ 10 ^ 5 := Nat.pow_le_pow_right (by omega) hp5
        have h10' : (10 : Nat) ^ 5 = 100000 := by decide
        have hkk : -200000 ≤ prK part power down ∧ prK part power down ≤ 200000 := by
          unfold prK
          cases down <;> simp <;> omega
        exact hnum_good (whole ++ part) neg (prK part power down) mode s S hS (by omega) d1 (by omega) hkk.1 hkk.2 hk.1 hk.2 w (fun w' => PR.out w')
      · have hE : hnE s true mode = 5 := by unfold hnE; rw [if_pos hkb, if_neg hl]; rfl
        rw [hE, if_neg (by decide), show (decide ((5 : Int) = 0) && hnC neg (hxN 0 (whole ++ part)) (prK part power down)) = false by rfl]
        have KN := Lib.hid (fun w' => known_any mode w')
        rw [hkb] at KN
        have hz : ((S.size : Nat) : Int) ≤ 1000 := by omega
        unfold RetPr at PR
        simp only [Bool.not_true, Bool.false_and, if_true] at PR
        clear hE hk hkb H hS zS d1 d2 d3 d4 hbad
        unfold RetUBE
        go_enter Tryz.func170, Tryz.ntmps170
        go_wp2_with (first
          | (go_at_call 28; refine (KN.out _).mono ?_; rintro e w1 ⟨rfl, rfl⟩)
          | (go_at_call 216; refine (PR.out _).mono ?_; rintro e w2 ⟨rfl, hb2⟩))
        go_ret3
        exact ⟨rfl, hb2⟩
  · have hkb : knownB mode = false := by unfold knownB; rw [decide_eq_false_iff_not]; exact hk
    have hE : hnE s (prBad whole part power rest ok p) mode = 1 := by unfold hnE; rw [hkb]; rfl
    rw [hE, if_neg (by decide), show (decide ((1 : Int) = 0) && hnC neg (hxN 0 (whole ++ part)) (prK part power down)) = false by rfl]
    have KN := Lib.hid (fun w' => known_any mode w')
    rw [hkb] at KN
    clear hE hk hkb H hS zS
    unfold RetUBE
    go_enter Tryz.func170, Tryz.ntmps170
    go_wp2_with (go_at_call 28; refine (KN.out _).mono ?_; rintro e w1 ⟨rfl, rfl⟩)
    go_ret3
    exact ⟨rfl, Below.refl _ _⟩
end Go.Proofs.YtofdjfdnckmmmaaGreatDoor

/-
  THE WALK of hexLives.
-/
namespace Go.Proofs.YtofdjfdnckmmmaaGreatDoor
open Go.RowKit Nt Fm Fl

theorem hl_fx : hfE 4609434218613702656 0 0 = 0 ∧ hfS 4609434218613702656 0 0 = [48, 120, 49, 112, 43, 49] ∧ hfC 4609434218613702656 0 0 = true := by
  have hv : hfE 4609434218613702656 0 0 = 0 := by kernel_rfl
  have hd : hfD 4609434218613702656 0 0 = ⟨false, 1, 1⟩ := by kernel_rfl
  refine ⟨hv, ?_, by kernel_rfl⟩
  unfold hfS
  rw [if_pos hv, show Int.toNat 0 = 0 from rfl, hd]
  unfold hxW hxE
  have hp : hxp ⟨false, 1, 1⟩ = 1 := by kernel_rfl
  rw [hp, show Lib.itoa 1 = [49] by unfold Lib.itoa; rw [if_neg (by omega)]; exact dec_small (r := 1) (by omega)]
  first | rfl | decide
theorem hl_tx : hxT 4609434218613702656 = [48, 120, 49, 46, 56, 112, 43, 48] := by
  have hc : fcls 4609434218613702656 = 3 := by kernel_rfl
  have hd : valD 4609434218613702656 = ⟨false, 3, -1⟩ := by kernel_rfl
  have hq : hxq ⟨false, 3, -1⟩ = 1 := by kernel_rfl
  unfold hxT
  rw [hc, if_neg (by decide), if_neg (by decide), hd, hq]
  unfold hxW hxE
  have hp : hxp ⟨false, 3, -1⟩ = 0 := by kernel_rfl
  rw [hp, show Lib.itoa 0 = [48] by unfold Lib.itoa; rw [if_neg (by omega)]; exact dec_small (r := 0) (by omega)]
  first | rfl | decide
theorem hl_prs : Prs [45, 48, 120, 46, 56, 112, 45, 49] [48, 120, 46, 56, 112, 45, 49] [46, 56, 112, 45, 49] [] [46, 56, 112, 45, 49] [56, 112, 45, 49] [56] [112, 45, 49] [45, 49] [49] [49] [] true true true true true false := by
  constructor <;> first | rfl | decide | kernel_rfl
theorem hl_nb : hnE [45, 48, 120, 46, 56, 112, 45, 49] (prBad [] [56] [49] [] true true) 0 = 0 ∧ hnV true (hxN 0 ([] ++ [56])) (prK [56] [49] true) 0 = 13821547256400052224 := by
  constructor <;> kernel_rfl
theorem hl_arg : (0 : Int) ≤ 4609434218613702656 ∧ (4609434218613702656 : Int) ≤ 18446744073709551615 := by omega
end Go.Proofs.YtofdjfdnckmmmaaGreatDoor

/-
  PLAIN: hexadecimal texts: their pieces; what is rounded does not hang on how it is written.
-/
namespace Go.Proofs.YtofdjfdnckmmmaaGreatDoor
open Go.RowKit Nt Fm Fl

theorem blen_ge {M : Nat} (hM : M ≠ 0) : 2 ^ (blen M - 1) ≤ M := by
  unfold blen; rw [if_neg hM]; exact Nat.log2_self_le hM
theorem blen_shl {M : Nat} (hM : M ≠ 0) (j : Nat) : blen (M * 2 ^ j) = blen M + j := by
  have h1 := lt_blen M
  have h2 : 2 ^ (blen M - 1) ≤ M := blen_ge hM
  have hb : 1 ≤ blen M := by unfold blen; rw [if_neg hM]; omega
  have hp := Nat.two_pow_pos j
  apply Nat.le_antisymm
  · apply blen_le_of
    rw [Nat.pow_add]
    exact Nat.mul_lt_mul_of_pos_right h1 hp
  · rcases Nat.lt_or_ge (blen (M * 2 ^ j)) (blen M + j) with h | h
    · exfalso
      have h3 := lt_blen (M * 2 ^ j)
      have h4 : 2 ^ (blen M - 1) * 2 ^ j ≤ M * 2 ^ j := Nat.mul_le_mul_right _ h2
      rw [← Nat.pow_add] at h4
      have h5 : 2 ^ blen (M * 2 ^ j) ≤ 2 ^ (blen M - 1 + j) := Nat.pow_le_pow_right (by omega) (by omega)
      omega
    · exact h
theorem tt_shift (M j t : Nat) (K : Int) (h : 0 ≤ K - j + 1074 + t) : tt t (M * 2 ^ j) (K - j) = tt t M K := by
  unfold tt
  rw [Nat.mul_assoc, ← Nat.pow_add]
  congr 2
  omega
theorem numC_shift (neg : Bool) (M j : Nat) (K : Int) : numC ⟨neg, M * 2 ^ j, K - j⟩ = numC ⟨neg, M, K⟩ := by
  unfold numC
  dsimp only
  obtain ⟨t, ht⟩ : ∃ t : Nat, 0 ≤ K - j + 1074 + (t : Int) := ⟨(-(K - j + 1074)).toNat, by omega⟩
  have h1 := chg_iff (m := M * 2 ^ j) (e := K - j) ht
  have h2 := chg_iff (m := M) (e := K) (t := t) (by omega)
  rw [tt_shift M j t K ht, ← h2] at h1
  cases hc : chg M K
  · exact h1.2 hc
  · cases hd : chg (M * 2 ^ j) (K - j)
    · rw [h1.1 hd] at hc; cases hc
    · rfl
theorem numR_shift (neg : Bool) (M j : Nat) (K mode : Int) : numR ⟨neg, M * 2 ^ j, K - j⟩ mode = numR ⟨neg, M, K⟩ mode := by
  unfold numR
  dsimp only
  obtain ⟨t, ht⟩ : ∃ t : Nat, 0 ≤ K - j + 1074 + (t : Int) := ⟨(-(K - j + 1074)).toNat, by omega⟩
  rw [numk_eq (t := t) ht (by omega) _ (tt_shift M j t K ht)]
theorem hn_shift (neg : Bool) (M j : Nat) (K mode : Int) : hnV neg (M * 2 ^ j) (K - j) mode = hnV neg M K mode ∧ hnC neg (M * 2 ^ j) (K - j) = hnC neg M K := by
  by_cases hM : M = 0
  · subst hM; rw [Nat.zero_mul]; unfold hnV hnC; simp only [if_true]; exact ⟨trivial, trivial⟩
  · have h0 : M * 2 ^ j ≠ 0 := Nat.ne_of_gt (Nat.mul_pos (Nat.pos_of_ne_zero hM) (Nat.two_pow_pos _))
    unfold hnV hnC
    rw [if_neg hM, if_neg h0, if_neg hM, if_neg h0]
    have hb : ((blen (M * 2 ^ j) : Nat) : Int) + (K - j) = (blen M : Int) + K := by rw [blen_shl hM]; omega
    unfold hnD
    rw [hb]
    split
    · exact ⟨rfl, rfl⟩
    · split
      · exact ⟨rfl, rfl⟩
      · exact ⟨numR_shift _ _ _ _ _, numC_shift _ _ _ _⟩
theorem kd_lt (neg : Bool) (mode : Int) : kd neg mode < 4 := by
  unfold kd
  repeat' split
  all_goals omega
theorem tiny_same (k : Nat) (hk : k < 4) : numk k 1 (-2000) = numk k 1 (-2001) := by
  obtain rfl | rfl | rfl | rfl : k = 0 ∨ k = 1 ∨ k = 2 ∨ k = 3 := by omega
  all_goals kernel_rfl
theorem tt_le {t M M' : Nat} {K K' : Int} {a : Nat} (h0 : 0 ≤ K' + 1074 + t) (hM : M' ≤ 2 ^ a) {N : Nat} (hN : 2 ^ N ≤ M) (h : (a : Int) + K' ≤ N + K) : tt t M' K' ≤ tt t M K := by
  unfold tt
  have h1 : M' * 2 ^ (K' + 1074 + (t : Int)).toNat ≤ 2 ^ (a + (K' + 1074 + (t : Int)).toNat) := by
    rw [Nat.pow_add]; exact Nat.mul_le_mul_right _ hM
  have h2 : 2 ^ (N + (K + 1074 + (t : Int)).toNat) ≤ M * 2 ^ (K + 1074 + (t : Int)).toNat := by
    rw [Nat.pow_add]; exact Nat.mul_le_mul_right _ hN
  exact Nat.le_trans h1 (Nat.le_trans (Nat.pow_le_pow_right (by omega) (by omega)) h2)
theorem hn_mono (M : Nat) (K K' mode : Int) (h : K' ≤ K) : hnV false M K' mode ≤ hnV false M K mode := by
  by_cases hM : M = 0
  · unfold hnV; rw [if_pos hM, if_pos hM]; exact Int.le_refl _
  · unfold hnV
    rw [if_neg hM, if_neg hM]
    have hb := lt_blen M
    have hb2 : 2 ^ (blen M - 1) ≤ M := blen_ge hM
    have hb3 : 1 ≤ blen M := by unfold blen; rw [if_neg hM]; omega
    have hk := kd_lt false mode
    obtain ⟨t, ht, ht2⟩ : ∃ t : Nat, 0 ≤ K' + 1074 + (t : Int) ∧ 5000 ≤ t := ⟨(-(K' + 1074)).toNat + 5000, by omega, by omega⟩
    unfold hnD numR
    have hone : (1 : Nat) ≤ 2 ^ 0 := by decide
    have hone2 : 2 ^ 0 ≤ (1 : Nat) := by decide
    by_cases c1 : 2000 < (blen M : Int) + K
    · rw [if_pos c1]
      by_cases c2 : 2000 < (blen M : Int) + K'
      · rw [if_pos c2]; exact Int.le_refl _
      · rw [if_neg c2]
        by_cases c3 : (blen M : Int) + K' < -2000
        · rw [if_pos c3]
          dsimp only
          have := numk_mono (t := t) (m := 1) (m' := 1) (e := -2000) (e' := 2000) (by omega) (by omega) (kd false mode) (tt_le (a := 0) (N := 0) (by omega) hone hone2 (by omega))
          omega
        · rw [if_neg c3]
          dsimp only
          have := numk_mono (t := t) (m := M) (m' := 1) (e := K') (e' := 2000) (by omega) (by omega) (kd false mode) (tt_le (a := blen M) (N := 0) (by omega) (Nat.le_of_lt hb) hone2 (by omega))
          omega
    · rw [if_neg c1, if_neg (show ¬ 2000 < (blen M : Int) + K' by omega)]
      by_cases c2 : (blen M : Int) + K < -2000
      · rw [if_pos c2, if_pos (by omega)]; exact Int.le_refl _
      · rw [if_neg c2]
        by_cases c3 : (blen M : Int) + K' < -2000
        · rw [if_pos c3]
          dsimp only
          rw [tiny_same _ hk]
          have := numk_mono (t := t) (m := 1) (m' := M) (e := -2001) (e' := K) (by omega) (by omega) (kd false mode) (tt_le (a := 0) (N := blen M - 1) (by omega) hone hb2 (by omega))
          omega
        · rw [if_neg c3]
          dsimp only
          have := numk_mono (t := t) (m := M) (m' := M) (e := K') (e' := K) (by omega) (by omega) (kd false mode) (by
            unfold tt; exact Nat.mul_le_mul_left _ (Nat.pow_le_pow_right (by omega) (by omega)))
          omega
/-- the pieces behind the 'p' -/
structure Prx (e t6 power rest : List UInt8) (down up : Bool) : Prop where
  nd : down = Lib.hasPrefix e [45]
  nu : up = Lib.hasPrefix e [43]
  h6 : t6 = if (down || up) = true then e.drop 1 else e
  hq : power = t6.takeWhile (decCs.contains ·)
  he : rest = t6.dropWhile (decCs.contains ·)
theorem prx_any (e : List UInt8) : ∃ t6 power rest down up, Prx e t6 power rest down up := ⟨_, _, _, _, _, rfl, rfl, rfl, rfl, rfl⟩
theorem hex_p : hexCs.contains 112 = false ∧ hexCs.contains 46 = false ∧ hexCs.contains 45 = false ∧ hexCs.contains 48 = true := by decide
theorem takeW_all {p : UInt8 → Bool} (d : List UInt8) (hd : ∀ c ∈ d, p c = true) (x : UInt8) (hx : p x = false) (l : List UInt8) : (d ++ x :: l).takeWhile p = d ∧ (d ++ x :: l).dropWhile p = x :: l := by
  rw [List.takeWhile_append_of_pos hd, List.dropWhile_append_of_pos hd, List.takeWhile_cons_of_neg (by rw [hx]; simp), List.dropWhile_cons_of_neg (by rw [hx]; simp), List.append_nil]
  exact ⟨rfl, rfl⟩
theorem trim_hit (c : List UInt8) (l : List UInt8) : Lib.trimPrefix (c ++ l) c = l ∧ Lib.hasPrefix (c ++ l) c = true := by
  have h : Lib.hasPrefix (c ++ l) c = true := by
    unfold Lib.hasPrefix
    rw [List.isPrefixOf_iff_prefix]
    exact ⟨l, rfl⟩
  refine ⟨?_, h⟩
  unfold Lib.trimPrefix
  rw [if_pos h, List.drop_left]
theorem trim_miss (c x : UInt8) (cs l : List UInt8) (h : (c == x) = false) : Lib.trimPrefix (x :: l) (c :: cs) = x :: l ∧ Lib.hasPrefix (x :: l) (c :: cs) = false := by
  have h : Lib.hasPrefix (x :: l) (c :: cs) = false := by
    unfold Lib.hasPrefix
    simp only [List.isPrefixOf, h, Bool.false_and]
  refine ⟨?_, h⟩
  unfold Lib.trimPrefix
  rw [if_neg (by rw [h]; simp)]
/-- [-]0x d . b p e -/
theorem prs_point {e t6 power rest : List UInt8} {down up : Bool} (P : Prx e t6 power rest down up) (neg : Bool) (d b : List UInt8) (hd : ∀ c ∈ d, hexCs.contains c = true) (hb : ∀ c ∈ b, hexCs.contains c = true) :
    Prs ((if neg = true then [45] else []) ++ ([48, 120] ++ (d ++ 46 :: (b ++ 112 :: e)))) ([48, 120] ++ (d ++ 46 :: (b ++ 112 :: e))) (d ++ 46 :: (b ++ 112 :: e)) d (46 :: (b ++ 112 :: e)) (b ++ 112 :: e) b (112 :: e) e t6 power rest neg true true true down up := by
  obtain ⟨nd, nu, h6, hq, he⟩ := P
  obtain ⟨x1, x2, x3, x4⟩ := hex_p
  have a1 := takeW_all d hd 46 x2 (b ++ 112 :: e)
  have a2 := takeW_all b hb 112 x1 e
  have a3 := trim_hit [48, 120] (d ++ 46 :: (b ++ 112 :: e))
  have a4 := trim_hit [46] (b ++ 112 :: e)
  have a5 := trim_hit [112] e
  refine ⟨?_, ?_, a3.1.symm, a3.2.symm, a1.1.symm, a1.2.symm, a4.1.symm, a4.2.symm, ?_, ?_, a5.1.symm, a5.2.symm, nd, nu, h6, hq, he⟩
  · cases neg
    · exact (trim_miss 45 48 [] _ (by decide)).1.symm
    · exact (trim_hit [45] _).1.symm
  · cases neg
    · exact (trim_miss 45 48 [] _ (by decide)).2.symm
    · exact (trim_hit [45] _).2.symm
  · rw [if_pos rfl]; exact a2.1.symm
  · rw [if_pos rfl]; exact a2.2.symm
/-- [-]0x d p e -/
theorem prs_whole {e t6 power rest : List UInt8} {down up : Bool} (P : Prx e t6 power rest down up) (neg : Bool) (d : List UInt8) (hd : ∀ c ∈ d, hexCs.contains c = true) :
    Prs ((if neg = true then [45] else []) ++ ([48, 120] ++ (d ++ 112 :: e))) ([48, 120] ++ (d ++ 112 :: e)) (d ++ 112 :: e) d (112 :: e) (112 :: e) [] (112 :: e) e t6 power rest neg true false true down up := by
  obtain ⟨nd, nu, h6, hq, he⟩ := P
  obtain ⟨x1, x2, x3, x4⟩ := hex_p
  have a1 := takeW_all d hd 112 x1 e
  have a3 := trim_hit [48, 120] (d ++ 112 :: e)
  have a4 := trim_miss 46 112 [] e (by decide)
  have a5 := trim_hit [112] e
  refine ⟨?_, ?_, a3.1.symm, a3.2.symm, a1.1.symm, a1.2.symm, a4.1.symm, a4.2.symm, ?_, ?_, a5.1.symm, a5.2.symm, nd, nu, h6, hq, he⟩
  · cases neg
    · exact (trim_miss 45 48 [] _ (by decide)).1.symm
    · exact (trim_hit [45] _).1.symm
  · cases neg
    · exact (trim_miss 45 48 [] _ (by decide)).2.symm
    · exact (trim_hit [45] _).2.symm
  · rfl
  · rfl
end Go.Proofs.YtofdjfdnckmmmaaGreatDoor

/-
  PLAIN: what hex.write tells of a number is read as it was.
-/
namespace Go.Proofs.YtofdjfdnckmmmaaGreatDoor
open Go.RowKit Nt Fm Fl

theorem dcN_num (l : List UInt8) : ∀ (a : Nat), (∀ c ∈ l, dgt c) → dcN a l = num a l := by
  induction l with
  | nil => intro a _; rfl
  | cons c l ih =>
    intro a h
    have hc : dgt c := h c (List.mem_cons_self ..)
    have hn : c ≠ 46 := by
      intro e
      subst e
      exact absurd hc.1 (by decide)
    have h1 : num a (c :: l) = num (a * 10 + (c.toNat - 48)) l := by
      show (if c = 46 then _ else _) = _
      rw [if_neg hn]
    rw [h1]
    exact ih _ (fun d hd => h d (List.mem_cons_of_mem _ hd))
theorem dcN_dec (u : Nat) : dcN 0 (Lib.decDigits u) = u := by rw [dcN_num _ _ (dec_dgt u), num_dec]
theorem dec_has {c : UInt8} (h : dgt c) : decCs.contains c = true := by
  unfold dgt at h
  unfold decCs
  have : c = UInt8.ofNat c.toNat := by simp
  rw [this]
  generalize c.toNat = n at *
  obtain ⟨k, rfl⟩ : ∃ k, n = 48 + k := ⟨n - 48, by omega⟩
  have hk : k < 10 := by omega
  have : ∀ k : Fin 10, ([48, 49, 50, 51, 52, 53, 54, 55, 56, 57] : List UInt8).contains (UInt8.ofNat (48 + k.val)) = true := by decide
  exact this ⟨k, hk⟩
theorem dec_hex {c : UInt8} (h : decCs.contains c = true) : hexCs.contains c = true := by
  unfold decCs at h
  unfold hexCs
  simp at h ⊢
  rcases h with rfl | rfl | rfl | rfl | rfl | rfl | rfl | rfl | rfl | rfl <;> simp
theorem hexd_has (v : Nat) (h : v < 16) : hexCs.contains (hexd v) = true ∧ hxv (hexd v) = v := by
  have : ∀ v : Fin 16, hexCs.contains (hexd v.val) = true ∧ hxv (hexd v.val) = v.val := by decide
  exact this ⟨v, h⟩
theorem hxD_has (M : Nat) : ∀ k, ∀ c ∈ hxD M k, hexCs.contains c = true
  | 0, c, h => by simp [hxD] at h
  | k + 1, c, h => by
    rw [hxD, List.mem_cons] at h
    rcases h with rfl | h
    · exact (hexd_has _ (Nat.mod_lt _ (by omega))).1
    · exact hxD_has M k c h
theorem hxN_hxD (M : Nat) : ∀ (k a : Nat), hxN a (hxD M k) = a * 16 ^ k + M % 16 ^ k
  | 0, a => by simp [hxD, hxN, Nat.mod_one]
  | k + 1, a => by
    rw [hxD, hxN, hxN_hxD M k, (hexd_has _ (Nat.mod_lt _ (by omega))).2, Nat.pow_succ, Nat.add_mul, Nat.mul_assoc, Nat.mul_comm 16 (16 ^ k), Nat.add_assoc, Nat.mod_mul]
    rw [Nat.mul_comm (M / 16 ^ k % 16)]
    omega
theorem takeW_full {p : UInt8 → Bool} (l : List UInt8) (h : ∀ c ∈ l, p c = true) : l.takeWhile p = l ∧ l.dropWhile p = [] := by
  have h1 := List.takeWhile_append_of_pos (p := p) (l₁ := l) (l₂ := []) h
  have h2 := List.dropWhile_append_of_pos (p := p) (l₁ := l) (l₂ := []) h
  simp only [List.append_nil] at h1 h2
  exact ⟨by rw [h1]; simp, by rw [h2]; simp⟩
/-- the pieces of an exponent -/
theorem prx_exp (q : Int) : Prx ((if 0 ≤ q then [43] else []) ++ Lib.itoa q) (Lib.decDigits q.natAbs) (Lib.decDigits q.natAbs) [] (decide (q < 0)) (decide (0 ≤ q)) := by
  obtain ⟨h1, h2⟩ := takeW_full (p := (decCs.contains ·)) (Lib.decDigits q.natAbs) (fun c hc => dec_has (dec_dgt _ c hc))
  unfold Lib.itoa
  by_cases hq : 0 ≤ q
  · rw [if_pos hq, if_neg (show ¬ q < 0 by omega), decide_eq_false (show ¬ q < 0 by omega), decide_eq_true hq, show q.toNat = q.natAbs by omega]
    exact ⟨rfl, rfl, rfl, h1.symm, h2.symm⟩
  · rw [if_neg hq, if_pos (show q < 0 by omega), decide_eq_true (show q < 0 by omega), decide_eq_false hq]
    exact ⟨rfl, rfl, rfl, h1.symm, h2.symm⟩
theorem hxE_split (p : Int) : hxE p = 112 :: ((if 0 ≤ p then [43] else []) ++ Lib.itoa p) := by
  unfold hxE; split <;> rfl
theorem hxP_split (x : Int) : hxP x = (if decide (9223372036854775808 ≤ x) = true then [45] else []) ++ [48, 120] := by
  unfold hxP
  by_cases h : 9223372036854775808 ≤ x
  · rw [if_pos h, decide_eq_true h]; rfl
  · rw [if_neg h, decide_eq_false h]; rfl
/-- what write tells is read so -/
theorem write_back (x : Int) (d : D) (p : Nat) (hp : p ≤ 100) (hm : blen d.m ≤ 4 * p + 1) (he : (hxp d).natAbs < 99999) :
    ∃ t1 t2 whole t3 r part t4 t5 t6 power rest neg ok pt pb down up, Prs (hxW x d p) t1 t2 whole t3 r part t4 t5 t6 power rest neg ok pt pb down up ∧ prBad whole part power rest ok pb = false ∧ neg = decide (9223372036854775808 ≤ x) ∧ (hxW x d p).length ≤ 1000 ∧
      (∀ mode, hnV neg (hxN 0 (whole ++ part)) (prK part power down) mode = hnV neg d.m d.e mode) ∧ hnC neg (hxN 0 (whole ++ part)) (prK part power down) = hnC neg d.m d.e := by
  have hl : (hxW x d p).length ≤ 1000 := by
    unfold hxW
    have h1 : (hxP x).length ≤ 3 := by unfold hxP; split <;> simp
    have h2 := itoa_len (hxp d) (by omega)
    have h3 := hxD_len (d.m * 2 ^ (4 * p - (blen d.m - 1))) p
    have h4 : (hxE (hxp d)).length ≤ 10 := by unfold hxE; rw [List.length_append]; split <;> simp <;> omega
    rw [List.length_append]
    split
    · split <;> simp <;> omega
    · split <;> simp [h3] <;> omega
  by_cases hz : d.m = 0
  · have P : Prx ([43, 48] : List UInt8) [48] [48] [] false true := ⟨rfl, rfl, rfl, rfl, rfl⟩
    have hs : ∀ c ∈ [(48 : UInt8)], hexCs.contains c = true := fun c hc => by obtain rfl := List.mem_singleton.1 hc; decide
    have hv : ∀ neg K mode, hnV neg 0 K mode = hnV neg d.m d.e mode := fun neg K mode => by unfold hnV; rw [hz, if_pos rfl, if_pos rfl]
    have hc : ∀ neg K, hnC neg 0 K = hnC neg d.m d.e := fun neg K => by unfold hnC; rw [hz, if_pos rfl, if_pos rfl]
    by_cases hp0 : 0 < p
    · have hr : ∀ c ∈ List.replicate p (48 : UInt8), hexCs.contains c = true := fun c hc => by obtain rfl := (List.mem_replicate.1 hc).2; decide
      have Q := prs_point P (decide (9223372036854775808 ≤ x)) [48] (List.replicate p 48) hs hr
      have hW : hxW x d p = (if decide (9223372036854775808 ≤ x) = true then [45] else []) ++ ([48, 120] ++ ([48] ++ 46 :: (List.replicate p 48 ++ 112 :: [43, 48]))) := by
        unfold hxW; rw [if_pos hz, if_pos hp0, hxP_split]; simp
      rw [← hW] at Q
      have h0 : hxN 0 ([48] ++ List.replicate p 48) = 0 := by
        clear Q hW hr hp0 hm hl hp
        have : ∀ p, hxN 0 (List.replicate p (48 : UInt8)) = 0 := by
          intro p
          induction p with
          | zero => rfl
          | succ p ih => rw [List.replicate_succ, hxN]; exact ih
        rw [hxN_app]
        exact this p
      refine ⟨_, _, _, _, _, _, _, _, _, _, _, _, _, _, _, _, _, Q, ?_, rfl, hl, fun mode => by rw [h0]; exact hv _ _ _, by rw [h0]; exact hc _ _⟩
      unfold prBad; rfl
    · have Q := prs_whole P (decide (9223372036854775808 ≤ x)) [48] hs
      have hW : hxW x d p = (if decide (9223372036854775808 ≤ x) = true then [45] else []) ++ ([48, 120] ++ ([48] ++ 112 :: [43, 48])) := by
        unfold hxW; rw [if_pos hz, if_neg hp0, hxP_split]; simp
      rw [← hW] at Q
      refine ⟨_, _, _, _, _, _, _, _, _, _, _, _, _, _, _, _, _, Q, ?_, rfl, hl, fun mode => hv _ _ _, hc _ _⟩
      unfold prBad; rfl
  · obtain ⟨sh, hsh⟩ : ∃ sh, sh = 4 * p - (blen d.m - 1) := ⟨_, rfl⟩
    have hb1 : 1 ≤ blen d.m := by unfold blen; rw [if_neg hz]; omega
    have hsh2 : blen d.m + sh = 4 * p + 1 := by omega
    have hMlt : d.m * 2 ^ sh < 2 ^ (4 * p + 1) := by
      rw [← hsh2, Nat.pow_add]; exact Nat.mul_lt_mul_of_pos_right (lt_blen _) (Nat.two_pow_pos _)
    have hMge : 2 ^ (4 * p) ≤ d.m * 2 ^ sh := by
      have h1 := Nat.mul_le_mul_right (2 ^ sh) (blen_ge hz)
      rw [← Nat.pow_add, show blen d.m - 1 + sh = 4 * p by omega] at h1
      exact h1
    have h16 : (16 : Nat) ^ p = 2 ^ (4 * p) := by rw [show (16 : Nat) = 2 ^ 4 by decide, ← Nat.pow_mul]
    have hmod : d.m * 2 ^ sh % 16 ^ p = d.m * 2 ^ sh - 16 ^ p := by
      rw [h16]
      rw [Nat.pow_succ] at hMlt
      rw [Nat.mod_eq_sub_mod hMge, Nat.mod_eq_of_lt (by omega)]
    have hone : ∀ c ∈ [(49 : UInt8)], hexCs.contains c = true := fun c hc => by obtain rfl := List.mem_singleton.1 hc; decide
    have P := prx_exp (hxp d)
    have hk : (if decide (hxp d < 0) = true then -((dcN 0 (Lib.decDigits (hxp d).natAbs) : Nat) : Int) else ((dcN 0 (Lib.decDigits (hxp d).natAbs) : Nat) : Int)) = hxp d := by
      rw [dcN_dec]
      by_cases h : hxp d < 0
      · rw [decide_eq_true h, if_pos rfl]; omega
      · rw [decide_eq_false h, if_neg (by simp)]; omega
    have hkk : hxp d - 4 * (p : Int) = d.e - sh := by unfold hxp; omega
    have hlen : (Lib.decDigits (hxp d).natAbs).length ≤ 5 := dec_len_le 5 _ (by omega) (by omega)
    have hne : (Lib.decDigits (hxp d).natAbs).isEmpty = false := by
      have := dec_len_pos (hxp d).natAbs
      cases h : Lib.decDigits (hxp d).natAbs with
      | nil => rw [h] at this; simp at this
      | cons c l => rfl
    have hbad : ∀ w b : List UInt8, prBad ([49] ++ w) b (Lib.decDigits (hxp d).natAbs) [] true true = false := by
      intro w b
      unfold prBad
      rw [hne, decide_eq_false (by omega)]; rfl
    by_cases hp0 : 0 < p
    · have Q := prs_point P (decide (9223372036854775808 ≤ x)) [49] (hxD (d.m * 2 ^ sh) p) hone (hxD_has _ _)
      have hW : hxW x d p = (if decide (9223372036854775808 ≤ x) = true then [45] else []) ++ ([48, 120] ++ ([49] ++ 46 :: (hxD (d.m * 2 ^ sh) p ++ 112 :: ((if 0 ≤ hxp d then [43] else []) ++ Lib.itoa (hxp d))))) := by
        unfold hxW; rw [if_neg hz, if_pos hp0, hxP_split, hxE_split, ← hsh]
        simp
      rw [← hW] at Q
      have h0 : hxN 0 ([49] ++ hxD (d.m * 2 ^ sh) p) = d.m * 2 ^ sh := by
        rw [hxN_app, hxN_hxD, show hxN 0 [49] = 1 from rfl, hmod, h16]; omega
      have hK : prK (hxD (d.m * 2 ^ sh) p) (Lib.decDigits (hxp d).natAbs) (decide (hxp d < 0)) = d.e - sh := by
        unfold prK; rw [hk, hxD_len]; exact hkk
      refine ⟨_, _, _, _, _, _, _, _, _, _, _, _, _, _, _, _, _, Q, hbad [] _, rfl, hl, fun mode => ?_, ?_⟩
      · rw [h0, hK]; exact (hn_shift _ _ _ _ _).1
      · rw [h0, hK]; exact (hn_shift _ _ _ _ 0).2
    · obtain rfl : p = 0 := by omega
      obtain rfl : sh = 0 := by omega
      have hm1 : d.m = 1 := by
        have : blen d.m = 1 := by omega
        have h2 := lt_blen d.m
        rw [this] at h2
        omega
      have Q := prs_whole P (decide (9223372036854775808 ≤ x)) [49] hone
      have hW : hxW x d 0 = (if decide (9223372036854775808 ≤ x) = true then [45] else []) ++ ([48, 120] ++ ([49] ++ 112 :: ((if 0 ≤ hxp d then [43] else []) ++ Lib.itoa (hxp d)))) := by
        unfold hxW; rw [if_neg hz, if_neg hp0, hxP_split, hxE_split, hxD]
        simp
      rw [← hW] at Q
      have h0 : hxN 0 ([49] ++ []) = d.m := by rw [hm1]; rfl
      have hK : prK [] (Lib.decDigits (hxp d).natAbs) (decide (hxp d < 0)) = d.e := by
        unfold prK; rw [hk]; simp only [List.length_nil]; omega
      refine ⟨_, _, _, _, _, _, _, _, _, _, _, _, _, _, _, _, _, Q, hbad [] _, rfl, hl, fun mode => ?_, ?_⟩
      · rw [h0, hK]
      · rw [h0, hK]
theorem hx_m0 {x : Int} (x0 : 0 ≤ x) (x1 : x ≤ 18446744073709551615) (hx : fabs x < 9218868437227405312) (h : (valD x).m = 0) : fabs x = 0 := by
  have hv : hasV x = true := by unfold hasV; rw [decide_eq_true_eq]; exact hx
  have hmg := dVal_mag x0 x1 hv
  rw [h, Nat.zero_mul] at hmg
  have : (fabs x).toNat = 0 := mag_inj (hmg.trans mag_zero.symm)
  have := fabs_bd x
  omega
/-- a number with a value -/
theorem val_back {x : Int} (x0 : 0 ≤ x) (x1 : x ≤ 18446744073709551615) (hx : fabs x < 9218868437227405312) (mode : Int) : hnV (decide (9223372036854775808 ≤ x)) (valD x).m (valD x).e mode = x ∧ hnC (decide (9223372036854775808 ≤ x)) (valD x).m (valD x).e = false := by
  obtain ⟨f1, f2, f3, f4, f5⟩ := valD_facts x x0 x1
  have hbl : blen (valD x).m ≤ 53 := blen_le_of f2
  obtain ⟨c1, c2⟩ := valD_num x x0 x1 hx mode
  unfold hnV hnC
  by_cases hz : (valD x).m = 0
  · rw [if_pos hz, if_pos hz]
    have h0 := hx_m0 x0 x1 hx hz
    unfold fabs at h0
    refine ⟨?_, rfl⟩
    by_cases h : 9223372036854775808 ≤ x
    · rw [decide_eq_true h, if_pos rfl]; omega
    · rw [decide_eq_false h, if_neg (by simp)]; omega
  · rw [if_neg hz, if_neg hz]
    have hD : hnD (decide (9223372036854775808 ≤ x)) (valD x).m (valD x).e = valD x := by
      unfold hnD
      rw [if_neg (by omega), if_neg (by omega)]
      have hng : (valD x).neg = decide (9223372036854775808 ≤ x) := f5 hz
      rw [← hng]
    rw [hD]
    refine ⟨?_, c1⟩
    rcases c2 with h | ⟨h, h2⟩
    · exact h
    · exfalso
      apply hz
      rw [h]
      rfl
end Go.Proofs.YtofdjfdnckmmmaaGreatDoor

/-
  hex.Number of what hex.Text and hex.Fixed tell.
-/
namespace Go.Proofs.YtofdjfdnckmmmaaGreatDoor
open Go.RowKit Nt Fm Fl

theorem hb_norm_self {d : D} (h : d.Nf) : norm d.neg d.m d.e = d := by
  unfold norm
  by_cases hz : d.m = 0
  · rw [if_pos hz]
    rcases h with h | h
    · exact h.symm
    · omega
  · rw [if_neg hz]
    have ho : d.m % 2 = 1 := by
      rcases h with h | h
      · rw [h] at hz; exact absurd rfl hz
      · exact h
    obtain ⟨q, h1, h2⟩ := ctz_spec hz
    have : ctz d.m = 0 := by
      generalize ctz d.m = c at *
      cases c with
      | zero => rfl
      | succ c =>
        rw [Nat.pow_succ, ← Nat.mul_assoc] at h1
        omega
    rw [this]
    cases d
    simp
theorem hex_fin {x : Int} (h : ¬ 4 ≤ fcls x) : fabs x < 9218868437227405312 := by
  unfold fcls at h
  repeat' split at h
  all_goals omega
/-- a text of a number with a value is read as it -/
theorem back_any {x : Int} (x0 : 0 ≤ x) (x1 : x ≤ 18446744073709551615) (hx : fabs x < 9218868437227405312) (p : Nat) (hp : p ≤ 100) (hbl : blen (valD x).m ≤ 4 * p + 1) (T : ByteArray) (hT : T = ⟨(hxW x (valD x) p).toArray⟩) (mode : Int) (m0 : 0 ≤ mode) (m1 : mode ≤ 4) (w : World) :
    Calls Tryz.prog 170 #[.string T, .int .i64 mode] w (RetUBE w x false 0) := by
  obtain ⟨f1, f2, f3, f4, f5⟩ := valD_facts x x0 x1
  have hb53 : blen (valD x).m ≤ 53 := blen_le_of f2
  obtain ⟨t1, t2, whole, t3, r, part, t4, t5, t6, power, rest, neg, ok, pt, pb, down, up, P, hbad, hneg, hlen, hv, hc⟩ := write_back x (valD x) p hp hbl (by unfold hxp; omega)
  have h := hnumber_any P T hT mode w
  have hE : hnE (hxW x (valD x) p) false mode = 0 := by
    unfold hnE
    have : knownB mode = true := by unfold knownB; rw [decide_eq_true_eq]; exact ⟨m0, m1⟩
    rw [if_pos this, if_neg (show ¬ 1000 < (hxW x (valD x) p).length by omega)]; rfl
  rw [hbad, hE, if_pos rfl, show (decide ((0 : Int) = 0) && hnC neg (hxN 0 (whole ++ part)) (prK part power down)) = hnC neg (hxN 0 (whole ++ part)) (prK part power down) by rfl, hv mode, hc, hneg, (val_back x0 x1 hx mode).1, (val_back x0 x1 hx mode).2] at h
  exact h
end Go.Proofs.YtofdjfdnckmmmaaGreatDoor
