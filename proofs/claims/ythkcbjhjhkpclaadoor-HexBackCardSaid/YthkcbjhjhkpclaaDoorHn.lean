/-
  THE WALK of hex.Number.
-/
import Derived.Test.YthkcbjhjhkpclaaDoorHr
import Derived.Test.YthkcbjhjhkpclaaDoorRd2
import Derived.Test.YthkcbjhjhkpclaaDoorNat7
import Derived.Test.YthkcbjhjhkpclaaDoorNy
set_option linter.unusedVariables false
set_option linter.unusedSimpArgs false
namespace Go.Proofs.YthkcbjhjhkpclaaDoor
open Go.RowKit Nt Fm Fl

theorem isHx_of {c : UInt8} (h : hexCs.contains c = true) : IsHx c := by
  unfold hexCs at h
  unfold IsHx
  simp at h
  rcases h with rfl | rfl | rfl | rfl | rfl | rfl | rfl | rfl | rfl | rfl | rfl | rfl | rfl | rfl | rfl | rfl <;> decide
/-- the number that is rounded -/
def hnD (neg : Bool) (M : Nat) (k : Int) : D := if 2000 < (blen M : Int) + k then ⟨neg, 1, 2000⟩ else if (blen M : Int) + k < -2000 then ⟨neg, 1, -2000⟩ else ⟨neg, M, k⟩
def hnV (neg : Bool) (M : Nat) (k mode : Int) : Int := if M = 0 then (if neg = true then 9223372036854775808 else 0) else numR (hnD neg M k) mode
def hnC (neg : Bool) (M : Nat) (k : Int) : Bool := if M = 0 then false else numC (hnD neg M k)
/-- a call that tells a number, a mark, an error -/
def RetUBE (w : World) (x : Int) (b : Bool) (er : Int) (e : Ending) (w' : World) : Prop := e = .returned (.tuple #[.int .u64 x, .bool b, .int .i64 er]) ∧ Below w.heap.size w w'
/-- the pieces' number, exponent -/
def prK (part power : List UInt8) (down : Bool) : Int := (if down = true then -((dcN 0 power : Nat) : Int) else ((dcN 0 power : Nat) : Int)) - 4 * (part.length : Int)
def hnE (s : List UInt8) (bad : Bool) (mode : Int) : Int := if knownB mode = true then (if 1000 < s.length then 2 else if bad = true then 5 else 0) else 1
theorem prs_dig {s t1 t2 whole t3 r part t4 t5 t6 power rest : List UInt8} {neg ok pt p down up : Bool} (H : Prs s t1 t2 whole t3 r part t4 t5 t6 power rest neg ok pt p down up) : (∀ c ∈ whole ++ part, IsHx c) ∧ (whole ++ part).length ≤ 2 * s.length ∧ part.length ≤ s.length ∧ ∀ c ∈ power, dgt c := by
  obtain ⟨h1, n1, h2, n2, hw, h3, hr, np, hp, h4, h5, n5, nd, nu, h6, hq, he⟩ := H
  have l1 := trimP_len s [45]
  have l2 := trimP_len t1 [48, 120]
  have l3 := dropW_len (p := (hexCs.contains ·)) t2
  have lw := takeW_le (p := (hexCs.contains ·)) t2
  have lr := trimP_len t3 [46]
  have lr2 := takeW_le (p := (hexCs.contains ·)) r
  rw [← h1] at l1
  rw [← h2] at l2
  rw [← h3] at l3
  rw [← hw] at lw
  rw [← hr] at lr
  have lp : part.length ≤ r.length := by rw [hp]; split; exact lr2; simp
  refine ⟨fun c hc => ?_, by rw [List.length_append]; omega, by omega, fun c hc => ?_⟩
  · rw [List.mem_append] at hc
    rcases hc with hc | hc
    · rw [hw] at hc; exact isHx_of (takeW_mem hc)
    · rw [hp] at hc
      split at hc
      · exact isHx_of (takeW_mem hc)
      · simp at hc
  · rw [hq] at hc
    have := takeW_mem hc
    unfold decCs at this
    unfold dgt
    simp at this
    rcases this with rfl | rfl | rfl | rfl | rfl | rfl | rfl | rfl | rfl | rfl <;> decide
set_option maxRecDepth 100000 in
set_option maxHeartbeats 8000000 in
theorem hnum_good (d : List UInt8) (neg : Bool) (k mode : Int) (s : List UInt8) (S : ByteArray) (hS : S = ⟨s.toArray⟩) (hsl : s.length ≤ 1000) (hd : ∀ c ∈ d, IsHx c) (hdl : d.length ≤ 2000) (k0 : -200000 ≤ k) (k1 : k ≤ 200000) (m0 : 0 ≤ mode) (m1 : mode ≤ 4) (w : World)
    (hpr : ∀ w', Calls Tryd.prog 32 #[.string S] w' fun e w2 => e = .returned (.tuple #[.bool neg, .string ⟨d.toArray⟩, .int .i64 k, .bool true]) ∧ Below w'.heap.size w' w2) :
    Calls Tryd.prog 14 #[.string S, .int .i64 mode] w (RetUBE w (hnV neg (hxN 0 d) k mode) (hnC neg (hxN 0 d) k) 0) := by
  have hkb : knownB mode = true := by unfold knownB; rw [decide_eq_true_eq]; exact ⟨m0, m1⟩
  have KN := Lib.hid (fun w' => known_any mode w')
  rw [hkb] at KN
  have PR := Lib.hid hpr
  obtain ⟨DS, hDS⟩ : ∃ T : ByteArray, T = ⟨d.toArray⟩ := ⟨_, rfl⟩
  rw [← hDS] at PR
  have MN := Lib.hid (fun w' => mantissa_any d DS hDS hd hdl w')
  have hMb := hxN_bd d hd
  obtain ⟨K0, hK0, hK1⟩ : ∃ K0, 8000 ≤ K0 ∧ K0 ≤ 8000 := ⟨8000, by omega, by omega⟩
  have hMb2 : hxN 0 d < 2 ^ K0 := Nat.lt_of_lt_of_le hMb (Nat.pow_le_pow_right (by omega) (by omega))
  have LN := Lib.hid (fun va w' (h : NV w' va (hxN 0 d)) => natLen_any va _ K0 w' h hMb2 (by omega))
  have hbl := blen_le_of hMb2
  have OF := Lib.hid (fun w' => natOf_any 1 (by omega) (by omega) w')
  have RN1 := fun v w' (h : DV w' v (hnD neg (hxN 0 d) k)) (hm : (hnD neg (hxN 0 d) k).m < 2 ^ K0) (hz : (hnD neg (hxN 0 d) k).m ≠ 0) (e0 : -400000 ≤ (hnD neg (hxN 0 d) k).e) (e1 : (hnD neg (hxN 0 d) k).e ≤ 400000) => number_any v _ K0 mode w' h hm (by omega) e0 e1 (fun h => absurd h hz) m0 m1
  have zS : S.size = s.length := by rw [hS]; rfl
  have hsz : ((S.size : Nat) : Int) ≤ 1000 := by omega
  have B : Hid (Below w.heap.size w w) := Lib.hid (Below.refl _ _)
  have h1K : (1 : Nat) < 2 ^ K0 := Nat.lt_of_lt_of_le (show 1 < 2 ^ 1 by decide) (Nat.pow_le_pow_right (by omega) (by omega))
  unfold hnV hnC
  generalize hxN 0 d = M at *
  unfold RetUBE
  clear hkb hpr hDS hd hS hMb zS
  by_cases hM : M = 0
  · rw [if_pos hM, if_pos hM]
    have HM := Lib.hid hM
    clear RN1
    cases neg
    all_goals
      go_enter Tryd.func14, Tryd.ntmps14
      go_wp2_with (first
        | (go_at_call 21; refine (KN.out _).mono ?_; rintro e w1 ⟨rfl, rfl⟩)
        | (go_at_call 32; refine (PR.out _).mono ?_; rintro e w2 ⟨rfl, hb⟩; replace B : Hid (Below w.heap.size w w2) := Lib.hid (bl_thru B.out (Nat.le_refl _) hb); clear hb)
        | (go_at_call 33; refine (MN.out _).mono ?_; rintro e w3 ⟨v3, rfl, hv, hb⟩; replace B : Hid (Below w.heap.size w w3) := Lib.hid (bl_thru B.out (Nat.le_refl _) hb); obtain ⟨a3, n3, c3, rfl, hnc, hc3, hcase⟩ := nv_len hv; have N3 := Lib.hid hv; obtain rfl : n3 = 0 := (by rcases hcase with ⟨_, h⟩ | ⟨h, _⟩; exact h; exact absurd HM.out h); clear hv hb hcase)
        | (go_at_call 34; refine (LN.out _ _ N3.out).mono ?_; rintro e w4 ⟨rfl, rfl⟩)
        | (go_at_call 35; refine (OF.out _).mono ?_; rintro e w4 ⟨v4, rfl, hv, hb⟩; obtain ⟨a4, n4, c4, rfl⟩ := hv.shape; have N4 : Hid (NV w4 (Value.slice a4 n4 c4) 1) := Lib.hid hv; replace B : Hid (Below w.heap.size w w4) := Lib.hid (bl_thru B.out (Nat.le_refl _) hb); clear hv hb))
      go_ret3
      exact ⟨rfl, B.out⟩
  · rw [if_neg hM, if_neg hM]
    have HM := Lib.hid hM
    obtain ⟨L, hL⟩ : ∃ L, L = blen M := ⟨_, rfl⟩
    rw [← hL] at LN hbl
    have hw0 : IntKind.i64.wrap ((L : Int) + k) = (L : Int) + k := IntWalk.i64_in _ (by omega)
    by_cases ht : 2000 < (L : Int) + k
    · have hD : hnD neg M k = ⟨neg, 1, 2000⟩ := by unfold hnD; rw [← hL, if_pos ht]
      rw [hD] at RN1
      rw [hD]
      have RN := Lib.hid (fun v w' h => RN1 v w' h h1K (show (1 : Nat) ≠ 0 by decide) (show (-400000 : Int) ≤ _ by dsimp only; omega) (show _ ≤ (400000 : Int) by dsimp only; omega))
      clear RN1 hD hL
      cases neg
      all_goals
        go_enter Tryd.func14, Tryd.ntmps14
        go_wp2_with (first
        | (go_at_call 21; refine (KN.out _).mono ?_; rintro e w1 ⟨rfl, rfl⟩)
        | (go_at_call 32; refine (PR.out _).mono ?_; rintro e w2 ⟨rfl, hb⟩; replace B : Hid (Below w.heap.size w w2) := Lib.hid (bl_thru B.out (Nat.le_refl _) hb); clear hb)
        | (go_at_call 33; refine (MN.out _).mono ?_; rintro e w3 ⟨v3, rfl, hv, hb⟩; replace B : Hid (Below w.heap.size w w3) := Lib.hid (bl_thru B.out (Nat.le_refl _) hb); obtain ⟨a3, n3, c3, rfl, hnc, hc3, hcase⟩ := nv_len hv; have N3 := Lib.hid hv; obtain ⟨hm0, hn3⟩ : M ≠ 0 ∧ 1 ≤ n3 := (by rcases hcase with ⟨h, _⟩ | h; exact absurd h HM.out; exact h); have hn3b : ((n3 : Int) == 0) = false := (by rw [beq_eq_false_iff_ne]; omega); clear hv hb hcase)
        | (go_at_call 34; refine (LN.out _ _ N3.out).mono ?_; rintro e w4 ⟨rfl, rfl⟩)
        | (go_at_call 35; refine (OF.out _).mono ?_; rintro e w4 ⟨v4, rfl, hv, hb⟩; obtain ⟨a4, n4, c4, rfl⟩ := hv.shape; have N4 : Hid (NV w4 (Value.slice a4 n4 c4) 1) := Lib.hid hv; replace B : Hid (Below w.heap.size w w4) := Lib.hid (bl_thru B.out (Nat.le_refl _) hb); clear hv hb)
        | (go_at_call 22; refine (RN.out _ _ ⟨_, rfl, N4.out⟩).mono ?_; rintro e w5 ⟨rfl, hb⟩; replace B : Hid (Below w.heap.size w w5) := Lib.hid (bl_thru B.out (Nat.le_refl _) hb); clear hb))
        go_ret3
        exact ⟨rfl, B.out⟩
    · by_cases hb : (L : Int) + k < -2000
      · have hD : hnD neg M k = ⟨neg, 1, -2000⟩ := by unfold hnD; rw [← hL, if_neg ht, if_pos hb]
        rw [hD] at RN1
        rw [hD]
        have RN := Lib.hid (fun v w' h => RN1 v w' h h1K (show (1 : Nat) ≠ 0 by decide) (show (-400000 : Int) ≤ _ by dsimp only; omega) (show _ ≤ (400000 : Int) by dsimp only; omega))
        clear RN1 hD hL
        cases neg
        all_goals
          go_enter Tryd.func14, Tryd.ntmps14
          go_wp2_with (first
          | (go_at_call 21; refine (KN.out _).mono ?_; rintro e w1 ⟨rfl, rfl⟩)
          | (go_at_call 32; refine (PR.out _).mono ?_; rintro e w2 ⟨rfl, hb⟩; replace B : Hid (Below w.heap.size w w2) := Lib.hid (bl_thru B.out (Nat.le_refl _) hb); clear hb)
          | (go_at_call 33; refine (MN.out _).mono ?_; rintro e w3 ⟨v3, rfl, hv, hb⟩; replace B : Hid (Below w.heap.size w w3) := Lib.hid (bl_thru B.out (Nat.le_refl _) hb); obtain ⟨a3, n3, c3, rfl, hnc, hc3, hcase⟩ := nv_len hv; have N3 := Lib.hid hv; obtain ⟨hm0, hn3⟩ : M ≠ 0 ∧ 1 ≤ n3 := (by rcases hcase with ⟨h, _⟩ | h; exact absurd h HM.out; exact h); have hn3b : ((n3 : Int) == 0) = false := (by rw [beq_eq_false_iff_ne]; omega); clear hv hb hcase)
          | (go_at_call 34; refine (LN.out _ _ N3.out).mono ?_; rintro e w4 ⟨rfl, rfl⟩)
          | (go_at_call 35; refine (OF.out _).mono ?_; rintro e w4 ⟨v4, rfl, hv, hb⟩; obtain ⟨a4, n4, c4, rfl⟩ := hv.shape; have N4 : Hid (NV w4 (Value.slice a4 n4 c4) 1) := Lib.hid hv; replace B : Hid (Below w.heap.size w w4) := Lib.hid (bl_thru B.out (Nat.le_refl _) hb); clear hv hb)
          | (go_at_call 22; refine (RN.out _ _ ⟨_, rfl, N4.out⟩).mono ?_; rintro e w5 ⟨rfl, hb⟩; replace B : Hid (Below w.heap.size w w5) := Lib.hid (bl_thru B.out (Nat.le_refl _) hb); clear hb))
          go_ret3
          exact ⟨rfl, B.out⟩
      · have hD : hnD neg M k = ⟨neg, M, k⟩ := by unfold hnD; rw [← hL, if_neg ht, if_neg hb]
        rw [hD] at RN1
        rw [hD]
        have RN := Lib.hid (fun v w' h => RN1 v w' h hMb2 hM (by show -400000 ≤ k; omega) (by show k ≤ 400000; omega))
        clear RN1 hD hL
        cases neg
        all_goals
          go_enter Tryd.func14, Tryd.ntmps14
          go_wp2_with (first
          | (go_at_call 21; refine (KN.out _).mono ?_; rintro e w1 ⟨rfl, rfl⟩)
          | (go_at_call 32; refine (PR.out _).mono ?_; rintro e w2 ⟨rfl, hb⟩; replace B : Hid (Below w.heap.size w w2) := Lib.hid (bl_thru B.out (Nat.le_refl _) hb); clear hb)
          | (go_at_call 33; refine (MN.out _).mono ?_; rintro e w3 ⟨v3, rfl, hv, hb⟩; replace B : Hid (Below w.heap.size w w3) := Lib.hid (bl_thru B.out (Nat.le_refl _) hb); obtain ⟨a3, n3, c3, rfl, hnc, hc3, hcase⟩ := nv_len hv; have N3 := Lib.hid hv; obtain ⟨hm0, hn3⟩ : M ≠ 0 ∧ 1 ≤ n3 := (by rcases hcase with ⟨h, _⟩ | h; exact absurd h HM.out; exact h); have hn3b : ((n3 : Int) == 0) = false := (by rw [beq_eq_false_iff_ne]; omega); clear hv hb hcase)
          | (go_at_call 34; refine (LN.out _ _ N3.out).mono ?_; rintro e w4 ⟨rfl, rfl⟩)
          | (go_at_call 35; refine (OF.out _).mono ?_; rintro e w4 ⟨v4, rfl, hv, hb⟩; obtain ⟨a4, n4, c4, rfl⟩ := hv.shape; have N4 : Hid (NV w4 (Value.slice a4 n4 c4) 1) := Lib.hid hv; replace B : Hid (Below w.heap.size w w4) := Lib.hid (bl_thru B.out (Nat.le_refl _) hb); clear hv hb)
          | (go_at_call 22; refine (RN.out _ _ ⟨_, rfl, N3.out⟩).mono ?_; rintro e w5 ⟨rfl, hb⟩; replace B : Hid (Below w.heap.size w w5) := Lib.hid (bl_thru B.out (Nat.le_refl _) hb); clear hb))
          go_ret3
          exact ⟨rfl, B.out⟩
end Go.Proofs.YthkcbjhjhkpclaaDoor
