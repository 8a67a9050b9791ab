/-
  THE WALKS of nat.Shift, Bits, Root, Text.
-/
import Derived.Test.YthlocmhfjandlaaDoorNb
import Derived.Test.YthlocmhfjandlaaDoorNa
import Derived.Test.YthlocmhfjandlaaDoorPsc
import Derived.Test.YthlocmhfjandlaaDoorDa
set_option linter.unusedVariables false
set_option linter.unusedSimpArgs false
namespace Go.Proofs.YthlocmhfjandlaaDoor
open Go.RowKit Nt Fm

/-- the error of Shift -/
def shE (c : Int) (n : Int) : Int := if c = 0 then (if n < -20000 ∨ 20000 < n then 1 else 0) else c
def shN (a : Nat) (n : Int) : Nat := if 0 ≤ n then a * 2 ^ n.toNat else a / 2 ^ (-n).toNat
def shL (a : Nat) (n : Int) : Bool := if 0 ≤ n then false else lostB a (-n).toNat
def orF (x : Int) (b : Bool) : Bool := if x = 0 then b else false
theorem orF_zero {b : Bool} : orF 0 b = b := rfl
theorem orF_ne {x : Int} (h : x ≠ 0) {b : Bool} : orF x b = false := if_neg h
def RetNBE (w : World) (n : Nat) (b : Bool) (x : Int) (e : Ending) (w' : World) : Prop := ∃ v, e = .returned (.tuple #[v, .bool b, .int .i64 x]) ∧ NV w' v n ∧ Below w.heap.size w w'
set_option maxHeartbeats 4000000 in
theorem nshift_any (va : Value) (c : Int) (a : Nat) (n : Int) (h0 : -9223372036854775808 ≤ n) (h1 : n ≤ 9223372036854775807) (w : World) (hA : NA w va c a) :
    Calls Tryd.prog 18 #[va, .int .i64 n] w (RetNBE w (or0 (shE c n) (shN a n)) (orF (shE c n) (shL a n)) (shE c n)) := by
  have CH := Lib.hid (ncheck_one va c a w hA)
  obtain ⟨aa, ka, kca, rfl⟩ := hA.shape
  by_cases hc : c = 0
  · obtain ⟨ha, ha2⟩ := hA.nv hc
    rw [hc] at CH
    by_cases hr : n < -20000 ∨ 20000 < n
    · have e1 : shE c n = 1 := by unfold shE; rw [if_pos hc, if_pos hr]
      rw [e1, or0_ne (by decide), orF_ne (by decide)]
      clear hA e1 hc ha ha2
      rcases hr with hr | hr
      all_goals
        go_enter Tryd.func18, Tryd.ntmps18
        go_wp2_with (go_at_call 45; refine CH.out.mono ?_; rintro e w1 ⟨rfl, rfl⟩)
        go_ret3
        exact ⟨_, rfl, NV.nil _, Below.refl _ _⟩
    · have e1 : shE c n = 0 := by unfold shE; rw [if_pos hc, if_neg hr]
      rw [e1, or0_zero, orF_zero]
      have hlo : -20000 ≤ n := by omega
      have hhi : n ≤ 20000 := by omega
      obtain ⟨K0, hK0, hK1⟩ : ∃ K0, 12800 ≤ K0 ∧ K0 ≤ 12800 := ⟨12800, by omega, by omega⟩
      have hka := lt_of_blen (Nat.le_trans ha2 hK0)
      by_cases hn : 0 ≤ n
      · have e2 : shN a n = a * 2 ^ n.toNat := by unfold shN; rw [if_pos hn]
        have e3 : shL a n = false := by unfold shL; rw [if_pos hn]
        rw [e2, e3]
        have LF := Lib.hid (left_any _ a n.toNat K0 n w ha (by omega) hka (by omega) (by omega))
        clear hA e1 e2 e3 hc ha ha2 hr hka hK0 hK1
        go_enter Tryd.func18, Tryd.ntmps18
        go_wp2_with (first
          | (go_at_call 45; refine CH.out.mono ?_; rintro e w1 ⟨rfl, rfl⟩)
          | (go_at_call 46; refine LF.out.mono ?_; rintro e w3 ⟨v3, rfl, hn3, hb3⟩; obtain ⟨a3, k3, c3, rfl⟩ := hn3.shape; have N3 := Lib.hid hn3; have B3 := Lib.hid hb3; clear hn3 hb3))
        go_ret3
        exact ⟨_, rfl, N3.out, B3.out⟩
      · have e2 : shN a n = a / 2 ^ (-n).toNat := by unfold shN; rw [if_neg hn]
        have e3 : shL a n = lostB a (-n).toNat := by unfold shL; rw [if_neg hn]
        rw [e2, e3]
        have LF := Lib.hid (right_any _ a (-n).toNat K0 (-n) w ha (by omega) hka (by omega) (by omega))
        generalize lostB a (-n).toNat = L at *
        have hn' : n < 0 := by omega
        clear hA e1 e2 e3 hc ha ha2 hr hka hK0 hK1 hn
        go_enter Tryd.func18, Tryd.ntmps18
        go_wp2_with (first
          | (go_at_call 45; refine CH.out.mono ?_; rintro e w1 ⟨rfl, rfl⟩)
          | (go_at_call 47; refine LF.out.mono ?_; rintro e w3 ⟨v3, rfl, hn3, hb3⟩; obtain ⟨a3, k3, c3, rfl⟩ := hn3.shape; have N3 := Lib.hid hn3; have B3 := Lib.hid hb3; clear hn3 hb3))
        go_ret3
        exact ⟨_, rfl, N3.out, B3.out⟩
  · have e1 : shE c n = c := by unfold shE; rw [if_neg hc]
    rw [e1, or0_ne hc, orF_ne hc]
    have h2 := ne_zero_b hc
    clear hA e1 hc
    go_enter Tryd.func18, Tryd.ntmps18
    go_wp2_with (go_at_call 45; refine CH.out.mono ?_; rintro e w1 ⟨rfl, rfl⟩)
    go_ret3
    exact ⟨_, rfl, NV.nil _, Below.refl _ _⟩
set_option maxHeartbeats 4000000 in
theorem nbits_any (va : Value) (c : Int) (a : Nat) (w : World) (hA : NA w va c a) :
    Calls Tryd.prog 19 #[va] w fun e w' => e = .returned (.tuple #[.int .i64 (or0 c (blen a) : Nat), .int .i64 c]) ∧ w' = w := by
  have CH := Lib.hid (ncheck_one va c a w hA)
  obtain ⟨aa, ka, kca, rfl⟩ := hA.shape
  by_cases hc : c = 0
  · obtain ⟨ha, ha2⟩ := hA.nv hc
    subst hc
    rw [or0_zero]
    have LN := Lib.hid (natLen_any _ a (blen a) w ha (lt_blen a) (by omega))
    generalize blen a = L at *
    clear hA ha
    go_enter Tryd.func19, Tryd.ntmps19
    go_wp2_with (first
      | (go_at_call 45; refine CH.out.mono ?_; rintro e w1 ⟨rfl, rfl⟩)
      | (go_at_call 48; refine LN.out.mono ?_; rintro e w1 ⟨rfl, rfl⟩))
    go_ret2
    exact ⟨rfl, rfl⟩
  · rw [or0_ne hc]
    have h2 := ne_zero_b hc
    clear hA hc
    go_enter Tryd.func19, Tryd.ntmps19
    go_wp2_with (go_at_call 45; refine CH.out.mono ?_; rintro e w1 ⟨rfl, rfl⟩)
    go_ret2
    exact ⟨rfl, rfl⟩
/-- does the root leave something? -/
def rtL (a : Nat) : Bool := (sgn2 ((isq a * isq a : Nat) : Int) (a : Int) != 0)
set_option maxHeartbeats 4000000 in
theorem nroot_any (va : Value) (c : Int) (a : Nat) (w : World) (hA : NA w va c a) :
    Calls Tryd.prog 20 #[va] w (RetNBE w (or0 c (isq a)) (orF c (rtL a)) c) := by
  have CH := Lib.hid (ncheck_one va c a w hA)
  obtain ⟨aa, ka, kca, rfl⟩ := hA.shape
  by_cases hc : c = 0
  · obtain ⟨ha, ha2⟩ := hA.nv hc
    subst hc
    rw [or0_zero, orF_zero]
    have HA := Lib.hid ha
    have SQ := Lib.hid (nsqrt_any _ a (blen a) w ha (lt_blen a) (by omega))
    have hik := isq_pow (lt_blen a)
    have TI := Lib.hid (fun v w' (h : NV w' v (isq a)) => times_any v v (isq a) (isq a) ((blen a + 1) / 2) w' h h hik hik (by omega))
    have CM := Lib.hid (fun v u w' (h : NV w' v (isq a * isq a)) (h2 : NV w' u a) => compare_any v u _ _ w' h h2)
    obtain ⟨S, hS⟩ : ∃ S, S = sgn2 ((isq a * isq a : Nat) : Int) (a : Int) := ⟨_, rfl⟩
    have eL : rtL a = (S != 0) := by unfold rtL; rw [hS]
    rw [eL]
    rw [← hS] at CM
    clear hA ha hik eL hS ha2
    go_enter Tryd.func20, Tryd.ntmps20
    go_wp2_with (first
      | (go_at_call 45; refine CH.out.mono ?_; rintro e w1 ⟨rfl, rfl⟩)
      | (go_at_call 49; refine SQ.out.mono ?_; rintro e w3 ⟨v3, rfl, hn3, hb3⟩; obtain ⟨a3, k3, c3, rfl⟩ := hn3.shape; have N3 := Lib.hid hn3; have B3 := Lib.hid hb3; have A3 := Lib.hid (HA.out.below hb3); clear hn3 hb3)
      | (go_at_call 44; refine (TI.out _ _ N3.out).mono ?_; rintro e w4 ⟨v4, rfl, hn4, hb4⟩; obtain ⟨a4, k4, c4, rfl⟩ := hn4.shape; have N4 := Lib.hid hn4; have M4 := Lib.hid (N3.out.below hb4); have B4 : Hid (Below w.heap.size w w4) := Lib.hid (bl_thru B3.out (Nat.le_refl _) hb4); have A4 := Lib.hid (A3.out.below hb4); clear hn4 hb4)
      | (go_at_call 50; refine (CM.out _ _ _ N4.out A4.out).mono ?_; rintro e w5 ⟨rfl, n5, rfl⟩))
    go_ret3
    exact ⟨_, rfl, M4.out.drewN _, below_to_drewN B4.out⟩
  · rw [or0_ne hc, orF_ne hc]
    have h2 := ne_zero_b hc
    clear hA hc
    go_enter Tryd.func20, Tryd.ntmps20
    go_wp2_with (go_at_call 45; refine CH.out.mono ?_; rintro e w1 ⟨rfl, rfl⟩)
    go_ret3
    exact ⟨_, rfl, NV.nil _, Below.refl _ _⟩
/-- what Text tells -/
def txt (c : Int) (a : Nat) : ByteArray := if c = 0 then ⟨(Lib.decDigits a).toArray⟩ else ⟨#[]⟩
set_option maxHeartbeats 4000000 in
theorem ntext_any (va : Value) (c : Int) (a : Nat) (w : World) (hA : NA w va c a) (hT : Tab10 w) :
    Calls Tryd.prog 43 #[va] w fun e w' => e = .returned (.tuple #[.string (txt c a), .int .i64 c]) ∧ Below w.heap.size w w' := by
  have CH := Lib.hid (ncheck_one va c a w hA)
  obtain ⟨aa, ka, kca, rfl⟩ := hA.shape
  by_cases hc : c = 0
  · obtain ⟨ha, ha2⟩ := hA.nv hc
    have e1 : txt c a = ⟨(Lib.decDigits a).toArray⟩ := by unfold txt; rw [if_pos hc]
    rw [e1]
    subst hc
    have DC := Lib.hid (decimal_any _ a (blen a) w ha (lt_blen a) (by omega) hT)
    generalize (⟨(Lib.decDigits a).toArray⟩ : ByteArray) = L at *
    clear hA ha ha2 e1 hT
    go_enter Tryd.func43, Tryd.ntmps43
    go_wp2_with (first
      | (go_at_call 45; refine CH.out.mono ?_; rintro e w1 ⟨rfl, rfl⟩)
      | (go_at_call 60; refine DC.out.mono ?_; rintro e w1 ⟨rfl, hb⟩; have B1 := Lib.hid hb; clear hb))
    go_ret2
    exact ⟨rfl, B1.out⟩
  · have e1 : txt c a = ⟨#[]⟩ := by unfold txt; rw [if_neg hc]
    rw [e1]
    have h2 := ne_zero_b hc
    clear hA hc e1 hT
    go_enter Tryd.func43, Tryd.ntmps43
    go_wp2_with (go_at_call 45; refine CH.out.mono ?_; rintro e w1 ⟨rfl, rfl⟩)
    go_ret2
    exact ⟨rfl, Below.refl _ _⟩
end Go.Proofs.YthlocmhfjandlaaDoor
