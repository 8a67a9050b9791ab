/-
  SOME OF MY TEXTS in one: Rd1 RdP Rd2 Ck To Rd Frk ToR. Each says what it proves.
-/
import Derived.Test.YtofdjfdnckmmmaaGreatDoorNa
import Derived.Test.YtofdjfdnckmmmaaGreatDoorNat7
import Derived.Test.YtofdjfdnckmmmaaGreatDoorBa
import Derived.Test.YtofdjfdnckmmmaaGreatDoorBd
set_option linter.unusedVariables false
set_option linter.unusedSimpArgs false
/-
  THE WALKS of package round: Known, Up, cut.
-/
namespace Go.Proofs.YtofdjfdnckmmmaaGreatDoor
open Go.RowKit Nt Fm

def knownB (mode : Int) : Bool := decide (0 ≤ mode ∧ mode ≤ 4)
theorem known_any (mode : Int) (w : World) :
    Calls Tryz.prog 28 #[.int .i64 mode] w fun e w' => e = .returned (.bool (knownB mode)) ∧ w = w' := by
  by_cases h1 : 0 ≤ mode
  · by_cases h2 : mode ≤ 4
    · have e : knownB mode = true := by unfold knownB; simp; omega
      rw [e]; clear e
      go_enter Tryz.func28, Tryz.ntmps28
      go_wp2
      go_ret
      exact ⟨rfl, rfl⟩
    · have e : knownB mode = false := by unfold knownB; simp; omega
      rw [e]; clear e
      go_enter Tryz.func28, Tryz.ntmps28
      go_wp2
      go_ret
      exact ⟨rfl, rfl⟩
  · have e : knownB mode = false := by unfold knownB; simp; omega
    rw [e]; clear e
    go_enter Tryz.func28, Tryz.ntmps28
    go_wp2
    go_ret
    exact ⟨rfl, rfl⟩

/-- is a quotient that was rounded down increased? -/
def upB (neg odd : Bool) (half mode : Int) : Bool :=
  if mode = 1 then !neg else if mode = 2 then neg else if mode = 3 then false else if mode = 4 then decide (0 ≤ half) else decide (0 < half) || (decide (half = 0) && odd)

set_option maxHeartbeats 1000000 in
theorem up_any (neg odd : Bool) (half mode : Int) (w : World) (h0 : 0 ≤ mode) (h1 : mode ≤ 4) :
    Calls Tryz.prog 102 #[.bool neg, .bool odd, .int .i64 half, .int .i64 mode] w fun e w' => e = .returned (.bool (upB neg odd half mode)) ∧ w = w' := by
  have hm : mode = 0 ∨ mode = 1 ∨ mode = 2 ∨ mode = 3 ∨ mode = 4 := by omega
  rcases hm with rfl | rfl | rfl | rfl | rfl
  · by_cases h2 : 0 < half
    · have e : upB neg odd half 0 = true := by simp [upB, h2]
      rw [e]; clear e
      go_enter Tryz.func102, Tryz.ntmps102
      go_wp2
      go_ret
      exact ⟨rfl, rfl⟩
    · by_cases h3 : half = 0
      · subst h3
        have e : upB neg odd 0 0 = odd := by simp [upB]
        rw [e]; clear e
        cases odd
        all_goals
          go_enter Tryz.func102, Tryz.ntmps102
          go_wp2
          go_ret
          exact ⟨rfl, rfl⟩
      · have e : upB neg odd half 0 = false := by simp [upB, h2, h3]
        rw [e]; clear e
        have h4 : (half == 0) = false := by simp [h3]
        go_enter Tryz.func102, Tryz.ntmps102
        go_wp2
        go_ret
        exact ⟨rfl, rfl⟩
  · have e : upB neg odd half 1 = !neg := by simp [upB]
    rw [e]; clear e
    go_enter Tryz.func102, Tryz.ntmps102
    go_wp2
    go_ret
    exact ⟨rfl, rfl⟩
  · have e : upB neg odd half 2 = neg := by simp [upB]
    rw [e]; clear e
    go_enter Tryz.func102, Tryz.ntmps102
    go_wp2
    go_ret
    exact ⟨rfl, rfl⟩
  · have e : upB neg odd half 3 = false := by simp [upB]
    rw [e]; clear e
    go_enter Tryz.func102, Tryz.ntmps102
    go_wp2
    go_ret
    exact ⟨rfl, rfl⟩
  · by_cases h2 : 0 ≤ half
    · have e : upB neg odd half 4 = true := by simp [upB, h2]
      rw [e]; clear e
      go_enter Tryz.func102, Tryz.ntmps102
      go_wp2
      go_ret
      exact ⟨rfl, rfl⟩
    · have e : upB neg odd half 4 = false := by simp [upB, h2]
      rw [e]; clear e
      go_enter Tryz.func102, Tryz.ntmps102
      go_wp2
      go_ret
      exact ⟨rfl, rfl⟩

/-- a number cut by k places, and rounded -/
def cutM (neg : Bool) (m : Nat) (k mode : Int) : Nat :=
  if k ≤ 0 then m * 2 ^ (-k).toNat
  else if m % 2 ^ k.toNat = 0 then m / 2 ^ k.toNat
  else m / 2 ^ k.toNat + if upB neg (decide (m / 2 ^ k.toNat % 2 = 1)) (sgn2 ((m % 2 ^ k.toNat : Nat) : Int) ((2 ^ (k.toNat - 1) : Nat) : Int)) mode then 1 else 0
def cutC (m : Nat) (k : Int) : Bool := decide (0 < k) && lostB m k.toNat

/-- the lowest limb tells whether it is odd -/
theorem limb_odd {w : World} {v : Value} {q : Nat} (h : NV w v q) : ∃ (ao : Option Addr) (n c : Nat), v = .slice ao n c ∧ n ≤ c ∧ c ≤ maxLen ∧
    ((n ≤ 0 ∧ q = 0) ∨ (0 < n ∧ ∃ b off d, ao = some ⟨b, off, none⟩ ∧ b < w.heap.size ∧ d < 4294967296 ∧ w.cell? ⟨b, off, none⟩ = some (.int .u32 ((d : Nat) : Int)) ∧ d % 2 = q % 2)) := by
  obtain ⟨l, h1, h2, h3, ao, cap, h4, h5, h6, h7⟩ := h
  refine ⟨ao, l.length, cap, h4, h5, h6, ?_⟩
  by_cases hl : l.length ≤ 0
  · left; refine ⟨hl, ?_⟩
    rw [← h2, List.length_eq_zero_iff.1 (by omega : l.length = 0)]; rfl
  · right
    refine ⟨by omega, ?_⟩
    rcases h7 with h7 | ⟨b, off, e1, e2, e3⟩
    · exact absurd h7 hl
    · refine ⟨b, off, l.getD 0 0, e1, e2, h1.1.getD 0, by have := e3 0 (by omega); simpa using this, ?_⟩
      rw [← h2]
      cases l with
      | nil => simp at hl
      | cons d l => simp [val]; omega

set_option maxHeartbeats 4000000 in
theorem cut_any (neg : Bool) (va : Value) (m k0 : Nat) (k mode : Int) (w : World) (ha : NV w va m) (hm : m < 2 ^ k0) (hk0 : k0 ≤ 40000000000000) (h0 : -40000000000000 ≤ k) (h1 : k ≤ 40000000000000) (hm0 : 0 ≤ mode) (hm1 : mode ≤ 4) :
    Calls Tryz.prog 60 #[.bool neg, va, .int .i64 k, .int .i64 mode] w (RetNVB w (cutM neg m k mode) (cutC m k)) := by
  obtain ⟨ao, n, c, rfl⟩ := ha.shape
  have HA := Lib.hid ha
  have HM := Lib.hid hm
  clear ha hm
  by_cases hk : k ≤ 0
  · have e1 : cutM neg m k mode = m * 2 ^ (-k).toNat := by unfold cutM; rw [if_pos hk]
    have e2 : cutC m k = false := by unfold cutC; simp; omega
    rw [e1, e2]; clear e1 e2
    go_enter Tryz.func60, Tryz.ntmps60
    go_wp2_with fail
    refine (left_any _ m (-k).toNat k0 _ _ HA.out (by omega) HM.out (by omega) (by omega)).mono ?_
    rintro e w1 ⟨v, rfl, hv, hb⟩
    go_wp2
    go_ret2
    exact ⟨v, rfl, hv, hb⟩
  · obtain ⟨p, rfl⟩ : ∃ p : Nat, k = p := ⟨k.toNat, by omega⟩
    have hp : 0 < p := by omega
    have ec : cutC m (p : Int) = lostB m p := by unfold cutC; simp [hp]
    have em : cutM neg m (p : Int) mode = if m % 2 ^ p = 0 then m / 2 ^ p else m / 2 ^ p + if upB neg (decide (m / 2 ^ p % 2 = 1)) (sgn2 ((m % 2 ^ p : Nat) : Int) ((2 ^ (p - 1) : Nat) : Int)) mode then 1 else 0 := by
      unfold cutM; rw [if_neg hk]; simp only [Int.toNat_natCast]
    rw [ec]
    by_cases hl : m % 2 ^ p = 0
    · have el : lostB m p = false := by unfold lostB; simp [hl]
      rw [if_pos hl] at em
      rw [em, el]
      have EL := Lib.hid el
      clear ec em hl el
      go_enter Tryz.func60, Tryz.ntmps60
      go_wp2_with fail
      refine (right_any _ m p k0 _ _ HA.out rfl HM.out (by omega) (by omega)).mono ?_
      rintro e w1 ⟨v, rfl, hv, hb⟩
      rw [EL.out]
      go_wp2
      go_ret2
      exact ⟨v, rfl, hv, hb⟩
    · have el : lostB m p = true := by unfold lostB; simp [hl]
      rw [if_neg hl] at em
      rw [el]
      have EL := Lib.hid el
      clear ec hl el
      have hdm := Nat.div_add_mod m (2 ^ p)
      have hlt := Nat.mod_lt m (Nat.two_pow_pos p)
      have hq2 : m / 2 ^ p * 2 ^ p ≤ m := Nat.div_mul_le_self _ _
      have hrest : m - m / 2 ^ p * 2 ^ p = m % 2 ^ p := by rw [Nat.mul_comm]; omega
      have hq1 : m / 2 ^ p ≤ m := Nat.div_le_self _ _
      generalize hqd : m / 2 ^ p = q at *
      generalize hrd : m % 2 ^ p = r at *
      have EM := Lib.hid em
      clear em
      have HQ2 := Lib.hid hq2
      have HRE := Lib.hid hrest
      have HQ1 := Lib.hid hq1
      have HLT := Lib.hid hlt
      have HQD := Lib.hid hqd
      have HRD := Lib.hid hrd
      clear hdm hq2 hrest hq1 hlt hqd hrd
      have hqb : q < 2 ^ k0 := Nat.lt_of_le_of_lt HQ1.out HM.out
      have HQB := Lib.hid hqb
      clear hqb
      go_enter Tryz.func60, Tryz.ntmps60
      go_wp2_with fail
      refine (right_any _ m p k0 _ _ HA.out rfl HM.out (by omega) (by omega)).mono ?_
      rintro e w1 ⟨vq, rfl, hvq, hb1⟩
      rw [EL.out]
      rw [HQD.out] at hvq
      obtain ⟨aq, nq, cq, rfl, hnq1, hnq2, hodd⟩ := limb_odd hvq
      unfold maxLen at hnq2
      have HVQ := Lib.hid hvq
      have HODD := Lib.hid hodd
      have HB1 := Lib.hid hb1
      clear hvq hodd hb1
      go_wp2_with fail
      refine (left_any _ q p k0 _ _ HVQ.out rfl HQB.out (by omega) (by omega)).mono ?_
      rintro e w2 ⟨v2, rfl, hv2, hb2⟩
      obtain ⟨a2, n2, c2, rfl⟩ := hv2.shape
      have HV2 := Lib.hid hv2
      have HB2 := Lib.hid hb2
      clear hv2 hb2
      go_wp2_with fail
      refine (minus_any _ _ m (q * 2 ^ p) k0 _ ((HA.out.below HB1.out).below HB2.out) HV2.out HQ2.out HM.out (by omega)).mono ?_
      rintro e w3 ⟨v3, rfl, hv3, hb3⟩
      rw [HRE.out] at hv3
      obtain ⟨a3, n3, c3, rfl⟩ := hv3.shape
      have HV3 := Lib.hid hv3
      have HB3 := Lib.hid hb3
      clear hv3 hb3
      go_wp2_with fail
      refine (natOf_any 1 (by omega) (by omega) _).mono ?_
      rintro e w4 ⟨v4, rfl, hv4, hb4⟩
      obtain ⟨a4, n4, c4, rfl⟩ := hv4.shape
      have HV4 := Lib.hid hv4
      have HB4 := Lib.hid hb4
      clear hv4 hb4
      go_wp2_with fail
      refine (left_any _ 1 (p - 1) 1 _ _ HV4.out (by omega) (by omega) (by omega) (by omega)).mono ?_
      rintro e w5 ⟨v5, rfl, hv5, hb5⟩
      rw [Nat.one_mul] at hv5
      obtain ⟨a5, n5, c5, rfl⟩ := hv5.shape
      have HV5 := Lib.hid hv5
      have HB5 := Lib.hid hb5
      clear hv5 hb5
      go_wp2_with fail
      refine (compare_any _ _ r (2 ^ (p - 1)) _ ((HV3.out.below HB4.out).below HB5.out) HV5.out).mono ?_
      rintro e w6 ⟨rfl, nw, rfl⟩
      generalize hhalf : sgn2 (r : Int) ((2 ^ (p - 1) : Nat) : Int) = half at *
      have hb15 : Below w1.heap.size w1 (w5.drewN nw) := by
        have e2 := HB2.out
        have e3 := e2.trans (HB3.out.mono e2.size)
        have e4 := e3.trans (HB4.out.mono e3.size)
        have e5 := e4.trans (HB5.out.mono e4.size)
        exact ⟨e5.os, e5.tape, e5.output, e5.size, e5.block⟩
      have hbw : Below w.heap.size w (w5.drewN nw) := HB1.out.trans (hb15.mono HB1.out.size)
      have hvq5 : NV (w5.drewN nw) (.slice aq nq cq) q := HVQ.out.below hb15
      have hodd5 := HODD.out
      rcases hodd5 with ⟨o1, o2⟩ | ⟨o1, b, off, d, rfl, o3, o4, o5, o6⟩
      · have eo : decide (q % 2 = 1) = false := by rw [o2]; rfl
        have EO := Lib.hid eo
        clear o2 eo
        have HVQ5 := Lib.hid hvq5
        have HBW := Lib.hid hbw
        clear hvq5 hbw hb15 hhalf
        cases hu : upB neg false half mode
        · have HU := Lib.hid hu
          go_wp2_with (go_at_call 102; refine (up_any _ _ _ _ _ (by omega) (by omega)).mono ?_; rintro e w' ⟨rfl, rfl⟩)
          go_ret2
          exact ⟨_, rfl, by rw [EM.out, EO.out, HU.out]; exact HVQ5.out, HBW.out⟩
        · have HU := Lib.hid hu
          go_wp2_with (go_at_call 102; refine (up_any _ _ _ _ _ (by omega) (by omega)).mono ?_; rintro e w' ⟨rfl, rfl⟩)
          refine (natOf_any 1 (by omega) (by omega) _).mono ?_
          rintro e w7 ⟨v7, rfl, hv7, hb7⟩
          obtain ⟨a7, n7, c7, rfl⟩ := hv7.shape
          have HV7 := Lib.hid hv7
          have HB7 := Lib.hid hb7
          clear hv7 hb7
          go_wp2_with fail
          refine (plus_any _ _ q 1 (k0 + 1) _ (HVQ5.out.below HB7.out) HV7.out (Nat.lt_of_lt_of_le HQB.out (Nat.pow_le_pow_right (by decide) (by omega))) (by have := Nat.two_pow_pos k0; rw [Nat.pow_succ]; omega) (by omega)).mono ?_
          rintro e w8 ⟨v8, rfl, hv8, hb8⟩
          go_wp2
          go_ret2
          exact ⟨_, rfl, by rw [EM.out, EO.out, HU.out]; exact hv8, HBW.out.trans ((HB7.out.mono HBW.out.size).trans (hb8.mono (Nat.le_trans HBW.out.size HB7.out.size)))⟩
      · have hcell : (w5.drewN nw).cell? ⟨b, off, none⟩ = some (.int .u32 ((d : Nat) : Int)) := (hb15.cell (p := ⟨b, off, none⟩) o3).trans o5
        rw [World.cell?_drewN] at hcell
        have HVQ5 := Lib.hid hvq5
        have HBW := Lib.hid hbw
        clear hvq5 hbw hb15 hhalf
        by_cases hd : d % 2 = 1
        · have eo : decide (q % 2 = 1) = true := by rw [← o6]; simp [hd]
          have EO := Lib.hid eo
          have hd2 : ((d : Int) % 2 == 1) = true := by rw [beq_iff_eq]; omega
          clear o6 eo hd o5
          cases hu : upB neg true half mode
          · have HU := Lib.hid hu
            go_wp2_with (go_at_call 102; refine (up_any _ _ _ _ _ (by omega) (by omega)).mono ?_; rintro e w' ⟨rfl, rfl⟩)
            go_ret2
            exact ⟨_, rfl, by rw [EM.out, EO.out, HU.out]; exact HVQ5.out, HBW.out⟩
          · have HU := Lib.hid hu
            go_wp2_with (go_at_call 102; refine (up_any _ _ _ _ _ (by omega) (by omega)).mono ?_; rintro e w' ⟨rfl, rfl⟩)
            refine (natOf_any 1 (by omega) (by omega) _).mono ?_
            rintro e w7 ⟨v7, rfl, hv7, hb7⟩
            obtain ⟨a7, n7, c7, rfl⟩ := hv7.shape
            have HV7 := Lib.hid hv7
            have HB7 := Lib.hid hb7
            clear hv7 hb7
            go_wp2_with fail
            refine (plus_any _ _ q 1 (k0 + 1) _ (HVQ5.out.below HB7.out) HV7.out (Nat.lt_of_lt_of_le HQB.out (Nat.pow_le_pow_right (by decide) (by omega))) (by have := Nat.two_pow_pos k0; rw [Nat.pow_succ]; omega) (by omega)).mono ?_
            rintro e w8 ⟨v8, rfl, hv8, hb8⟩
            go_wp2
            go_ret2
            exact ⟨_, rfl, by rw [EM.out, EO.out, HU.out]; exact hv8, HBW.out.trans ((HB7.out.mono HBW.out.size).trans (hb8.mono (Nat.le_trans HBW.out.size HB7.out.size)))⟩
        · have eo : decide (q % 2 = 1) = false := by rw [← o6]; simp [hd]
          have EO := Lib.hid eo
          have hd2 : ((d : Int) % 2 == 1) = false := by rw [beq_eq_false_iff_ne]; omega
          clear o6 eo hd o5
          cases hu : upB neg false half mode
          · have HU := Lib.hid hu
            go_wp2_with (go_at_call 102; refine (up_any _ _ _ _ _ (by omega) (by omega)).mono ?_; rintro e w' ⟨rfl, rfl⟩)
            go_ret2
            exact ⟨_, rfl, by rw [EM.out, EO.out, HU.out]; exact HVQ5.out, HBW.out⟩
          · have HU := Lib.hid hu
            go_wp2_with (go_at_call 102; refine (up_any _ _ _ _ _ (by omega) (by omega)).mono ?_; rintro e w' ⟨rfl, rfl⟩)
            refine (natOf_any 1 (by omega) (by omega) _).mono ?_
            rintro e w7 ⟨v7, rfl, hv7, hb7⟩
            obtain ⟨a7, n7, c7, rfl⟩ := hv7.shape
            have HV7 := Lib.hid hv7
            have HB7 := Lib.hid hb7
            clear hv7 hb7
            go_wp2_with fail
            refine (plus_any _ _ q 1 (k0 + 1) _ (HVQ5.out.below HB7.out) HV7.out (Nat.lt_of_lt_of_le HQB.out (Nat.pow_le_pow_right (by decide) (by omega))) (by have := Nat.two_pow_pos k0; rw [Nat.pow_succ]; omega) (by omega)).mono ?_
            rintro e w8 ⟨v8, rfl, hv8, hb8⟩
            go_wp2
            go_ret2
            exact ⟨_, rfl, by rw [EM.out, EO.out, HU.out]; exact hv8, HBW.out.trans ((HB7.out.mono HBW.out.size).trans (hb8.mono (Nat.le_trans HBW.out.size HB7.out.size)))⟩
end Go.Proofs.YtofdjfdnckmmmaaGreatDoor

/-
  PLAIN: what round.Number computes is the rounding of Fm.
-/
namespace Go.Proofs.YtofdjfdnckmmmaaGreatDoor
open Go.RowKit Nt Fm

def awayB (neg : Bool) (mode : Int) : Bool := decide (mode = 0) || (decide (mode = 4) || ((decide (mode = 1) && !neg) || (decide (mode = 2) && neg)))
/-- the last steps of round.Number -/
def finN (n : Nat) : Nat := if n = 9007199254740992 then 4503599627370496 else n
def finK (n : Nat) (k : Int) : Int := if n = 9007199254740992 then k + 1 else k
def finR (neg : Bool) (n : Nat) (k mode : Int) : Int :=
  (if 971 < finK n k then (if awayB neg mode then 9218868437227405312 else 9218868437227405311)
   else if finN n < 4503599627370496 then (finN n : Int) else (finK n k + 1075) * 4503599627370496 + (finN n : Int) % 4503599627370496) + if neg then 9223372036854775808 else 0
def finC (n : Nat) (k : Int) (c : Bool) : Bool := decide (971 < finK n k) || c

def numR (d : D) (mode : Int) : Int := (numk (kd d.neg mode) d.m d.e : Int) + if d.neg then 9223372036854775808 else 0
def numC (d : D) : Bool := chg d.m d.e

theorem blen_eq (m : Nat) : blen m = bl m := rfl

theorem upB_upk (neg : Bool) (m : Nat) (e mode : Int) (h0 : 0 ≤ mode) (h1 : mode ≤ 4) (hs : 0 < ss m e) :
    upB neg (decide (m / 2 ^ (ss m e).toNat % 2 = 1)) (sgn2 ((m % 2 ^ (ss m e).toNat : Nat) : Int) ((2 ^ ((ss m e).toNat - 1) : Nat) : Int)) mode = upk (kd neg mode) m e := by
  have eq1 : m / 2 ^ (ss m e).toNat = qq m e := by unfold qq; rw [if_neg (by omega)]
  have eq2 : m % 2 ^ (ss m e).toNat = rr m e := by unfold rr; rw [if_neg (by omega)]
  have ep : 2 ^ (ss m e).toNat = 2 * 2 ^ ((ss m e).toNat - 1) := by rw [← Nat.pow_succ']; congr 1; omega
  rw [eq1, eq2]
  have eh : sgn2 ((rr m e : Nat) : Int) ((2 ^ ((ss m e).toNat - 1) : Nat) : Int) = hh m e := by
    unfold sgn2 hh; rw [ep]
    generalize 2 ^ ((ss m e).toNat - 1) = P
    split <;> split <;> (try split) <;> omega
  rw [eh]
  have hm : mode = 0 ∨ mode = 1 ∨ mode = 2 ∨ mode = 3 ∨ mode = 4 := by omega
  rcases hm with rfl | rfl | rfl | rfl | rfl <;> cases neg <;> simp [upB, upk, kd]

theorem cutM_r1 (neg : Bool) (m : Nat) (e mode : Int) (h0 : 0 ≤ mode) (h1 : mode ≤ 4) :
    cutM neg m (ss m e) mode + jj m e * 4503599627370496 = r1 (kd neg mode) m e ∧ qq m e ≤ cutM neg m (ss m e) mode ∧ cutM neg m (ss m e) mode ≤ qq m e + 1 := by
  unfold cutM r1 r0
  by_cases hs : ss m e ≤ 0
  · rw [if_pos hs]
    have e1 : m * 2 ^ (-ss m e).toNat = qq m e := by unfold qq; rw [if_pos hs]
    have e2 : rr m e = 0 := by unfold rr; rw [if_pos hs]
    rw [e1, e2]; simp
  · rw [if_neg hs]
    have eq1 : m / 2 ^ (ss m e).toNat = qq m e := by unfold qq; rw [if_neg (by omega)]
    have eq2 : m % 2 ^ (ss m e).toNat = rr m e := by unfold rr; rw [if_neg (by omega)]
    have hu := upB_upk neg m e mode h0 h1 (by omega)
    rw [eq1, eq2] at hu
    rw [eq1, eq2]
    by_cases hr : rr m e = 0
    · rw [if_pos hr]; simp [hr]
    · rw [if_neg hr, hu]
      cases upk (kd neg mode) m e
      · simp [hr]
      · simp [hr]; omega

theorem cutC_rr (m : Nat) (e : Int) : cutC m (ss m e) = decide (rr m e ≠ 0) := by
  unfold cutC lostB rr
  by_cases hs : ss m e ≤ 0
  · simp [hs]; omega
  · simp [hs]; omega

theorem kd_zero (neg : Bool) (mode : Int) (h0 : 0 ≤ mode) (h1 : mode ≤ 4) : (kd neg mode = 0) ↔ (awayB neg mode = false) := by
  have hm : mode = 0 ∨ mode = 1 ∨ mode = 2 ∨ mode = 3 ∨ mode = 4 := by omega
  rcases hm with rfl | rfl | rfl | rfl | rfl <;> cases neg <;> simp [awayB, kd]

theorem fin_num {d : D} {mode : Int} (h0 : 0 ≤ mode) (h1 : mode ≤ 4) (hz : d.m = 0 → d.e ≤ 1000) :
    finR d.neg (cutM d.neg d.m (ss d.m d.e) mode) (kk d.m d.e) mode = numR d mode ∧ finC (cutM d.neg d.m (ss d.m d.e) mode) (kk d.m d.e) (cutC d.m (ss d.m d.e)) = numC d ∧ cutM d.neg d.m (ss d.m d.e) mode ≤ 9007199254740992 := by
  obtain ⟨a, b, c⟩ := cutM_r1 d.neg d.m d.e mode h0 h1
  have hq := qq_lt d.m d.e
  have hj := jj_eq d.m d.e
  have hk := kk_ge d.m d.e
  by_cases hm : d.m = 0
  · have hk2 : kk d.m d.e ≤ 971 := by unfold kk; rw [hm]; have := hz hm; simp [bl]; omega
    have e1 : cutM d.neg d.m (ss d.m d.e) mode = 0 := by
      unfold cutM; rw [hm]; split
      · simp
      · simp
    have e2 : cutC d.m (ss d.m d.e) = false := by unfold cutC lostB; rw [hm]; simp
    rw [e1, e2]
    refine ⟨?_, ?_, by omega⟩
    · have en : numk (kd d.neg mode) d.m d.e = 0 := by unfold numk; rw [if_pos hm]
      unfold finR finK finN numR; rw [en, if_neg (by omega)]; simp
    · have en : chg d.m d.e = false := by unfold chg; simp [hm]
      unfold finC finK numC; rw [en]; simp; omega
  · have hg := qq_ge hm d.e
    refine ⟨?_, ?_, by omega⟩
    · unfold finR numR numk
      congr 1
      rw [if_neg hm]
      have hkz := kd_zero d.neg mode h0 h1
      unfold finK finN
      have hMR : MR = 9218868437227405312 := rfl
      rw [hMR]
      generalize cutM d.neg d.m (ss d.m d.e) mode = n at *
      generalize r1 (kd d.neg mode) d.m d.e = r at *
      generalize kk d.m d.e = k at *
      generalize jj d.m d.e = j at *
      generalize qq d.m d.e = q at *
      generalize kd d.neg mode = kz at *
      by_cases haw : awayB d.neg mode = true
      · have hk0 : ¬ kz = 0 := fun h => by have := hkz.1 h; rw [haw] at this; cases this
        simp only [haw, hk0, if_true, if_false]
        (repeat' split) <;> omega
      · have hk0 : kz = 0 := hkz.2 (by simpa using haw)
        simp only [haw, hk0, if_true, Bool.false_eq_true, if_false]
        (repeat' split) <;> omega
    · rw [cutC_rr]
      unfold finC numC chg
      have hMR : MR = 9218868437227405312 := rfl
      have hr0 : r0 d.m d.e = qq d.m d.e + jj d.m d.e * 4503599627370496 := rfl
      have hr1 : r1 (kd d.neg mode) d.m d.e = if rr d.m d.e ≠ 0 ∧ upk (kd d.neg mode) d.m d.e = true then r0 d.m d.e + 1 else r0 d.m d.e := rfl
      have key : (971 < finK (cutM d.neg d.m (ss d.m d.e) mode) (kk d.m d.e)) ↔ MR ≤ r1 (kd d.neg mode) d.m d.e := by
        rw [hMR]; unfold finK; split <;> omega
      have hne : (decide (d.m ≠ 0)) = true := by simp [hm]
      rw [hne, Bool.true_and]
      by_cases hr : rr d.m d.e = 0
      · rw [hr1] at key
        simp only [hr, ne_eq, not_true_eq_false, false_and, if_false] at key
        simp [hr, key]
      · simp [hr]
end Go.Proofs.YtofdjfdnckmmmaaGreatDoor

/-
  THE WALK of package round: Number.
-/
namespace Go.Proofs.YtofdjfdnckmmmaaGreatDoor
open Go.RowKit Nt Fm

/-- a callee that only computes, in a region that draws -/
theorem quiet_first {P : Program} {f : FuncId} {args : Array Value} {w : World} {n : Nat} {v : Value} (h : Calls P f args (w.drewN n) fun e w' => e = .returned v ∧ w.drewN n = w') :
    Calls P f args (w.drewN n) fun e w' => e = .returned v ∧ ∃ m, w' = w.drewN m := h.mono fun _ _ ⟨he, hw⟩ => ⟨he, n, hw.symm⟩

theorem or_lo (c x : Nat) (hc : c < 4294967296) (hx : x < 4294967296) : bits .or .u64 (c : Int) ((x : Int) * 4294967296) = ((c + x * 4294967296 : Nat) : Int) := or_high c x hc hx

/-- limbs of a number of one word -/
theorem two_limbs {l : List Nat} {q : Nat} (hl : Nrm l) (h : val l = q) (hq : q ≤ 9007199254740992) : l.length ≤ 2 := by
  have := hl.len (k := 54) (by rw [h]; omega)
  omega

theorem or_zero (x : Nat) (hx : x < 18446744073709551616) : bits .or .u64 0 (x : Int) = (x : Int) := by
  have := bits_or_u64_nat 0 x (by decide) hx
  rw [Nat.zero_or] at this; exact this
theorem or_zero' (x : Int) (h0 : 0 ≤ x) (h1 : x ≤ 18446744073709551615) : bits .or .u64 x 0 = x := by
  obtain ⟨n, rfl⟩ := Int.eq_ofNat_of_zero_le h0
  have := bits_or_u64_nat n 0 (by omega) (by decide)
  rw [Nat.or_zero] at this; exact this
theorem or_sign2 (x : Int) (h0 : 0 ≤ x) (h1 : x < 9223372036854775808) : bits .or .u64 x 9223372036854775808 = x + 9223372036854775808 := by
  obtain ⟨a, rfl⟩ := Int.eq_ofNat_of_zero_le h0
  have ha : a < 2 ^ 63 := by omega
  have h := bits_or_u64_nat a 9223372036854775808 (by omega) (by decide)
  rw [show ((9223372036854775808 : Nat) : Int) = 9223372036854775808 from rfl] at h
  rw [h, Nat.or_comm]
  have := Nat.two_pow_add_eq_or_of_lt ha 1
  rw [show (2 ^ 63 * 1 : Nat) = 9223372036854775808 by decide] at this
  rw [← this]; omega
theorem u64_wraps2 (n : Int) (h0 : 0 ≤ n) (h1 : n < 2 ^ 64) : IntKind.u64.wrap n = n := IntWalk.u64_in n ⟨h0, by omega⟩
theorem and_frac2 (x : Int) (h0 : 0 ≤ x) (h1 : x ≤ 18446744073709551615) : bits .and .u64 x 4503599627370495 = x % 4503599627370496 :=
  bits_mask .u64 64 (by decide) u64_wraps2 52 (by decide) x h0 (by omega)
theorem or_frac2 (e x : Int) (he : 0 ≤ e) (he1 : e ≤ 4095) (h0 : 0 ≤ x) (h1 : x < 4503599627370496) : bits .or .u64 (e * 4503599627370496) x = e * 4503599627370496 + x :=
  bits_join .u64 64 (by decide) u64_wraps2 52 _ _ (by omega) (by omega) (by omega) h0 (by omega) (by omega)

set_option maxHeartbeats 16000000 in
set_option maxRecDepth 100000 in
theorem number_any (v : Value) (d : D) (k0 : Nat) (mode : Int) (w : World) (hd : DV w v d) (hm : d.m < 2 ^ k0) (hk0 : k0 ≤ 16000000000000) (e0 : -16000000000000 ≤ d.e) (e1 : d.e ≤ 16000000000000) (hz : d.m = 0 → d.e ≤ 1000) (h0 : 0 ≤ mode) (h1 : mode ≤ 4) :
    Calls Tryz.prog 30 #[v, .int .i64 mode] w fun e w' => e = .returned (.tuple #[.int .u64 (numR d mode), .bool (numC d)]) ∧ Below w.heap.size w w' := by
  obtain ⟨s, rfl, hs⟩ := hd
  obtain ⟨ao, n, c, rfl⟩ := hs.shape
  obtain ⟨F1, F2, F3⟩ := fin_num h0 h1 hz
  rw [← F1, ← F2]
  clear F1 F2
  obtain ⟨neg, m, e⟩ := d
  simp only at hm e0 e1 hz hs F3 ⊢
  have hbl : blen m ≤ k0 := by
    rcases Nat.lt_or_ge k0 (blen m) with h | h
    · exfalso
      have hne : m ≠ 0 := by intro h2; rw [h2] at h; simp [blen] at h
      have := bl_le hne
      rw [blen_eq] at h
      have h3 : 2 ^ k0 ≤ 2 ^ (bl m - 1) := Nat.pow_le_pow_right (by decide) (by omega)
      omega
    · exact h
  have hK : kk m e = max ((blen m : Int) + e - 53) (-1074) := rfl
  have hS : ss m e = kk m e - e := rfl
  rw [hS] at F3 ⊢
  have hkb : -1074 ≤ kk m e ∧ kk m e ≤ 32000000000000 ∧ kk m e - e ≤ 36000000000000 ∧ -36000000000000 ≤ kk m e - e := by rw [hK]; omega
  obtain ⟨hkb1, hkb2, hkb3, hkb4⟩ := hkb
  generalize kk m e = K at *
  have HM := Lib.hid hm
  have HS := Lib.hid hs
  have HK := Lib.hid hK
  clear hm hs hK hS hz
  generalize hQ : cutM neg m (K - e) mode = q at *
  have HQ := Lib.hid hQ
  clear hQ
  generalize hC : cutC m (K - e) = cc at *
  have HC := Lib.hid hC
  clear hC
  go_enter Tryz.func30, Tryz.ntmps30
  go_wp2
  go_quiet ((go_at_call 59; exact quiet_first (natLen_any _ m k0 _ (NV.drewN (NV.alloc HS.out _) _) HM.out (by omega))))
  rw [← HK.out]
  go_wp2_with fail
  refine (cut_any neg _ m k0 (K - e) mode _ (NV.drewN (NV.alloc HS.out _) _) HM.out (by omega) (by omega) (by omega) h0 h1).mono ?_
  rintro r w1 ⟨vq, rfl, hvq, hb⟩
  rw [HC.out]
  rw [HQ.out] at hvq
  have hb2 := below_of_drewN hb
  obtain ⟨q0, q1, q2, f0, f1, f2⟩ := cells3 hb2
  have hbw : Below w.heap.size w w1 := ((Below.refl _ _).alloc (Nat.le_refl _) _).trans (hb2.mono (by simp))
  have HBW := Lib.hid hbw
  clear hb hb2 hbw
  obtain ⟨l, hl, el, -, ao2, cap2, rfl, hc2, hm2, hA⟩ := hvq
  have hl2 := two_limbs hl el F3
  have EL := Lib.hid el
  unfold maxLen at hm2
  clear el
  have hlen : l.length = 0 ∨ (∃ x, l = [x]) ∨ (∃ x y, l = [x, y]) := by
    match l, hl2 with
    | [], _ => left; rfl
    | [x], _ => right; left; exact ⟨x, rfl⟩
    | [x, y], _ => right; right; exact ⟨x, y, rfl⟩
  have hcell : l.length ≤ 0 ∨ ∃ b2 o2, ao2 = some ⟨b2, o2, none⟩ ∧ ∀ i, i < l.length → w1.cell? ⟨b2, o2 + i, none⟩ = some (.int .u32 ((l.getD i 0 : Nat) : Int)) := by
    rcases hA with hA | ⟨b2, o2, g1, _, g2⟩
    · exact Or.inl hA
    · exact Or.inr ⟨b2, o2, g1, g2⟩
  clear hA
  have hlims := hl.1
  rcases hcell with hcell | ⟨b2, o2, rfl, hcell⟩
  all_goals
    have HL := Lib.hid hlen
    clear hlen
    go_wp2
    go_loop [9, 37] (fun v i => ∃ k N : Nat, k ≤ l.length ∧ i = .int .i64 k ∧ v = .int .u64 ((N : Nat) : Int) ∧ N = val (l.take k)) (fun _ i => l.length - (intOf i).toNat)
    case atStart => exact ⟨0, 0, Nat.zero_le _, rfl, rfl, rfl⟩
    case round =>
      obtain ⟨k, N, hk, rfl, rfl, hN⟩ := hrel
      have HN := Lib.hid hN
      clear hN
      by_cases hkp : k < l.length
      · first
          | (exfalso; omega)
          | (obtain ⟨x, hx⟩ : ∃ x, x = l.getD k 0 := ⟨_, rfl⟩
             have hx1 : x < 4294967296 := by rw [hx]; exact hlims.getD k
             have hcx := hcell k hkp
             rw [← hx] at hcx
             have HX := Lib.hid hx
             have HC2 := Lib.hid hcell
             clear hx hcell
             have hk01 : k = 0 ∨ k = 1 := by omega
             rcases hk01 with rfl | rfl
             · obtain rfl : N = 0 := HN.out
               rw [Nat.add_zero] at hcx
               have e3 := or_zero x (by omega)
               go_wp2
               go_round
               case rel => exact ⟨1, x, by omega, by go_num, by simp, by rw [show (1 : Nat) = 0 + 1 from rfl, val_take_succ l 0 hkp, HX.out]; simp [List.getD, hkp, val]⟩
               case measure => simp [intOf]; omega
             · have hN1 : N < 4294967296 := by
                 rw [HN.out]; have := val_lt (hlims.take 1); rw [List.length_take] at this
                 have h4 : 2 ^ (32 * min 1 l.length) ≤ 2 ^ 32 := Nat.pow_le_pow_right (by decide) (by omega)
                 omega
               have e3 := or_high N x hN1 hx1
               go_wp2
               go_round
               case rel => exact ⟨2, N + x * 4294967296, by omega, by go_num, by simp, by rw [show (2 : Nat) = 1 + 1 from rfl, val_take_succ l 1 hkp, ← HN.out, HX.out]; simp [List.getD, hkp]; omega⟩
               case measure => simp [intOf]; omega)
      · have hNq : N = q := by rw [HN.out, List.take_of_length_le (by omega), EL.out]
        subst hNq
        clear HN
        try clear hcell
        have hNb : N ≤ 9007199254740992 := F3
        have hmode : mode = 0 ∨ mode = 1 ∨ mode = 2 ∨ mode = 3 ∨ mode = 4 := by omega
        cases neg
        · by_cases hn : N = 9007199254740992
          · subst hn
            by_cases hk : 971 < K + 1
            · skip
              rcases hmode with rfl | rfl | rfl | rfl | rfl
              · have FR : Hid (finR false 9007199254740992 K 0 = 9218868437227405312) := by show finR false 9007199254740992 K 0 = 9218868437227405312; unfold finR finK finN awayB; simp only [if_true]; rw [if_pos (by omega)]; simp
                have FC : Hid (finC 9007199254740992 K cc = true) := by show finC 9007199254740992 K cc = true; unfold finC finK; simp; omega
                have a1 : bits .or .u64 9218868437227405312 0 = 9218868437227405312 := by decide
                go_wp2
                go_ret2
                exact ⟨by rw [FR.out, FC.out]; rfl, HBW.out⟩
              · have FR : Hid (finR false 9007199254740992 K 1 = 9218868437227405312) := by show finR false 9007199254740992 K 1 = 9218868437227405312; unfold finR finK finN awayB; simp only [if_true]; rw [if_pos (by omega)]; simp
                have FC : Hid (finC 9007199254740992 K cc = true) := by show finC 9007199254740992 K cc = true; unfold finC finK; simp; omega
                have a1 : bits .or .u64 9218868437227405312 0 = 9218868437227405312 := by decide
                go_wp2
                go_ret2
                exact ⟨by rw [FR.out, FC.out]; rfl, HBW.out⟩
              · have FR : Hid (finR false 9007199254740992 K 2 = 9218868437227405311) := by show finR false 9007199254740992 K 2 = 9218868437227405311; unfold finR finK finN awayB; simp only [if_true]; rw [if_pos (by omega)]; simp
                have FC : Hid (finC 9007199254740992 K cc = true) := by show finC 9007199254740992 K cc = true; unfold finC finK; simp; omega
                have a1 : bits .or .u64 9218868437227405311 0 = 9218868437227405311 := by decide
                go_wp2
                go_ret2
                exact ⟨by rw [FR.out, FC.out]; rfl, HBW.out⟩
              · have FR : Hid (finR false 9007199254740992 K 3 = 9218868437227405311) := by show finR false 9007199254740992 K 3 = 9218868437227405311; unfold finR finK finN awayB; simp only [if_true]; rw [if_pos (by omega)]; simp
                have FC : Hid (finC 9007199254740992 K cc = true) := by show finC 9007199254740992 K cc = true; unfold finC finK; simp; omega
                have a1 : bits .or .u64 9218868437227405311 0 = 9218868437227405311 := by decide
                go_wp2
                go_ret2
                exact ⟨by rw [FR.out, FC.out]; rfl, HBW.out⟩
              · have FR : Hid (finR false 9007199254740992 K 4 = 9218868437227405312) := by show finR false 9007199254740992 K 4 = 9218868437227405312; unfold finR finK finN awayB; simp only [if_true]; rw [if_pos (by omega)]; simp
                have FC : Hid (finC 9007199254740992 K cc = true) := by show finC 9007199254740992 K cc = true; unfold finC finK; simp; omega
                have a1 : bits .or .u64 9218868437227405312 0 = 9218868437227405312 := by decide
                go_wp2
                go_ret2
                exact ⟨by rw [FR.out, FC.out]; rfl, HBW.out⟩
            · have FR : Hid (finR false 9007199254740992 K mode = (K + 1 + 1075) * 4503599627370496) := by show finR false 9007199254740992 K mode = _; unfold finR finK finN; simp only [if_true]; rw [if_neg (by omega), if_neg (by omega)]; simp
              have FC : Hid (finC 9007199254740992 K cc = cc) := by show finC 9007199254740992 K cc = cc; unfold finC finK; simp; omega
              have a0 : bits .and .u64 4503599627370496 4503599627370495 = 0 := by decide
              have a2 := or_zero' ((K + 1 + 1075) * 4503599627370496) (by omega) (by omega)
              go_wp2
              go_ret2
              exact ⟨by rw [FR.out, FC.out]; rfl, HBW.out⟩
          · have hn2 : N < 9007199254740992 := by omega
            have hn3 : ((N : Int) == 9007199254740992) = false := by rw [beq_eq_false_iff_ne]; omega
            by_cases hk : 971 < K
            · skip
              rcases hmode with rfl | rfl | rfl | rfl | rfl
              · have FR : Hid (finR false N K 0 = 9218868437227405312) := by show finR false N K 0 = 9218868437227405312; unfold finR finK finN awayB; rw [if_neg hn, if_pos (by omega)]; simp
                have FC : Hid (finC N K cc = true) := by show finC N K cc = true; unfold finC finK; rw [if_neg hn]; simp; omega
                have a1 : bits .or .u64 9218868437227405312 0 = 9218868437227405312 := by decide
                go_wp2
                go_ret2
                exact ⟨by rw [FR.out, FC.out]; rfl, HBW.out⟩
              · have FR : Hid (finR false N K 1 = 9218868437227405312) := by show finR false N K 1 = 9218868437227405312; unfold finR finK finN awayB; rw [if_neg hn, if_pos (by omega)]; simp
                have FC : Hid (finC N K cc = true) := by show finC N K cc = true; unfold finC finK; rw [if_neg hn]; simp; omega
                have a1 : bits .or .u64 9218868437227405312 0 = 9218868437227405312 := by decide
                go_wp2
                go_ret2
                exact ⟨by rw [FR.out, FC.out]; rfl, HBW.out⟩
              · have FR : Hid (finR false N K 2 = 9218868437227405311) := by show finR false N K 2 = 9218868437227405311; unfold finR finK finN awayB; rw [if_neg hn, if_pos (by omega)]; simp
                have FC : Hid (finC N K cc = true) := by show finC N K cc = true; unfold finC finK; rw [if_neg hn]; simp; omega
                have a1 : bits .or .u64 9218868437227405311 0 = 9218868437227405311 := by decide
                go_wp2
                go_ret2
                exact ⟨by rw [FR.out, FC.out]; rfl, HBW.out⟩
              · have FR : Hid (finR false N K 3 = 9218868437227405311) := by show finR false N K 3 = 9218868437227405311; unfold finR finK finN awayB; rw [if_neg hn, if_pos (by omega)]; simp
                have FC : Hid (finC N K cc = true) := by show finC N K cc = true; unfold finC finK; rw [if_neg hn]; simp; omega
                have a1 : bits .or .u64 9218868437227405311 0 = 9218868437227405311 := by decide
                go_wp2
                go_ret2
                exact ⟨by rw [FR.out, FC.out]; rfl, HBW.out⟩
              · have FR : Hid (finR false N K 4 = 9218868437227405312) := by show finR false N K 4 = 9218868437227405312; unfold finR finK finN awayB; rw [if_neg hn, if_pos (by omega)]; simp
                have FC : Hid (finC N K cc = true) := by show finC N K cc = true; unfold finC finK; rw [if_neg hn]; simp; omega
                have a1 : bits .or .u64 9218868437227405312 0 = 9218868437227405312 := by decide
                go_wp2
                go_ret2
                exact ⟨by rw [FR.out, FC.out]; rfl, HBW.out⟩
            · by_cases hs : N < 4503599627370496
              · have FR : Hid (finR false N K mode = (N : Int)) := by show finR false N K mode = _; unfold finR finK finN; rw [if_neg hn, if_neg hn, if_neg (by omega), if_pos hs]; simp
                have FC : Hid (finC N K cc = cc) := by show finC N K cc = cc; unfold finC finK; rw [if_neg hn]; simp; omega
                have a2 := or_zero' (N : Int) (by omega) (by omega)
                have hs2 : (N : Int) < 4503599627370496 := by omega
                have hn4 : (N : Int) < 9007199254740992 := by omega
                clear hn hs hn2 hNb F3
                go_wp2
                go_ret2
                exact ⟨by rw [FR.out, FC.out]; rfl, HBW.out⟩
              · obtain ⟨r, hr⟩ : ∃ r : Int, r = (N : Int) % 4503599627370496 := ⟨_, rfl⟩
                have hr0 : 0 ≤ r := by omega
                have hr1 : r < 4503599627370496 := by omega
                have FR : Hid (finR false N K mode = (K + 1075) * 4503599627370496 + r) := by show finR false N K mode = _; unfold finR finK finN; rw [if_neg hn, if_neg hn, if_neg (by omega), if_neg hs, hr]; simp
                have FC : Hid (finC N K cc = cc) := by show finC N K cc = cc; unfold finC finK; rw [if_neg hn]; simp; omega
                have a0 := and_frac2 (N : Int) (by omega) (by omega)
                rw [← hr] at a0
                have a2 := or_frac2 (K + 1075) r (by omega) (by omega) hr0 hr1
                have a3 := or_zero' ((K + 1075) * 4503599627370496 + r) (by omega) (by omega)
                have hs2 : (4503599627370496 : Int) ≤ (N : Int) := by omega
                have hn4 : (N : Int) < 9007199254740992 := by omega
                have hs3 : ¬ (N : Int) < 4503599627370496 := by omega
                clear hn hs hn2 hNb F3 hr
                generalize hz : (N : Int) = z at *
                clear hz
                go_wp2
                go_ret2
                exact ⟨by rw [FR.out, FC.out]; rfl, HBW.out⟩
        · by_cases hn : N = 9007199254740992
          · subst hn
            by_cases hk : 971 < K + 1
            · skip
              rcases hmode with rfl | rfl | rfl | rfl | rfl
              · have FR : Hid (finR true 9007199254740992 K 0 = 18442240474082181120) := by show finR true 9007199254740992 K 0 = 18442240474082181120; unfold finR finK finN awayB; simp only [if_true]; rw [if_pos (by omega)]; simp
                have FC : Hid (finC 9007199254740992 K cc = true) := by show finC 9007199254740992 K cc = true; unfold finC finK; simp; omega
                have a1 : bits .or .u64 9218868437227405312 9223372036854775808 = 18442240474082181120 := by decide
                go_wp2
                go_ret2
                exact ⟨by rw [FR.out, FC.out]; rfl, HBW.out⟩
              · have FR : Hid (finR true 9007199254740992 K 1 = 18442240474082181119) := by show finR true 9007199254740992 K 1 = 18442240474082181119; unfold finR finK finN awayB; simp only [if_true]; rw [if_pos (by omega)]; simp
                have FC : Hid (finC 9007199254740992 K cc = true) := by show finC 9007199254740992 K cc = true; unfold finC finK; simp; omega
                have a1 : bits .or .u64 9218868437227405311 9223372036854775808 = 18442240474082181119 := by decide
                go_wp2
                go_ret2
                exact ⟨by rw [FR.out, FC.out]; rfl, HBW.out⟩
              · have FR : Hid (finR true 9007199254740992 K 2 = 18442240474082181120) := by show finR true 9007199254740992 K 2 = 18442240474082181120; unfold finR finK finN awayB; simp only [if_true]; rw [if_pos (by omega)]; simp
                have FC : Hid (finC 9007199254740992 K cc = true) := by show finC 9007199254740992 K cc = true; unfold finC finK; simp; omega
                have a1 : bits .or .u64 9218868437227405312 9223372036854775808 = 18442240474082181120 := by decide
                go_wp2
                go_ret2
                exact ⟨by rw [FR.out, FC.out]; rfl, HBW.out⟩
              · have FR : Hid (finR true 9007199254740992 K 3 = 18442240474082181119) := by show finR true 9007199254740992 K 3 = 18442240474082181119; unfold finR finK finN awayB; simp only [if_true]; rw [if_pos (by omega)]; simp
                have FC : Hid (finC 9007199254740992 K cc = true) := by show finC 9007199254740992 K cc = true; unfold finC finK; simp; omega
                have a1 : bits .or .u64 9218868437227405311 9223372036854775808 = 18442240474082181119 := by decide
                go_wp2
                go_ret2
                exact ⟨by rw [FR.out, FC.out]; rfl, HBW.out⟩
              · have FR : Hid (finR true 9007199254740992 K 4 = 18442240474082181120) := by show finR true 9007199254740992 K 4 = 18442240474082181120; unfold finR finK finN awayB; simp only [if_true]; rw [if_pos (by omega)]; simp
                have FC : Hid (finC 9007199254740992 K cc = true) := by show finC 9007199254740992 K cc = true; unfold finC finK; simp; omega
                have a1 : bits .or .u64 9218868437227405312 9223372036854775808 = 18442240474082181120 := by decide
                go_wp2
                go_ret2
                exact ⟨by rw [FR.out, FC.out]; rfl, HBW.out⟩
            · have FR : Hid (finR true 9007199254740992 K mode = (K + 1 + 1075) * 4503599627370496 + 9223372036854775808) := by show finR true 9007199254740992 K mode = _; unfold finR finK finN; simp only [if_true]; rw [if_neg (by omega), if_neg (by omega)]; simp
              have FC : Hid (finC 9007199254740992 K cc = cc) := by show finC 9007199254740992 K cc = cc; unfold finC finK; simp; omega
              have a0 : bits .and .u64 4503599627370496 4503599627370495 = 0 := by decide
              have a2 := or_zero' ((K + 1 + 1075) * 4503599627370496) (by omega) (by omega)
              have a3 := or_sign2 ((K + 1 + 1075) * 4503599627370496) (by omega) (by omega)
              go_wp2
              go_ret2
              exact ⟨by rw [FR.out, FC.out]; rfl, HBW.out⟩
          · have hn2 : N < 9007199254740992 := by omega
            have hn3 : ((N : Int) == 9007199254740992) = false := by rw [beq_eq_false_iff_ne]; omega
            by_cases hk : 971 < K
            · skip
              rcases hmode with rfl | rfl | rfl | rfl | rfl
              · have FR : Hid (finR true N K 0 = 18442240474082181120) := by show finR true N K 0 = 18442240474082181120; unfold finR finK finN awayB; rw [if_neg hn, if_pos (by omega)]; simp
                have FC : Hid (finC N K cc = true) := by show finC N K cc = true; unfold finC finK; rw [if_neg hn]; simp; omega
                have a1 : bits .or .u64 9218868437227405312 9223372036854775808 = 18442240474082181120 := by decide
                go_wp2
                go_ret2
                exact ⟨by rw [FR.out, FC.out]; rfl, HBW.out⟩
              · have FR : Hid (finR true N K 1 = 18442240474082181119) := by show finR true N K 1 = 18442240474082181119; unfold finR finK finN awayB; rw [if_neg hn, if_pos (by omega)]; simp
                have FC : Hid (finC N K cc = true) := by show finC N K cc = true; unfold finC finK; rw [if_neg hn]; simp; omega
                have a1 : bits .or .u64 9218868437227405311 9223372036854775808 = 18442240474082181119 := by decide
                go_wp2
                go_ret2
                exact ⟨by rw [FR.out, FC.out]; rfl, HBW.out⟩
              · have FR : Hid (finR true N K 2 = 18442240474082181120) := by show finR true N K 2 = 18442240474082181120; unfold finR finK finN awayB; rw [if_neg hn, if_pos (by omega)]; simp
                have FC : Hid (finC N K cc = true) := by show finC N K cc = true; unfold finC finK; rw [if_neg hn]; simp; omega
                have a1 : bits .or .u64 9218868437227405312 9223372036854775808 = 18442240474082181120 := by decide
                go_wp2
                go_ret2
                exact ⟨by rw [FR.out, FC.out]; rfl, HBW.out⟩
              · have FR : Hid (finR true N K 3 = 18442240474082181119) := by show finR true N K 3 = 18442240474082181119; unfold finR finK finN awayB; rw [if_neg hn, if_pos (by omega)]; simp
                have FC : Hid (finC N K cc = true) := by show finC N K cc = true; unfold finC finK; rw [if_neg hn]; simp; omega
                have a1 : bits .or .u64 9218868437227405311 9223372036854775808 = 18442240474082181119 := by decide
                go_wp2
                go_ret2
                exact ⟨by rw [FR.out, FC.out]; rfl, HBW.out⟩
              · have FR : Hid (finR true N K 4 = 18442240474082181120) := by show finR true N K 4 = 18442240474082181120; unfold finR finK finN awayB; rw [if_neg hn, if_pos (by omega)]; simp
                have FC : Hid (finC N K cc = true) := by show finC N K cc = true; unfold finC finK; rw [if_neg hn]; simp; omega
                have a1 : bits .or .u64 9218868437227405312 9223372036854775808 = 18442240474082181120 := by decide
                go_wp2
                go_ret2
                exact ⟨by rw [FR.out, FC.out]; rfl, HBW.out⟩
            · by_cases hs : N < 4503599627370496
              · have FR : Hid (finR true N K mode = (N : Int) + 9223372036854775808) := by show finR true N K mode = _; unfold finR finK finN; rw [if_neg hn, if_neg hn, if_neg (by omega), if_pos hs]; simp
                have FC : Hid (finC N K cc = cc) := by show finC N K cc = cc; unfold finC finK; rw [if_neg hn]; simp; omega
                have a2 := or_sign2 (N : Int) (by omega) (by omega)
                have hs2 : (N : Int) < 4503599627370496 := by omega
                have hn4 : (N : Int) < 9007199254740992 := by omega
                clear hn hs hn2 hNb F3
                go_wp2
                go_ret2
                exact ⟨by rw [FR.out, FC.out]; rfl, HBW.out⟩
              · obtain ⟨r, hr⟩ : ∃ r : Int, r = (N : Int) % 4503599627370496 := ⟨_, rfl⟩
                have hr0 : 0 ≤ r := by omega
                have hr1 : r < 4503599627370496 := by omega
                have FR : Hid (finR true N K mode = (K + 1075) * 4503599627370496 + r + 9223372036854775808) := by show finR true N K mode = _; unfold finR finK finN; rw [if_neg hn, if_neg hn, if_neg (by omega), if_neg hs, hr]; simp
                have FC : Hid (finC N K cc = cc) := by show finC N K cc = cc; unfold finC finK; rw [if_neg hn]; simp; omega
                have a0 := and_frac2 (N : Int) (by omega) (by omega)
                rw [← hr] at a0
                have a2 := or_frac2 (K + 1075) r (by omega) (by omega) hr0 hr1
                have a3 := or_sign2 ((K + 1075) * 4503599627370496 + r) (by omega) (by omega)
                have hs2 : (4503599627370496 : Int) ≤ (N : Int) := by omega
                have hn4 : (N : Int) < 9007199254740992 := by omega
                have hs3 : ¬ (N : Int) < 4503599627370496 := by omega
                clear hn hs hn2 hNb F3 hr
                generalize hz : (N : Int) = z at *
                clear hz
                go_wp2
                go_ret2
                exact ⟨by rw [FR.out, FC.out]; rfl, HBW.out⟩
end Go.Proofs.YtofdjfdnckmmmaaGreatDoor

/-
  THE WALKS of dyad.bounds, dyad.Check, dyad.Sign: of any struct.
-/
namespace Go.Proofs.YtofdjfdnckmmmaaGreatDoor
open Go.RowKit Nt Fm

/-- the struct value v has these fields -/
def SV (w : World) (v : Value) (neg : Bool) (l : List Nat) (e : Int) : Prop := ∃ s, v = .agg #[.bool neg, s, .int .i64 e] ∧ Lim w s l
theorem SV.below {w w' : World} {v : Value} {neg : Bool} {l : List Nat} {e : Int} (h : SV w v neg l e) (hb : Below w.heap.size w w') : SV w' v neg l e := by
  obtain ⟨s, h1, h2⟩ := h; exact ⟨s, h1, h2.below hb⟩
def chkB (l : List Nat) (e : Int) : Int := if 400 < l.length ∨ e < -10000 ∨ 10000 < e then 2 else 0
def chkE (neg : Bool) (l : List Nat) (e : Int) : Int :=
  if 400 < l.length ∨ e < -10000 ∨ 10000 < e then 2 else if l.length = 0 then (if e ≠ 0 ∨ neg = true then 3 else 0) else if l.getD (l.length - 1) 0 = 0 ∨ l.getD 0 0 % 2 = 0 then 3 else 0

theorem lt_pow {n a b : Nat} (h : n < 2 ^ a) (hab : a ≤ b) : n < 2 ^ b := Nat.lt_of_lt_of_le h (Nat.pow_le_pow_right (by decide) hab)
theorem chkE_form {neg : Bool} {l : List Nat} {e : Int} (hl : Lims l) (h : chkE neg l e = 0) : Nrm l ∧ l.length ≤ 400 ∧ -10000 ≤ e ∧ e ≤ 10000 ∧ (⟨neg, val l, e⟩ : D).Nf ∧ val l < 2 ^ 12800 ∧ (val l = 0 → l = []) := by
  have hbd : l.length ≤ 400 → val l < 2 ^ 12800 := fun h => by
    have h2 : 32 * l.length ≤ 12800 := by omega
    exact @lt_pow (val l) (32 * l.length) 12800 (val_lt hl) h2
  unfold chkE at h
  split at h
  · omega
  · rename_i h1
    have hv := hbd (by omega)
    clear hbd
    split at h
    · rename_i h2
      have := List.length_eq_zero_iff.1 h2; subst this
      split at h
      · omega
      · rename_i h3
        have e1 : e = 0 := by omega
        have e2 : neg = false := by
          cases neg
          · rfl
          · exact absurd (Or.inr rfl) h3
        subst e1 e2
        exact ⟨Nrm.nil, by simp, by omega, by omega, Or.inl rfl, hv, fun _ => rfl⟩
    · rename_i h2
      split at h
      · omega
      · rename_i h3
        have hn : Nrm l := by
          refine ⟨hl, ?_⟩
          rw [List.getLast?_eq_getElem?]
          intro h4
          apply h3; left
          rw [List.getD, h4]; rfl
        refine ⟨hn, by omega, by omega, by omega, Or.inr ?_, ?_, val_eq_zero hn⟩
        · have h5 : l.getD 0 0 % 2 = 1 := by omega
          cases l with
          | nil => simp at h2
          | cons d l => simp only [val]; simp at h5; omega
        · exact hv

/-- what is in order reads as an exact number -/
theorem SV.dv {w : World} {v : Value} {neg : Bool} {l : List Nat} {e : Int} (h : SV w v neg l e) (hc : chkE neg l e = 0) : DV w v ⟨neg, val l, e⟩ := by
  obtain ⟨s, h1, h2⟩ := h
  exact ⟨s, h1, l, (chkE_form h2.1 hc).1, rfl, h2⟩



theorem sign_any (v : Value) (d : D) (w : World) (h : DV w v d) :
    Calls Tryz.prog 201 #[v] w fun r w' => r = .returned (.int .i64 (sign d)) ∧ Below w.heap.size w w' := by
  obtain ⟨neg, m, e⟩ := d
  obtain ⟨s, rfl, l, hn, hv, hl, ao, cap, rfl, hcap, hm, hc⟩ := h
  simp only at hv
  subst hv
  unfold maxLen at hm
  clear hc
  have hcases : (l.length = 0 ∧ sign ⟨neg, val l, e⟩ = 0) ∨ (1 ≤ l.length ∧ neg = true ∧ sign ⟨neg, val l, e⟩ = -1) ∨ (1 ≤ l.length ∧ neg = false ∧ sign ⟨neg, val l, e⟩ = 1) := by
    by_cases h0 : l.length = 0
    · left; refine ⟨h0, ?_⟩; rw [List.length_eq_zero_iff.1 h0]; rfl
    · have hz : val l ≠ 0 := fun h => h0 (by rw [val_eq_zero hn h]; rfl)
      right; cases neg
      · right; exact ⟨by omega, rfl, by simp [sign, hz]⟩
      · left; exact ⟨by omega, rfl, by simp [sign, hz]⟩
  generalize sign ⟨neg, val l, e⟩ = S at *
  rcases hcases with ⟨h0, rfl⟩ | ⟨h0, rfl, rfl⟩ | ⟨h0, rfl, rfl⟩
  all_goals
    go_enter Tryz.func201, Tryz.ntmps201
    go_wp2
    go_ret
    exact ⟨rfl, (Below.refl _ _).alloc (Nat.le_refl _) _⟩
end Go.Proofs.YtofdjfdnckmmmaaGreatDoor

/-
  THE WALKS of round.To, round.Beside.
-/
namespace Go.Proofs.YtofdjfdnckmmmaaGreatDoor
open Go.RowKit Nt Fm

def roE (c mode : Int) : Int := if c = 0 then (if mode < 0 ∨ 4 < mode then 1 else 0) else c
def roV (c mode : Int) (d : D) : Int := if roE c mode = 0 then numR d mode else 0
def roC (c mode : Int) (d : D) : Bool := if roE c mode = 0 then numC d else false

theorem nf_e {d : D} (h : d.Nf) (hz : d.m = 0) : d.e ≤ 1000 := by
  rcases h with rfl | h
  · show (0 : Int) ≤ 1000; decide
  · omega

end Go.Proofs.YtofdjfdnckmmmaaGreatDoor

/-
  EXACT NUMBERS that are handed in, or told: what Check says of them; dyad.check, dyad.bounded.
-/
namespace Go.Proofs.YtofdjfdnckmmmaaGreatDoor
open Go.RowKit Nt Fm

/-- in its form, and within the bounds -/
def Fit (d : D) : Prop := d.Nf ∧ d.m < 2 ^ 12800 ∧ -10000 ≤ d.e ∧ d.e ≤ 10000
/-- the struct v: Check says c of it; if that is 0 it is the number d -/
def RD (w : World) (v : Value) (c : Int) (d : D) : Prop := ∃ g ao n cp x, v = .agg #[.bool g, .slice ao n cp, .int .i64 x] ∧ n ≤ cp ∧ cp ≤ 9223372036854775807 ∧ (∃ l, l.length = n ∧ Lim w (.slice ao n cp) l ∧ chkE g l x = c) ∧ (c = 0 → NV w (.slice ao n cp) d.m ∧ g = d.neg ∧ x = d.e ∧ Fit d) ∧ -9223372036854775808 ≤ x ∧ x ≤ 9223372036854775807
theorem Fit.nz : Fit nz := ⟨Or.inl rfl, @lt_pow 0 0 12800 (by decide) (Nat.zero_le _), by decide, by decide⟩
theorem RD.below {w w' : World} {v : Value} {c : Int} {d : D} (h : RD w v c d) (hb : Below w.heap.size w w') : RD w' v c d := by
  obtain ⟨g, ao, n, cp, x, h1, h2, h3, ⟨l, h4, h5, h6⟩, h7, h8⟩ := h
  exact ⟨g, ao, n, cp, x, h1, h2, h3, ⟨l, h4, h5.below hb, h6⟩, fun hc => ⟨(h7 hc).1.below hb, (h7 hc).2⟩, h8⟩
theorem RD.dv {w : World} {v : Value} {d : D} (h : RD w v 0 d) : DV w v d := by
  obtain ⟨g, ao, n, cp, x, h1, h2, h3, -, h7, -⟩ := h
  obtain ⟨h8, rfl, rfl, -⟩ := h7 rfl
  exact ⟨_, h1, h8⟩
theorem RD.fit {w : World} {v : Value} {d : D} (h : RD w v 0 d) : Fit d := by
  obtain ⟨g, ao, n, cp, x, h1, h2, h3, -, h7, -⟩ := h
  exact (h7 rfl).2.2.2
theorem SV.rd {w : World} {v : Value} {g : Bool} {l : List Nat} {x : Int} (h : SV w v g l x) (h0 : -9223372036854775808 ≤ x) (h1 : x ≤ 9223372036854775807) : RD w v (chkE g l x) ⟨g, val l, x⟩ := by
  obtain ⟨s, rfl, hl⟩ := h
  have hl' := hl
  obtain ⟨a1, ao, cp, rfl, a2, a3, a4⟩ := hl
  unfold maxLen at a3
  refine ⟨g, ao, l.length, cp, x, rfl, a2, by omega, ⟨l, rfl, hl', rfl⟩, fun hc => ?_, h0, h1⟩
  have hf := chkE_form a1 hc
  exact ⟨hl'.nrm hf.1, rfl, rfl, hf.2.2.2.2.1, hf.2.2.2.2.2.1, hf.2.2.1, hf.2.2.2.1⟩
theorem chkE_fit {d : D} {l : List Nat} (hl : Nrm l) (hv : val l = d.m) (hf : Fit d) : chkE d.neg l d.e = 0 := by
  obtain ⟨h1, h2, h3, h4⟩ := hf
  rw [← hv] at h2
  have hlen : l.length ≤ 400 := by
    have := hl.len h2; omega
  unfold chkE
  rw [if_neg (by omega)]
  by_cases h0 : l.length = 0
  · rw [if_pos h0]
    have hm : d.m = 0 := by rw [← hv, List.length_eq_zero_iff.1 h0]; rfl
    rcases h1 with h1 | h1
    · rw [h1]; decide
    · omega
  · rw [if_neg h0, if_neg]
    intro h
    rcases h with h | h
    · apply hl.2
      have hlt : l.length - 1 < l.length := by omega
      have e : l.getD (l.length - 1) 0 = l[l.length - 1] := by simp [List.getD, hlt]
      rw [List.getLast?_eq_getElem?, List.getElem?_eq_getElem hlt, ← e, h]
    · have hodd : d.m % 2 = 1 := by
        rcases h1 with h1 | h1
        · exfalso; rw [h1] at hv
          exact h0 (by rw [val_eq_zero hl hv]; rfl)
        · exact h1
      rw [← hv] at hodd
      cases l with
      | nil => simp at h0
      | cons a l => simp [val] at hodd h; omega
theorem rd_of {w : World} {d : D} {ao : Option Addr} {n c : Nat} (hv : NV w (.slice ao n c) d.m) (hf : Fit d) : RD w (.agg #[.bool d.neg, .slice ao n c, .int .i64 d.e]) 0 d := by
  have hv' := hv
  obtain ⟨l, h1, h2, h3⟩ := hv
  have h3' := h3
  obtain ⟨a1, ao', cp, a0, a2, a3, a4⟩ := h3
  obtain ⟨rfl, rfl, rfl⟩ : ao = ao' ∧ n = l.length ∧ c = cp := by simpa using a0
  unfold maxLen at a3
  obtain ⟨f1, f2, f3, f4⟩ := hf
  exact ⟨d.neg, _, _, _, d.e, rfl, a2, by omega, ⟨l, rfl, h3', chkE_fit h1 h2 ⟨f1, f2, f3, f4⟩⟩, fun _ => ⟨hv', rfl, rfl, f1, f2, f3, f4⟩, by omega, by omega⟩
theorem RD.zero (w : World) : RD w (.agg #[.bool false, .slice none 0 0, .int .i64 0]) 0 nz := rd_of (d := nz) (NV.nil w) Fit.nz

/-- a call that tells an exact number and an error -/
def RetR (w : World) (E : Int) (R : D) (r : Ending) (w' : World) : Prop := ∃ ao n c, r = .returned (.tuple #[.agg #[.bool R.neg, .slice ao n c, .int .i64 R.e], .int .i64 E]) ∧ NV w' (.slice ao n c) R.m ∧ Below w.heap.size w w'
def ck2 (a b : Int) : Int := if a = 0 then b else a
def fitE (d : D) : Int := if 2 ^ 12800 ≤ d.m ∨ d.e < -10000 ∨ 10000 < d.e then 2 else 0
def opE (c1 c2 : Int) (S : D) : Int := if c1 = 0 then (if c2 = 0 then fitE S else c2) else c1
def opR (c1 c2 : Int) (S : D) : D := if opE c1 c2 S = 0 then S else nz
theorem fitE_fit {d : D} (h : d.Nf) (hf : fitE d = 0) : Fit d := by
  unfold fitE at hf
  split at hf
  · omega
  · exact ⟨h, by omega, by omega, by omega⟩
theorem fitE_of {d : D} (h : Fit d) : fitE d = 0 := by
  obtain ⟨h1, h2, h3, h4⟩ := h
  unfold fitE; rw [if_neg (by omega)]
theorem chkB_fitE {d : D} {l : List Nat} (hl : Nrm l) (hv : val l = d.m) : chkB l d.e = fitE d := by
  unfold chkB fitE
  obtain ⟨K, hK⟩ : ∃ K : Nat, K = 12800 := ⟨_, rfl⟩
  rw [← hK]
  have h : 400 < l.length ↔ 2 ^ K ≤ d.m := by
    constructor
    · intro h
      have := hl.ge (l.length - 1) (by omega)
      have h2 : 2 ^ K ≤ 2 ^ (32 * (l.length - 1)) := Nat.pow_le_pow_right (by decide) (by omega)
      omega
    · intro h
      have h2 := val_lt hl.1
      rw [hv] at h2
      have h3 := (Nat.pow_lt_pow_iff_right (by decide : 1 < 2)).1 (Nat.lt_of_le_of_lt h h2)
      omega
  by_cases hc : 400 < l.length ∨ d.e < -10000 ∨ 10000 < d.e
  · rw [if_pos hc, if_pos (Or.imp h.1 id hc)]
  · rw [if_neg hc, if_neg (fun h2 => hc (Or.imp h.2 id h2))]


end Go.Proofs.YtofdjfdnckmmmaaGreatDoor

/-
  PLAIN: the rank of a rounded number.
-/
namespace Go.Proofs.YtofdjfdnckmmmaaGreatDoor
open Go.RowKit Nt Fm Fl
theorem rank_pos {n : Nat} (h : n ≤ MR) : frank (n : Int) = n ∧ frerr (n : Int) = 0 := by
  have hMR : MR = 9218868437227405312 := rfl
  unfold frank frerr fabs; omega
theorem rank_neg {n : Nat} (h : n ≤ MR) : frank ((n : Int) + 9223372036854775808) = -n ∧ frerr ((n : Int) + 9223372036854775808) = 0 := by
  have hMR : MR = 9218868437227405312 := rfl
  unfold frank frerr fabs; omega
theorem rank_numR (d : D) (mode : Int) : frank (numR d mode) = rg d.neg mode d.m d.e ∧ frerr (numR d mode) = 0 := by
  have h := numk_le_MR (kd d.neg mode) d.m d.e
  unfold numR rg
  cases d.neg
  · have := rank_pos (numk_le_MR (kd false mode) d.m d.e)
    simpa using this
  · have := rank_neg (numk_le_MR (kd true mode) d.m d.e)
    simpa using this
end Go.Proofs.YtofdjfdnckmmmaaGreatDoor

/-
  round.To of what is handed in, or told; the rank of a rounded number and the order.
-/
namespace Go.Proofs.YtofdjfdnckmmmaaGreatDoor
open Go.RowKit Nt Fm Fl

theorem roE_zero {c mode : Int} (h : roE c mode = 0) : c = 0 ∧ 0 ≤ mode ∧ mode ≤ 4 := by
  unfold roE at h
  split at h
  · split at h
    · omega
    · exact ⟨by assumption, by omega, by omega⟩
  · contradiction
theorem roV_zero {c mode : Int} (d : D) (h : roE c mode = 0) : roV c mode d = numR d mode ∧ roC c mode d = numC d := by
  unfold roV roC; rw [if_pos h, if_pos h]; exact ⟨rfl, rfl⟩
theorem roV_bd (c mode : Int) (d : D) : 0 ≤ roV c mode d ∧ roV c mode d ≤ 18446744073709551615 := by
  unfold roV
  split
  · have := numk_le_MR (kd d.neg mode) d.m d.e
    have hMR : MR = 9218868437227405312 := rfl
    unfold numR; split <;> omega
  · omega
theorem sg_vl (d : D) (t : Nat) : sg t d.neg d.m d.e = d.vl (1074 + t) := by
  unfold sg D.vl D.sm tt
  rw [show d.e + 1074 + (t : Int) = d.e + ((1074 + t : Nat) : Int) by omega]
  cases d.neg <;> simp [Int.neg_mul]
theorem rank_mono {c d : D} (mode : Int) (h : cmp c d ≤ 0) : frank (numR c mode) ≤ frank (numR d mode) := by
  rw [(rank_numR _ _).1, (rank_numR _ _).1]
  obtain ⟨t, h1, h2⟩ := exT (c.e + 1074) (d.e + 1074)
  refine rg_mono h1 h2 mode ?_
  have k1 : 0 ≤ c.e + ((1074 + t : Nat) : Int) := by omega
  have k2 : 0 ≤ d.e + ((1074 + t : Nat) : Int) := by omega
  rw [sg_vl c t, sg_vl d t]
  exact (cmp_le k1 k2).1 h
end Go.Proofs.YtofdjfdnckmmmaaGreatDoor
