/-
  SOME OF MY TEXTS in one: Rd1 RdP. Each says what it proves.
-/
import Derived.Test.YthkcbjhjhkpclaaGreatDoorNa
import Derived.Test.YthkcbjhjhkpclaaGreatDoorNat7
import Derived.Test.YthkcbjhjhkpclaaGreatDoorBa
set_option linter.unusedVariables false
set_option linter.unusedSimpArgs false
/-
  THE WALKS of package round: Known, Up, cut.
-/
namespace Go.Proofs.YthkcbjhjhkpclaaGreatDoor
open Go.RowKit Nt Fm

def knownB (mode : Int) : Bool := decide (0 ≤ mode ∧ mode ≤ 4)
theorem known_any (mode : Int) (w : World) :
    Calls Tryz.prog 46 #[.int .i64 mode] w fun e w' => e = .returned (.bool (knownB mode)) ∧ w = w' := by
  by_cases h1 : 0 ≤ mode
  · by_cases h2 : mode ≤ 4
    · have e : knownB mode = true := by unfold knownB; simp; omega
      rw [e]; clear e
      go_enter Tryz.func46, Tryz.ntmps46
      go_wp2
      go_ret
      exact ⟨rfl, rfl⟩
    · have e : knownB mode = false := by unfold knownB; simp; omega
      rw [e]; clear e
      go_enter Tryz.func46, Tryz.ntmps46
      go_wp2
      go_ret
      exact ⟨rfl, rfl⟩
  · have e : knownB mode = false := by unfold knownB; simp; omega
    rw [e]; clear e
    go_enter Tryz.func46, Tryz.ntmps46
    go_wp2
    go_ret
    exact ⟨rfl, rfl⟩

/-- is a quotient that was rounded down increased? -/
def upB (neg odd : Bool) (half mode : Int) : Bool :=
  if mode = 1 then !neg else if mode = 2 then neg else if mode = 3 then false else if mode = 4 then decide (0 ≤ half) else decide (0 < half) || (decide (half = 0) && odd)

set_option maxHeartbeats 1000000 in
theorem up_any (neg odd : Bool) (half mode : Int) (w : World) (h0 : 0 ≤ mode) (h1 : mode ≤ 4) :
    Calls Tryz.prog 139 #[.bool neg, .bool odd, .int .i64 half, .int .i64 mode] w fun e w' => e = .returned (.bool (upB neg odd half mode)) ∧ w = w' := by
  have hm : mode = 0 ∨ mode = 1 ∨ mode = 2 ∨ mode = 3 ∨ mode = 4 := by omega
  rcases hm with rfl | rfl | rfl | rfl | rfl
  · by_cases h2 : 0 < half
    · have e : upB neg odd half 0 = true := by simp [upB, h2]
      rw [e]; clear e
      go_enter Tryz.func139, Tryz.ntmps139
      go_wp2
      go_ret
      exact ⟨rfl, rfl⟩
    · by_cases h3 : half = 0
      · subst h3
        have e : upB neg odd 0 0 = odd := by simp [upB]
        rw [e]; clear e
        cases odd
        all_goals
          go_enter Tryz.func139, Tryz.ntmps139
          go_wp2
          go_ret
          exact ⟨rfl, rfl⟩
      · have e : upB neg odd half 0 = false := by simp [upB, h2, h3]
        rw [e]; clear e
        have h4 : (half == 0) = false := by simp [h3]
        go_enter Tryz.func139, Tryz.ntmps139
        go_wp2
        go_ret
        exact ⟨rfl, rfl⟩
  · have e : upB neg odd half 1 = !neg := by simp [upB]
    rw [e]; clear e
    go_enter Tryz.func139, Tryz.ntmps139
    go_wp2
    go_ret
    exact ⟨rfl, rfl⟩
  · have e : upB neg odd half 2 = neg := by simp [upB]
    rw [e]; clear e
    go_enter Tryz.func139, Tryz.ntmps139
    go_wp2
    go_ret
    exact ⟨rfl, rfl⟩
  · have e : upB neg odd half 3 = false := by simp [upB]
    rw [e]; clear e
    go_enter Tryz.func139, Tryz.ntmps139
    go_wp2
    go_ret
    exact ⟨rfl, rfl⟩
  · by_cases h2 : 0 ≤ half
    · have e : upB neg odd half 4 = true := by simp [upB, h2]
      rw [e]; clear e
      go_enter Tryz.func139, Tryz.ntmps139
      go_wp2
      go_ret
      exact ⟨rfl, rfl⟩
    · have e : upB neg odd half 4 = false := by simp [upB, h2]
      rw [e]; clear e
      go_enter Tryz.func139, Tryz.ntmps139
      go_wp2
      go_ret
      exact ⟨rfl, rfl⟩

/-- a number cut by k places, and rounded -/
def cutM (neg : Bool) (m : Nat) (k mode : Int) : Nat :=
  if k ≤ 0 then m * 2 ^ (-k).toNat
  else if m % 2 ^ k.toNat = 0 then m / 2 ^ k.toNat
  else m / 2 ^ k.toNat + if upB neg (decide (m / 2 ^ k.toNat % 2 = 1)) (sgn2 ((m % 2 ^ k.toNat : Nat) : Int) ((2 ^ (k.toNat - 1) : Nat) : Int)) mode then 1 else 0
def cutC (m : Nat) (k : Int) : Bool := decide (0 < k) && lostB m k.toNat

/-- the lowest limb tells whether it is odd -/
theorem limb_odd {w : World} {v : Value} {q : Nat} (h : NV w v q) : ∃ (ao : Option Addr) (n c : Nat), v = .slice ao n c ∧ n ≤ c ∧ c ≤ maxLen ∧
    ((n ≤ 0 ∧ q = 0) ∨ (0 < n ∧ ∃ b off d, ao = some ⟨b, off, none⟩ ∧ b < w.heap.size ∧ d < 4294967296 ∧ w.cell? ⟨b, off, none⟩ = some (.int .u32 ((d : Nat) : Int)) ∧ d % 2 = q % 2)) := by
  obtain ⟨l, h1, h2, h3, ao, cap, h4, h5, h6, h7⟩ := h
  refine ⟨ao, l.length, cap, h4, h5, h6, ?_⟩
  by_cases hl : l.length ≤ 0
  · left; refine ⟨hl, ?_⟩
    rw [← h2, List.length_eq_zero_iff.1 (by omega : l.length = 0)]; rfl
  · right
    refine ⟨by omega, ?_⟩
    rcases h7 with h7 | ⟨b, off, e1, e2, e3⟩
    · exact absurd h7 hl
    · refine ⟨b, off, l.getD 0 0, e1, e2, h1.1.getD 0, by have := e3 0 (by omega); simpa using this, ?_⟩
      rw [← h2]
      cases l with
      | nil => simp at hl
      | cons d l => simp [val]; omega

set_option maxHeartbeats 4000000 in
theorem cut_any (neg : Bool) (va : Value) (m k0 : Nat) (k mode : Int) (w : World) (ha : NV w va m) (hm : m < 2 ^ k0) (hk0 : k0 ≤ 1000000) (h0 : -1000000 ≤ k) (h1 : k ≤ 1000000) (hm0 : 0 ≤ mode) (hm1 : mode ≤ 4) :
    Calls Tryz.prog 114 #[.bool neg, va, .int .i64 k, .int .i64 mode] w (RetNVB w (cutM neg m k mode) (cutC m k)) := by
  obtain ⟨ao, n, c, rfl⟩ := ha.shape
  have HA := Lib.hid ha
  have HM := Lib.hid hm
  clear ha hm
  by_cases hk : k ≤ 0
  · have e1 : cutM neg m k mode = m * 2 ^ (-k).toNat := by unfold cutM; rw [if_pos hk]
    have e2 : cutC m k = false := by unfold cutC; simp; omega
    rw [e1, e2]; clear e1 e2
    go_enter Tryz.func114, Tryz.ntmps114
    go_wp2_with fail
    refine (left_any _ m (-k).toNat k0 _ _ HA.out (by omega) HM.out (by omega) (by omega)).mono ?_
    rintro e w1 ⟨v, rfl, hv, hb⟩
    go_wp2
    go_ret2
    exact ⟨v, rfl, hv, hb⟩
  · obtain ⟨p, rfl⟩ : ∃ p : Nat, k = p := ⟨k.toNat, by omega⟩
    have hp : 0 < p := by omega
    have ec : cutC m (p : Int) = lostB m p := by unfold cutC; simp [hp]
    have em : cutM neg m (p : Int) mode = if m % 2 ^ p = 0 then m / 2 ^ p else m / 2 ^ p + if upB neg (decide (m / 2 ^ p % 2 = 1)) (sgn2 ((m % 2 ^ p : Nat) : Int) ((2 ^ (p - 1) : Nat) : Int)) mode then 1 else 0 := by
      unfold cutM; rw [if_neg hk]; simp only [Int.toNat_natCast]
    rw [ec]
    by_cases hl : m % 2 ^ p = 0
    · have el : lostB m p = false := by unfold lostB; simp [hl]
      rw [if_pos hl] at em
      rw [em, el]
      have EL := Lib.hid el
      clear ec em hl el
      go_enter Tryz.func114, Tryz.ntmps114
      go_wp2_with fail
      refine (right_any _ m p k0 _ _ HA.out rfl HM.out (by omega) (by omega)).mono ?_
      rintro e w1 ⟨v, rfl, hv, hb⟩
      rw [EL.out]
      go_wp2
      go_ret2
      exact ⟨v, rfl, hv, hb⟩
    · have el : lostB m p = true := by unfold lostB; simp [hl]
      rw [if_neg hl] at em
      rw [el]
      have EL := Lib.hid el
      clear ec hl el
      have hdm := Nat.div_add_mod m (2 ^ p)
      have hlt := Nat.mod_lt m (Nat.two_pow_pos p)
      have hq2 : m / 2 ^ p * 2 ^ p ≤ m := Nat.div_mul_le_self _ _
      have hrest : m - m / 2 ^ p * 2 ^ p = m % 2 ^ p := by rw [Nat.mul_comm]; omega
      have hq1 : m / 2 ^ p ≤ m := Nat.div_le_self _ _
      generalize hqd : m / 2 ^ p = q at *
      generalize hrd : m % 2 ^ p = r at *
      have EM := Lib.hid em
      clear em
      have HQ2 := Lib.hid hq2
      have HRE := Lib.hid hrest
      have HQ1 := Lib.hid hq1
      have HLT := Lib.hid hlt
      have HQD := Lib.hid hqd
      have HRD := Lib.hid hrd
      clear hdm hq2 hrest hq1 hlt hqd hrd
      have hqb : q < 2 ^ k0 := Nat.lt_of_le_of_lt HQ1.out HM.out
      have HQB := Lib.hid hqb
      clear hqb
      go_enter Tryz.func114, Tryz.ntmps114
      go_wp2_with fail
      refine (right_any _ m p k0 _ _ HA.out rfl HM.out (by omega) (by omega)).mono ?_
      rintro e w1 ⟨vq, rfl, hvq, hb1⟩
      rw [EL.out]
      rw [HQD.out] at hvq
      obtain ⟨aq, nq, cq, rfl, hnq1, hnq2, hodd⟩ := limb_odd hvq
      unfold maxLen at hnq2
      have HVQ := Lib.hid hvq
      have HODD := Lib.hid hodd
      have HB1 := Lib.hid hb1
      clear hvq hodd hb1
      go_wp2_with fail
      refine (left_any _ q p k0 _ _ HVQ.out rfl HQB.out (by omega) (by omega)).mono ?_
      rintro e w2 ⟨v2, rfl, hv2, hb2⟩
      obtain ⟨a2, n2, c2, rfl⟩ := hv2.shape
      have HV2 := Lib.hid hv2
      have HB2 := Lib.hid hb2
      clear hv2 hb2
      go_wp2_with fail
      refine (minus_any _ _ m (q * 2 ^ p) k0 _ ((HA.out.below HB1.out).below HB2.out) HV2.out HQ2.out HM.out (by omega)).mono ?_
      rintro e w3 ⟨v3, rfl, hv3, hb3⟩
      rw [HRE.out] at hv3
      obtain ⟨a3, n3, c3, rfl⟩ := hv3.shape
      have HV3 := Lib.hid hv3
      have HB3 := Lib.hid hb3
      clear hv3 hb3
      go_wp2_with fail
      refine (natOf_any 1 (by omega) (by omega) _).mono ?_
      rintro e w4 ⟨v4, rfl, hv4, hb4⟩
      obtain ⟨a4, n4, c4, rfl⟩ := hv4.shape
      have HV4 := Lib.hid hv4
      have HB4 := Lib.hid hb4
      clear hv4 hb4
      go_wp2_with fail
      refine (left_any _ 1 (p - 1) 1 _ _ HV4.out (by omega) (by omega) (by omega) (by omega)).mono ?_
      rintro e w5 ⟨v5, rfl, hv5, hb5⟩
      rw [Nat.one_mul] at hv5
      obtain ⟨a5, n5, c5, rfl⟩ := hv5.shape
      have HV5 := Lib.hid hv5
      have HB5 := Lib.hid hb5
      clear hv5 hb5
      go_wp2_with fail
      refine (compare_any _ _ r (2 ^ (p - 1)) _ ((HV3.out.below HB4.out).below HB5.out) HV5.out).mono ?_
      rintro e w6 ⟨rfl, nw, rfl⟩
      generalize hhalf : sgn2 (r : Int) ((2 ^ (p - 1) : Nat) : Int) = half at *
      have hb15 : Below w1.heap.size w1 (w5.drewN nw) := by
        have e2 := HB2.out
        have e3 := e2.trans (HB3.out.mono e2.size)
        have e4 := e3.trans (HB4.out.mono e3.size)
        have e5 := e4.trans (HB5.out.mono e4.size)
        exact ⟨e5.os, e5.tape, e5.output, e5.size, e5.block⟩
      have hbw : Below w.heap.size w (w5.drewN nw) := HB1.out.trans (hb15.mono HB1.out.size)
      have hvq5 : NV (w5.drewN nw) (.slice aq nq cq) q := HVQ.out.below hb15
      have hodd5 := HODD.out
      rcases hodd5 with ⟨o1, o2⟩ | ⟨o1, b, off, d, rfl, o3, o4, o5, o6⟩
      · have eo : decide (q % 2 = 1) = false := by rw [o2]; rfl
        have EO := Lib.hid eo
        clear o2 eo
        have HVQ5 := Lib.hid hvq5
        have HBW := Lib.hid hbw
        clear hvq5 hbw hb15 hhalf
        cases hu : upB neg false half mode
        · have HU := Lib.hid hu
          go_wp2_with (go_at_call 139; refine (up_any _ _ _ _ _ (by omega) (by omega)).mono ?_; rintro e w' ⟨rfl, rfl⟩)
          go_ret2
          exact ⟨_, rfl, by rw [EM.out, EO.out, HU.out]; exact HVQ5.out, HBW.out⟩
        · have HU := Lib.hid hu
          go_wp2_with (go_at_call 139; refine (up_any _ _ _ _ _ (by omega) (by omega)).mono ?_; rintro e w' ⟨rfl, rfl⟩)
          refine (natOf_any 1 (by omega) (by omega) _).mono ?_
          rintro e w7 ⟨v7, rfl, hv7, hb7⟩
          obtain ⟨a7, n7, c7, rfl⟩ := hv7.shape
          have HV7 := Lib.hid hv7
          have HB7 := Lib.hid hb7
          clear hv7 hb7
          go_wp2_with fail
          refine (plus_any _ _ q 1 (k0 + 1) _ (HVQ5.out.below HB7.out) HV7.out (Nat.lt_of_lt_of_le HQB.out (Nat.pow_le_pow_right (by decide) (by omega))) (by have := Nat.two_pow_pos k0; rw [Nat.pow_succ]; omega) (by omega)).mono ?_
          rintro e w8 ⟨v8, rfl, hv8, hb8⟩
          go_wp2
          go_ret2
          exact ⟨_, rfl, by rw [EM.out, EO.out, HU.out]; exact hv8, HBW.out.trans ((HB7.out.mono HBW.out.size).trans (hb8.mono (Nat.le_trans HBW.out.size HB7.out.size)))⟩
      · have hcell : (w5.drewN nw).cell? ⟨b, off, none⟩ = some (.int .u32 ((d : Nat) : Int)) := (hb15.cell (p := ⟨b, off, none⟩) o3).trans o5
        rw [World.cell?_drewN] at hcell
        have HVQ5 := Lib.hid hvq5
        have HBW := Lib.hid hbw
        clear hvq5 hbw hb15 hhalf
        by_cases hd : d % 2 = 1
        · have eo : decide (q % 2 = 1) = true := by rw [← o6]; simp [hd]
          have EO := Lib.hid eo
          have hd2 : ((d : Int) % 2 == 1) = true := by rw [beq_iff_eq]; omega
          clear o6 eo hd o5
          cases hu : upB neg true half mode
          · have HU := Lib.hid hu
            go_wp2_with (go_at_call 139; refine (up_any _ _ _ _ _ (by omega) (by omega)).mono ?_; rintro e w' ⟨rfl, rfl⟩)
            go_ret2
            exact ⟨_, rfl, by rw [EM.out, EO.out, HU.out]; exact HVQ5.out, HBW.out⟩
          · have HU := Lib.hid hu
            go_wp2_with (go_at_call 139; refine (up_any _ _ _ _ _ (by omega) (by omega)).mono ?_; rintro e w' ⟨rfl, rfl⟩)
            refine (natOf_any 1 (by omega) (by omega) _).mono ?_
            rintro e w7 ⟨v7, rfl, hv7, hb7⟩
            obtain ⟨a7, n7, c7, rfl⟩ := hv7.shape
            have HV7 := Lib.hid hv7
            have HB7 := Lib.hid hb7
            clear hv7 hb7
            go_wp2_with fail
            refine (plus_any _ _ q 1 (k0 + 1) _ (HVQ5.out.below HB7.out) HV7.out (Nat.lt_of_lt_of_le HQB.out (Nat.pow_le_pow_right (by decide) (by omega))) (by have := Nat.two_pow_pos k0; rw [Nat.pow_succ]; omega) (by omega)).mono ?_
            rintro e w8 ⟨v8, rfl, hv8, hb8⟩
            go_wp2
            go_ret2
            exact ⟨_, rfl, by rw [EM.out, EO.out, HU.out]; exact hv8, HBW.out.trans ((HB7.out.mono HBW.out.size).trans (hb8.mono (Nat.le_trans HBW.out.size HB7.out.size)))⟩
        · have eo : decide (q % 2 = 1) = false := by rw [← o6]; simp [hd]
          have EO := Lib.hid eo
          have hd2 : ((d : Int) % 2 == 1) = false := by rw [beq_eq_false_iff_ne]; omega
          clear o6 eo hd o5
          cases hu : upB neg false half mode
          · have HU := Lib.hid hu
            go_wp2_with (go_at_call 139; refine (up_any _ _ _ _ _ (by omega) (by omega)).mono ?_; rintro e w' ⟨rfl, rfl⟩)
            go_ret2
            exact ⟨_, rfl, by rw [EM.out, EO.out, HU.out]; exact HVQ5.out, HBW.out⟩
          · have HU := Lib.hid hu
            go_wp2_with (go_at_call 139; refine (up_any _ _ _ _ _ (by omega) (by omega)).mono ?_; rintro e w' ⟨rfl, rfl⟩)
            refine (natOf_any 1 (by omega) (by omega) _).mono ?_
            rintro e w7 ⟨v7, rfl, hv7, hb7⟩
            obtain ⟨a7, n7, c7, rfl⟩ := hv7.shape
            have HV7 := Lib.hid hv7
            have HB7 := Lib.hid hb7
            clear hv7 hb7
            go_wp2_with fail
            refine (plus_any _ _ q 1 (k0 + 1) _ (HVQ5.out.below HB7.out) HV7.out (Nat.lt_of_lt_of_le HQB.out (Nat.pow_le_pow_right (by decide) (by omega))) (by have := Nat.two_pow_pos k0; rw [Nat.pow_succ]; omega) (by omega)).mono ?_
            rintro e w8 ⟨v8, rfl, hv8, hb8⟩
            go_wp2
            go_ret2
            exact ⟨_, rfl, by rw [EM.out, EO.out, HU.out]; exact hv8, HBW.out.trans ((HB7.out.mono HBW.out.size).trans (hb8.mono (Nat.le_trans HBW.out.size HB7.out.size)))⟩
end Go.Proofs.YthkcbjhjhkpclaaGreatDoor

/-
  PLAIN: what round.Number computes is the rounding of Fm.
-/
namespace Go.Proofs.YthkcbjhjhkpclaaGreatDoor
open Go.RowKit Nt Fm

def awayB (neg : Bool) (mode : Int) : Bool := decide (mode = 0) || (decide (mode = 4) || ((decide (mode = 1) && !neg) || (decide (mode = 2) && neg)))
/-- the last steps of round.Number -/
def finN (n : Nat) : Nat := if n = 9007199254740992 then 4503599627370496 else n
def finK (n : Nat) (k : Int) : Int := if n = 9007199254740992 then k + 1 else k
def finR (neg : Bool) (n : Nat) (k mode : Int) : Int :=
  (if 971 < finK n k then (if awayB neg mode then 9218868437227405312 else 9218868437227405311)
   else if finN n < 4503599627370496 then (finN n : Int) else (finK n k + 1075) * 4503599627370496 + (finN n : Int) % 4503599627370496) + if neg then 9223372036854775808 else 0
def finC (n : Nat) (k : Int) (c : Bool) : Bool := decide (971 < finK n k) || c

def numR (d : D) (mode : Int) : Int := (numk (kd d.neg mode) d.m d.e : Int) + if d.neg then 9223372036854775808 else 0
def numC (d : D) : Bool := chg d.m d.e

theorem blen_eq (m : Nat) : blen m = bl m := rfl

theorem upB_upk (neg : Bool) (m : Nat) (e mode : Int) (h0 : 0 ≤ mode) (h1 : mode ≤ 4) (hs : 0 < ss m e) :
    upB neg (decide (m / 2 ^ (ss m e).toNat % 2 = 1)) (sgn2 ((m % 2 ^ (ss m e).toNat : Nat) : Int) ((2 ^ ((ss m e).toNat - 1) : Nat) : Int)) mode = upk (kd neg mode) m e := by
  have eq1 : m / 2 ^ (ss m e).toNat = qq m e := by unfold qq; rw [if_neg (by omega)]
  have eq2 : m % 2 ^ (ss m e).toNat = rr m e := by unfold rr; rw [if_neg (by omega)]
  have ep : 2 ^ (ss m e).toNat = 2 * 2 ^ ((ss m e).toNat - 1) := by rw [← Nat.pow_succ']; congr 1; omega
  rw [eq1, eq2]
  have eh : sgn2 ((rr m e : Nat) : Int) ((2 ^ ((ss m e).toNat - 1) : Nat) : Int) = hh m e := by
    unfold sgn2 hh; rw [ep]
    generalize 2 ^ ((ss m e).toNat - 1) = P
    split <;> split <;> (try split) <;> omega
  rw [eh]
  have hm : mode = 0 ∨ mode = 1 ∨ mode = 2 ∨ mode = 3 ∨ mode = 4 := by omega
  rcases hm with rfl | rfl | rfl | rfl | rfl <;> cases neg <;> simp [upB, upk, kd]

theorem cutM_r1 (neg : Bool) (m : Nat) (e mode : Int) (h0 : 0 ≤ mode) (h1 : mode ≤ 4) :
    cutM neg m (ss m e) mode + jj m e * 4503599627370496 = r1 (kd neg mode) m e ∧ qq m e ≤ cutM neg m (ss m e) mode ∧ cutM neg m (ss m e) mode ≤ qq m e + 1 := by
  unfold cutM r1 r0
  by_cases hs : ss m e ≤ 0
  · rw [if_pos hs]
    have e1 : m * 2 ^ (-ss m e).toNat = qq m e := by unfold qq; rw [if_pos hs]
    have e2 : rr m e = 0 := by unfold rr; rw [if_pos hs]
    rw [e1, e2]; simp
  · rw [if_neg hs]
    have eq1 : m / 2 ^ (ss m e).toNat = qq m e := by unfold qq; rw [if_neg (by omega)]
    have eq2 : m % 2 ^ (ss m e).toNat = rr m e := by unfold rr; rw [if_neg (by omega)]
    have hu := upB_upk neg m e mode h0 h1 (by omega)
    rw [eq1, eq2] at hu
    rw [eq1, eq2]
    by_cases hr : rr m e = 0
    · rw [if_pos hr]; simp [hr]
    · rw [if_neg hr, hu]
      cases upk (kd neg mode) m e
      · simp [hr]
      · simp [hr]; omega

theorem cutC_rr (m : Nat) (e : Int) : cutC m (ss m e) = decide (rr m e ≠ 0) := by
  unfold cutC lostB rr
  by_cases hs : ss m e ≤ 0
  · simp [hs]; omega
  · simp [hs]; omega

theorem kd_zero (neg : Bool) (mode : Int) (h0 : 0 ≤ mode) (h1 : mode ≤ 4) : (kd neg mode = 0) ↔ (awayB neg mode = false) := by
  have hm : mode = 0 ∨ mode = 1 ∨ mode = 2 ∨ mode = 3 ∨ mode = 4 := by omega
  rcases hm with rfl | rfl | rfl | rfl | rfl <;> cases neg <;> simp [awayB, kd]

theorem fin_num {d : D} {mode : Int} (h0 : 0 ≤ mode) (h1 : mode ≤ 4) (hz : d.m = 0 → d.e ≤ 1000) :
    finR d.neg (cutM d.neg d.m (ss d.m d.e) mode) (kk d.m d.e) mode = numR d mode ∧ finC (cutM d.neg d.m (ss d.m d.e) mode) (kk d.m d.e) (cutC d.m (ss d.m d.e)) = numC d ∧ cutM d.neg d.m (ss d.m d.e) mode ≤ 9007199254740992 := by
  obtain ⟨a, b, c⟩ := cutM_r1 d.neg d.m d.e mode h0 h1
  have hq := qq_lt d.m d.e
  have hj := jj_eq d.m d.e
  have hk := kk_ge d.m d.e
  by_cases hm : d.m = 0
  · have hk2 : kk d.m d.e ≤ 971 := by unfold kk; rw [hm]; have := hz hm; simp [bl]; omega
    have e1 : cutM d.neg d.m (ss d.m d.e) mode = 0 := by
      unfold cutM; rw [hm]; split
      · simp
      · simp
    have e2 : cutC d.m (ss d.m d.e) = false := by unfold cutC lostB; rw [hm]; simp
    rw [e1, e2]
    refine ⟨?_, ?_, by omega⟩
    · have en : numk (kd d.neg mode) d.m d.e = 0 := by unfold numk; rw [if_pos hm]
      unfold finR finK finN numR; rw [en, if_neg (by omega)]; simp
    · have en : chg d.m d.e = false := by unfold chg; simp [hm]
      unfold finC finK numC; rw [en]; simp; omega
  · have hg := qq_ge hm d.e
    refine ⟨?_, ?_, by omega⟩
    · unfold finR numR numk
      congr 1
      rw [if_neg hm]
      have hkz := kd_zero d.neg mode h0 h1
      unfold finK finN
      have hMR : MR = 9218868437227405312 := rfl
      rw [hMR]
      generalize cutM d.neg d.m (ss d.m d.e) mode = n at *
      generalize r1 (kd d.neg mode) d.m d.e = r at *
      generalize kk d.m d.e = k at *
      generalize jj d.m d.e = j at *
      generalize qq d.m d.e = q at *
      generalize kd d.neg mode = kz at *
      by_cases haw : awayB d.neg mode = true
      · have hk0 : ¬ kz = 0 := fun h => by have := hkz.1 h; rw [haw] at this; cases this
        simp only [haw, hk0, if_true, if_false]
        (repeat' split) <;> omega
      · have hk0 : kz = 0 := hkz.2 (by simpa using haw)
        simp only [haw, hk0, if_true, Bool.false_eq_true, if_false]
        (repeat' split) <;> omega
    · rw [cutC_rr]
      unfold finC numC chg
      have hMR : MR = 9218868437227405312 := rfl
      have hr0 : r0 d.m d.e = qq d.m d.e + jj d.m d.e * 4503599627370496 := rfl
      have hr1 : r1 (kd d.neg mode) d.m d.e = if rr d.m d.e ≠ 0 ∧ upk (kd d.neg mode) d.m d.e = true then r0 d.m d.e + 1 else r0 d.m d.e := rfl
      have key : (971 < finK (cutM d.neg d.m (ss d.m d.e) mode) (kk d.m d.e)) ↔ MR ≤ r1 (kd d.neg mode) d.m d.e := by
        rw [hMR]; unfold finK; split <;> omega
      have hne : (decide (d.m ≠ 0)) = true := by simp [hm]
      rw [hne, Bool.true_and]
      by_cases hr : rr d.m d.e = 0
      · rw [hr1] at key
        simp only [hr, ne_eq, not_true_eq_false, false_and, if_false] at key
        simp [hr, key]
      · simp [hr]
end Go.Proofs.YthkcbjhjhkpclaaGreatDoor
