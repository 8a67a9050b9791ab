/-
  THE WALKS of whole.Round, From, Is.
-/
import Derived.Test.YtdknfdncgmeimaaDoorMu
import Derived.Test.YtdknfdncgmeimaaDoorPd
import Derived.Test.YtdknfdncgmeimaaDoorWi
import Derived.Test.YtdknfdncgmeimaaDoorFd
import Derived.Deep.RegionWith
set_option linter.unusedVariables false
set_option linter.unusedSimpArgs false
namespace Go.Proofs.YtdknfdncgmeimaaDoor
open Go.RowKit Nt Fm Fl

def woV0 (x mode : Int) : Int := if fcls x = 5 then 9221120237041090560 else if fcls x = 4 then x else fabs (numR (mulD (valD x) 0 mode) 0) + sgn x 0
def woC0 (x : Int) : Bool := if fcls x = 5 then false else if fcls x = 4 then false else mulC (valD x) 0
def woV (x mode : Int) : Int := if knownB mode = true then woV0 x mode else 0
def woC (x mode : Int) : Bool := if knownB mode = true then woC0 x else false
theorem woV_no {x mode : Int} (hk : knownB mode = false) : woV x mode = 0 ∧ woC x mode = false ∧ adE mode = 1 := by unfold woV woC adE; rw [hk]; exact ⟨rfl, rfl, rfl⟩
theorem woV_yes {x mode : Int} (hk : knownB mode = true) : woV x mode = woV0 x mode ∧ woC x mode = woC0 x ∧ adE mode = 0 := by unfold woV woC adE; rw [hk]; exact ⟨rfl, rfl, rfl⟩
theorem and_wsg {x : Int} (x0 : 0 ≤ x) (x1 : x ≤ 18446744073709551615) : bits .and .u64 x 9223372036854775808 = sgn x 0 := by
  have h := and_sgn x0 x1 (show (0 : Int) ≤ 0 by decide) (show (0 : Int) ≤ 18446744073709551615 by decide)
  have e : bits .xor .u64 x 0 = x := by
    obtain ⟨a, rfl⟩ := Int.eq_ofNat_of_zero_le x0
    have := u64_xor_nat a 0 (by omega) (by decide)
    rw [show ((0 : Nat) : Int) = 0 from rfl] at this
    rw [this, Nat.xor_zero]
  rw [e] at h; exact h
theorem or_wsg {o : Int} (x : Int) (h0 : 0 ≤ o) (h1 : o ≤ 9223372036854775807) : bits .or .u64 o (sgn x 0) = o + sgn x 0 := by
  unfold sgn; split
  · rw [or_zero' o h0 (by omega), Int.add_zero]
  · rw [or_sign2 o h0 (by omega)]
theorem mulD_bd {d : D} {k : Nat} (mode : Int) (hm : d.m < 2 ^ k) (e0 : -2000 ≤ d.e) (e1 : d.e ≤ 2000) : (mulD d 0 mode).m < 2 ^ (k + 1) ∧ -2000 ≤ (mulD d 0 mode).e ∧ (mulD d 0 mode).e ≤ 2001 + k := by
  unfold mulD
  split
  · obtain ⟨b1, b2⟩ := norm_bd d.neg d.e hm
    refine ⟨by rw [Nat.pow_succ]; omega, ?_⟩
    rcases b2 with b2 | b2
    · rw [b2]; exact ⟨by decide, by show (0 : Int) ≤ _; omega⟩
    · omega
  · have h := cutM_lt (neg := d.neg) (mode := mode) hm (show 0 < 0 - d.e by omega)
    obtain ⟨b1, b2⟩ := norm_bd d.neg 0 h
    refine ⟨by omega, ?_⟩
    rcases b2 with b2 | b2
    · rw [b2]; exact ⟨by decide, by show (0 : Int) ≤ _; omega⟩
    · omega
theorem mulD_Nf (d : D) (pl mode : Int) : (mulD d pl mode).Nf := by unfold mulD; split <;> exact norm_nf _ _ _
set_option maxRecDepth 100000 in
set_option maxHeartbeats 4000000 in
theorem wround_any (x mode : Int) (x0 : 0 ≤ x) (x1 : x ≤ 18446744073709551615) (m0' : -9223372036854775808 ≤ mode) (m1' : mode ≤ 9223372036854775807) (w : World) (hT : Tab w) :
    Calls Tryd.prog 39 #[.int .u64 x, .int .i64 mode] w fun e w' => e = .returned (.tuple #[.int .u64 (woV x mode), .bool (woC x mode), .int .i64 (adE mode)]) ∧ Below w.heap.size w w' := by
  cases hk : knownB mode
  · obtain ⟨e1, e2, e3⟩ := @woV_no x mode hk
    rw [e1, e2, e3]; clear e1 e2 e3 hT
    go_enter Tryd.func39, Tryd.ntmps39
    go_wp2_with (go_at_call 64; refine (known_any _ _).mono ?_; rintro e w' ⟨rfl, rfl⟩)
    go_ret3
    exact ⟨rfl, Below.refl _ _⟩
  · obtain ⟨e1, e2, e3⟩ := @woV_yes x mode hk
    rw [e1, e2, e3]; clear e1 e2 e3
    have hm : 0 ≤ mode ∧ mode ≤ 4 := by unfold knownB at hk; simpa using hk
    have hcl := fun w' => class_any x x0 x1 w'
    obtain ⟨v1, v2, v3, v4, -⟩ := valD_facts x x0 x1
    have hval := fun w' h => value_any x x0 x1 w' h
    have hmul := fun v w' h h2 => multiple_any v (valD x) 53 0 mode w' h h2 v2 (by omega) (by omega) (by omega) (by omega) (by omega) hm.1 hm.2
    obtain ⟨b1, b2, b3⟩ := mulD_bd mode v2 (by omega) (by omega)
    have hz := nf_e (mulD_Nf (valD x) 0 mode)
    have hnum := fun v w' h => number_any v (mulD (valD x) 0 mode) 54 0 w' h b1 (by omega) (by omega) (by omega) hz (by decide) (by decide)
    have nb := numR_bd (mulD (valD x) 0 mode) 0
    have hab := fun w' => abs_any (numR (mulD (valD x) 0 mode) 0) nb.1 nb.2 w'
    have fb := fabs_bd (numR (mulD (valD x) 0 mode) 0)
    have hand := and_wsg x0 x1
    have hor := or_wsg x fb.1 fb.2
    have hcase : ((fcls x == 5) = true ∧ woV0 x mode = 9221120237041090560 ∧ woC0 x = false) ∨ ((fcls x == 5) = false ∧ (fcls x == 4) = true ∧ woV0 x mode = x ∧ woC0 x = false) ∨
        ((fcls x == 5) = false ∧ (fcls x == 4) = false ∧ woV0 x mode = fabs (numR (mulD (valD x) 0 mode) 0) + sgn x 0 ∧ woC0 x = mulC (valD x) 0) := by
      unfold woV0 woC0
      by_cases k5 : fcls x = 5
      · left; simp [k5]
      · by_cases k4 : fcls x = 4
        · right; left; simp [k4]
        · right; right; simp [k5, k4]
    clear nb fb hm v1 v2 v3 v4 b1 b2 b3 hz
    generalize woV0 x mode = V at *
    generalize woC0 x = C at *
    generalize fabs (numR (mulD (valD x) 0 mode) 0) = ab at *
    generalize numR (mulD (valD x) 0 mode) 0 = nR at *
    generalize numC (mulD (valD x) 0 mode) = nC at *
    generalize sgn x 0 = sg at *
    generalize mulC (valD x) 0 = mC at *
    generalize mulD (valD x) 0 mode = R at *
    generalize valD x = vx at *
    generalize fcls x = cx at *
    have HCL := Lib.hid hcl
    have HVAL := Lib.hid hval
    have HMUL := Lib.hid hmul
    have HNUM := Lib.hid hnum
    have HAB := Lib.hid hab
    have HT := Lib.hid hT
    have HK : Hid (knownB mode = true) := Lib.hid hk
    clear hcl hval hmul hnum hab hT
    rcases hcase with ⟨k5, rfl, rfl⟩ | ⟨k5, k4, rfl, rfl⟩ | ⟨k5, k4, rfl, rfl⟩
    · go_enter Tryd.func39, Tryd.ntmps39
      go_wp2_with (first | (go_at_call 64; refine (known_any _ _).mono ?_; rintro e w' ⟨rfl, rfl⟩) | (go_at_call 44; (with_reducible refine (HCL.out _).mono ?_); rintro e w' ⟨rfl, rfl⟩))
      go_ret3
      exact ⟨rfl, Below.refl _ _⟩
    · go_enter Tryd.func39, Tryd.ntmps39
      go_wp2_with (first | (go_at_call 64; refine (known_any _ _).mono ?_; rintro e w' ⟨rfl, rfl⟩) | (go_at_call 44; (with_reducible refine (HCL.out _).mono ?_); rintro e w' ⟨rfl, rfl⟩))
      go_ret3
      exact ⟨rfl, Below.refl _ _⟩
    · go_enter Tryd.func39, Tryd.ntmps39
      go_wp2_with (first | (go_at_call 64; refine (known_any _ _).mono ?_; rintro e w' ⟨rfl, rfl⟩) | (go_at_call 44; (with_reducible refine (HCL.out _).mono ?_); rintro e w' ⟨rfl, rfl⟩))
      refine (HVAL.out _ HT.out).mono ?_
      rintro r w2 ⟨v2, rfl, ⟨s2, rfl, hv⟩, hb⟩
      obtain ⟨a2, n2, c2, rfl⟩ := hv.shape
      have VO2 := Lib.hid hv
      have R2 : Hid (Below w.heap.size w w2) := Lib.hid hb
      clear hv hb
      go_wp2_with fail
      refine (HMUL.out _ _ (HT.out.below R2.out) ⟨_, rfl, VO2.out⟩).mono ?_
      rintro r w3 ⟨a3, n3, c3, rfl, hv, hb⟩
      have XW := Lib.hid (Box.new w3 (.bool R.neg) (.slice a3 n3 c3) (.int .i64 R.e) 25)
      have NW := Lib.hid (hv.alloc (.cells #[.bool R.neg, .slice a3 n3 c3, .int .i64 R.e] 25))
      have R3 : Hid (Below w.heap.size w w3) := Lib.hid (bl_thru R2.out (Nat.le_refl _) hb)
      have BW : Hid (Below w.heap.size w _) := Lib.hid (R3.out.alloc R3.out.size (.cells #[.bool R.neg, .slice a3 n3 c3, .int .i64 R.e] 25))
      obtain ⟨q0, q1, q2, f0, f1, f2⟩ := XW.out.cells
      clear hv hb
      go_wp2_with fail
      refine (HNUM.out _ _ ⟨_, rfl, NW.out⟩).mono ?_
      rintro r w4 ⟨rfl, hb⟩
      have B4 : Hid (Below w.heap.size w w4) := Lib.hid (bl_thru BW.out (Nat.le_refl _) hb)
      have X4 := Lib.hid (XW.out.below hb)
      clear hb
      go_wp2_with (go_at_call 57; (with_reducible refine (HAB.out _).mono ?_); rintro e w' ⟨rfl, rfl⟩)
      go_ret3
      exact ⟨rfl, B4.out⟩
/-- is it whole? -/
def isW (x : Int) : Bool := hasV x && decide (0 ≤ (valD x).e)
set_option maxRecDepth 100000 in
set_option maxHeartbeats 4000000 in
theorem wis_any (x : Int) (x0 : 0 ≤ x) (x1 : x ≤ 18446744073709551615) (w : World) (hT : Tab w) :
    Calls Tryd.prog 60 #[.int .u64 x] w fun e w' => e = .returned (.bool (isW x)) ∧ Below w.heap.size w w' := by
  have hhv := fun w' => hasValue_any x x0 x1 w'
  have hval := fun w' h => value_any x x0 x1 w' h
  have HVAL := Lib.hid hval
  have HT := Lib.hid hT
  clear hval hT
  cases hv : hasV x
  · rw [hv] at hhv
    have e : isW x = false := by unfold isW; rw [hv]; rfl
    rw [e]; clear e
    have HHV := Lib.hid hhv
    clear hhv
    go_enter Tryd.func60, Tryd.ntmps60
    go_wp2_with (go_at_call 62; (with_reducible refine (HHV.out _).mono ?_); rintro e w' ⟨rfl, rfl⟩)
    go_ret
    exact ⟨rfl, Below.refl _ _⟩
  · rw [hv] at hhv
    have e : isW x = decide (0 ≤ (valD x).e) := by unfold isW; rw [hv]; rfl
    rw [e]; clear e
    generalize valD x = vx at *
    have HHV := Lib.hid hhv
    clear hhv
    go_enter Tryd.func60, Tryd.ntmps60
    go_wp2_with (go_at_call 62; (with_reducible refine (HHV.out _).mono ?_); rintro e w' ⟨rfl, rfl⟩)
    refine (HVAL.out _ HT.out).mono ?_
    rintro r w2 ⟨v2, rfl, ⟨s2, rfl, hv⟩, hb⟩
    obtain ⟨a2, n2, c2, rfl⟩ := hv.shape
    have B2 := Lib.hid hb
    have q := fun w => run_field2 vx.neg (.slice a2 n2 c2) vx.e w
    clear hv hb
    go_wp2
    go_ret
    exact ⟨rfl, B2.out⟩
/-- from an int -/
def frD (n : Int) : D := norm (decide (n < 0)) n.natAbs 0
def frV (n mode : Int) : Int := if knownB mode = true then numR (frD n) mode else 0
def frC (n mode : Int) : Bool := if knownB mode = true then numC (frD n) else false
theorem conv_pos {n : Int} (h0 : 0 ≤ n) (h1 : n ≤ 9223372036854775807) : IntKind.u64.wrap n = n := IntWalk.u64_in n ⟨h0, by omega⟩
theorem conv_neg {n : Int} (h0 : -9223372036854775808 ≤ n) (h1 : n < 0) : IntKind.u64.wrap n = n + 18446744073709551616 ∧ IntKind.u64.wrap (-(n + 18446744073709551616)) = -n := by
  constructor
  · unfold IntKind.wrap; simp [IntKind.bits, IntKind.signed]; omega
  · unfold IntKind.wrap; simp [IntKind.bits, IntKind.signed]; omega
set_option maxRecDepth 100000 in
set_option maxHeartbeats 4000000 in
theorem wfrom_any (n mode : Int) (n0 : -9223372036854775808 ≤ n) (n1 : n ≤ 9223372036854775807) (m0' : -9223372036854775808 ≤ mode) (m1' : mode ≤ 9223372036854775807) (w : World) (hT : Tab w) :
    Calls Tryd.prog 41 #[.int .i64 n, .int .i64 mode] w fun e w' => e = .returned (.tuple #[.int .u64 (frV n mode), .bool (frC n mode), .int .i64 (adE mode)]) ∧ Below w.heap.size w w' := by
  cases hk : knownB mode
  · have e1 : frV n mode = 0 := by unfold frV; rw [hk]; rfl
    have e2 : frC n mode = false := by unfold frC; rw [hk]; rfl
    have e3 : adE mode = 1 := by unfold adE; rw [hk]; rfl
    rw [e1, e2, e3]; clear e1 e2 e3 hT
    go_enter Tryd.func41, Tryd.ntmps41
    go_wp2_with (go_at_call 64; refine (known_any _ _).mono ?_; rintro e w' ⟨rfl, rfl⟩)
    go_ret3
    exact ⟨rfl, Below.refl _ _⟩
  · have e1 : frV n mode = numR (frD n) mode := by unfold frV; rw [hk]; rfl
    have e2 : frC n mode = numC (frD n) := by unfold frC; rw [hk]; rfl
    have e3 : adE mode = 0 := by unfold adE; rw [hk]; rfl
    rw [e1, e2, e3]; clear e1 e2 e3
    have hm : 0 ≤ mode ∧ mode ≤ 4 := by unfold knownB at hk; simpa using hk
    have hlt : n.natAbs < 2 ^ 64 := by omega
    have hof := fun w' => natOf_any (n.natAbs : Int) (by omega) (by omega) w'
    rw [show ((n.natAbs : Nat) : Int).toNat = n.natAbs by omega] at hof
    have hop := fun v w' h0 hh => dnorm_any (decide (n < 0)) v n.natAbs 64 0 w' h0 hh hlt (by decide) (by decide) (by decide)
    have hfd : norm (decide (n < 0)) n.natAbs 0 = frD n := rfl
    rw [hfd] at hop
    obtain ⟨b1, b2⟩ := norm_bd (decide (n < 0)) 0 hlt
    rw [hfd] at b1 b2
    have hz := nf_e (show (frD n).Nf from norm_nf _ _ _)
    have be : -2000 ≤ (frD n).e ∧ (frD n).e ≤ 2000 := by
      rcases b2 with b2 | b2
      · rw [b2]; decide
      · omega
    have hnum := fun v w' h => number_any v (frD n) 64 mode w' h (by omega) (by decide) (by omega) (by omega) hz hm.1 hm.2
    have hN : (n < 0 ∧ decide (n < 0) = true ∧ (n.natAbs : Int) = -n) ∨ (0 ≤ n ∧ decide (n < 0) = false ∧ (n.natAbs : Int) = n) := by
      rcases Int.lt_or_le n 0 with h | h
      · left; exact ⟨h, by simpa using h, by omega⟩
      · right; exact ⟨h, by simpa using h, by omega⟩
    clear b1 b2 hfd hz be hlt hm
    generalize numR (frD n) mode = nR at *
    generalize numC (frD n) = nC at *
    generalize frD n = R at *
    generalize n.natAbs = N at *
    have HT := Lib.hid hT
    have HK : Hid (knownB mode = true) := Lib.hid hk
    have HNUM := Lib.hid hnum
    clear hT hnum
    rcases hN with ⟨h, hd, hN⟩ | ⟨h, hd, hN⟩
    · rw [hd] at hop
      rw [hN] at hof
      have HOF := Lib.hid hof
      have HOP := Lib.hid hop
      obtain ⟨c1, c2⟩ := conv_neg n0 h
      clear hof hop hN
      go_enter Tryd.func41, Tryd.ntmps41
      go_wp2_with (go_at_call 64; refine (known_any _ _).mono ?_; rintro e w' ⟨rfl, rfl⟩)
      refine (HOF.out _).mono ?_
      rintro r w1 ⟨v, rfl, hv, hb⟩
      obtain ⟨ao, n', c, rfl⟩ := hv.shape
      have HV := Lib.hid hv
      have B1 := Lib.hid hb
      clear hv hb
      go_wp2_with fail
      refine (HOP.out _ _ (HT.out.below B1.out) HV.out).mono ?_
      rintro r w2 ⟨v2, rfl, ⟨s2, rfl, hv⟩, hb⟩
      obtain ⟨a2, n2, c2', rfl⟩ := hv.shape
      have HV2 := Lib.hid hv
      have B2 := Lib.hid (bl_thru B1.out (Nat.le_refl _) hb)
      clear hv hb
      go_wp2_with fail
      refine (HNUM.out _ _ ⟨_, rfl, HV2.out⟩).mono ?_
      rintro r w3 ⟨rfl, hb⟩
      have B3 := Lib.hid (bl_thru B2.out (Nat.le_refl _) hb)
      clear hb
      go_wp2
      go_ret3
      exact ⟨rfl, B3.out⟩
    · rw [hd] at hop
      rw [hN] at hof
      have HOF := Lib.hid hof
      have HOP := Lib.hid hop
      have c1 := conv_pos h n1
      clear hof hop hN
      go_enter Tryd.func41, Tryd.ntmps41
      go_wp2_with (go_at_call 64; refine (known_any _ _).mono ?_; rintro e w' ⟨rfl, rfl⟩)
      refine (HOF.out _).mono ?_
      rintro r w1 ⟨v, rfl, hv, hb⟩
      obtain ⟨ao, n', c, rfl⟩ := hv.shape
      have HV := Lib.hid hv
      have B1 := Lib.hid hb
      clear hv hb
      go_wp2_with fail
      refine (HOP.out _ _ (HT.out.below B1.out) HV.out).mono ?_
      rintro r w2 ⟨v2, rfl, ⟨s2, rfl, hv⟩, hb⟩
      obtain ⟨a2, n2, c2', rfl⟩ := hv.shape
      have HV2 := Lib.hid hv
      have B2 := Lib.hid (bl_thru B1.out (Nat.le_refl _) hb)
      clear hv hb
      go_wp2_with fail
      refine (HNUM.out _ _ ⟨_, rfl, HV2.out⟩).mono ?_
      rintro r w3 ⟨rfl, hb⟩
      have B3 := Lib.hid (bl_thru B2.out (Nat.le_refl _) hb)
      clear hb
      go_wp2
      go_ret3
      exact ⟨rfl, B3.out⟩
end Go.Proofs.YtdknfdncgmeimaaDoor
