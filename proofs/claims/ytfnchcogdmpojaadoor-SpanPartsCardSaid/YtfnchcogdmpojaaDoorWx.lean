/-
  SOME OF MY TEXTS in one: Wd Wn Wo Wm. Each says what it proves.
-/
import Derived.Test.YtfnchcogdmpojaaDoorMu
import Derived.Test.YtfnchcogdmpojaaDoorBo
import Derived.Test.YtfnchcogdmpojaaDoorWi
import Derived.Test.YtfnchcogdmpojaaDoorBd
import Derived.Deep.RegionWith
import Derived.Test.YtfnchcogdmpojaaDoorBp
set_option linter.unusedVariables false
set_option linter.unusedSimpArgs false
/-
  THE WALKS of whole.Round, From, Is.
-/
namespace Go.Proofs.YtfnchcogdmpojaaDoor
open Go.RowKit Nt Fm Fl

def woV0 (x mode : Int) : Int := if fcls x = 5 then 9221120237041090560 else if fcls x = 4 then x else fabs (numR (mulD (valD x) 0 mode) 0) + sgn x 0
def woC0 (x : Int) : Bool := if fcls x = 5 then false else if fcls x = 4 then false else mulC (valD x) 0
def woV (x mode : Int) : Int := if knownB mode = true then woV0 x mode else 0
def woC (x mode : Int) : Bool := if knownB mode = true then woC0 x else false
theorem woV_no {x mode : Int} (hk : knownB mode = false) : woV x mode = 0 ∧ woC x mode = false ∧ adE mode = 1 := by unfold woV woC adE; rw [hk]; exact ⟨rfl, rfl, rfl⟩
theorem woV_yes {x mode : Int} (hk : knownB mode = true) : woV x mode = woV0 x mode ∧ woC x mode = woC0 x ∧ adE mode = 0 := by unfold woV woC adE; rw [hk]; exact ⟨rfl, rfl, rfl⟩
theorem and_wsg {x : Int} (x0 : 0 ≤ x) (x1 : x ≤ 18446744073709551615) : bits .and .u64 x 9223372036854775808 = sgn x 0 := by
  have h := and_sgn x0 x1 (show (0 : Int) ≤ 0 by decide) (show (0 : Int) ≤ 18446744073709551615 by decide)
  have e : bits .xor .u64 x 0 = x := by
    obtain ⟨a, rfl⟩ := Int.eq_ofNat_of_zero_le x0
    have := u64_xor_nat a 0 (by omega) (by decide)
    rw [show ((0 : Nat) : Int) = 0 from rfl] at this
    rw [this, Nat.xor_zero]
  rw [e] at h; exact h
theorem or_wsg {o : Int} (x : Int) (h0 : 0 ≤ o) (h1 : o ≤ 9223372036854775807) : bits .or .u64 o (sgn x 0) = o + sgn x 0 := by
  unfold sgn; split
  · rw [or_zero' o h0 (by omega), Int.add_zero]
  · rw [or_sign2 o h0 (by omega)]
theorem mulD_bd {d : D} {k : Nat} (mode : Int) (hm : d.m < 2 ^ k) (e0 : -2000 ≤ d.e) (e1 : d.e ≤ 2000) : (mulD d 0 mode).m < 2 ^ (k + 1) ∧ -2000 ≤ (mulD d 0 mode).e ∧ (mulD d 0 mode).e ≤ 2001 + k := by
  unfold mulD
  split
  · obtain ⟨b1, b2⟩ := norm_bd d.neg d.e hm
    refine ⟨by rw [Nat.pow_succ]; omega, ?_⟩
    rcases b2 with b2 | b2
    · rw [b2]; exact ⟨by decide, by show (0 : Int) ≤ _; omega⟩
    · omega
  · have h := cutM_lt (neg := d.neg) (mode := mode) hm (show 0 < 0 - d.e by omega)
    obtain ⟨b1, b2⟩ := norm_bd d.neg 0 h
    refine ⟨by omega, ?_⟩
    rcases b2 with b2 | b2
    · rw [b2]; exact ⟨by decide, by show (0 : Int) ≤ _; omega⟩
    · omega
theorem mulD_Nf (d : D) (pl mode : Int) : (mulD d pl mode).Nf := by unfold mulD; split <;> exact norm_nf _ _ _
/-- is it whole? -/
def isW (x : Int) : Bool := hasV x && decide (0 ≤ (valD x).e)
set_option maxRecDepth 100000 in
set_option maxHeartbeats 4000000 in
theorem wis_any (x : Int) (x0 : 0 ≤ x) (x1 : x ≤ 18446744073709551615) (w : World) (hT : Tab w) :
    Calls Tryd.prog 49 #[.int .u64 x] w fun e w' => e = .returned (.bool (isW x)) ∧ Below w.heap.size w w' := by
  have hhv := fun w' => hasValue_any x x0 x1 w'
  have hval := fun w' h => value_any x x0 x1 w' h
  have HVAL := Lib.hid hval
  have HT := Lib.hid hT
  clear hval hT
  cases hv : hasV x
  · rw [hv] at hhv
    have e : isW x = false := by unfold isW; rw [hv]; rfl
    rw [e]; clear e
    have HHV := Lib.hid hhv
    clear hhv
    go_enter Tryd.func49, Tryd.ntmps49
    go_wp2_with (go_at_call 44; (with_reducible refine (HHV.out _).mono ?_); rintro e w' ⟨rfl, rfl⟩)
    go_ret
    exact ⟨rfl, Below.refl _ _⟩
  · rw [hv] at hhv
    have e : isW x = decide (0 ≤ (valD x).e) := by unfold isW; rw [hv]; rfl
    rw [e]; clear e
    generalize valD x = vx at *
    have HHV := Lib.hid hhv
    clear hhv
    go_enter Tryd.func49, Tryd.ntmps49
    go_wp2_with (go_at_call 44; (with_reducible refine (HHV.out _).mono ?_); rintro e w' ⟨rfl, rfl⟩)
    refine (HVAL.out _ HT.out).mono ?_
    rintro r w2 ⟨v2, rfl, ⟨s2, rfl, hv⟩, hb⟩
    obtain ⟨a2, n2, c2, rfl⟩ := hv.shape
    have B2 := Lib.hid hb
    have q := fun w => run_field2 vx.neg (.slice a2 n2 c2) vx.e w
    clear hv hb
    go_wp2
    go_ret
    exact ⟨rfl, B2.out⟩
/-- from an int -/
def frD (n : Int) : D := norm (decide (n < 0)) n.natAbs 0
def frV (n mode : Int) : Int := if knownB mode = true then numR (frD n) mode else 0
def frC (n mode : Int) : Bool := if knownB mode = true then numC (frD n) else false
theorem conv_pos {n : Int} (h0 : 0 ≤ n) (h1 : n ≤ 9223372036854775807) : IntKind.u64.wrap n = n := IntWalk.u64_in n ⟨h0, by omega⟩
theorem conv_neg {n : Int} (h0 : -9223372036854775808 ≤ n) (h1 : n < 0) : IntKind.u64.wrap n = n + 18446744073709551616 ∧ IntKind.u64.wrap (-(n + 18446744073709551616)) = -n := by
  constructor
  · unfold IntKind.wrap; simp [IntKind.bits, IntKind.signed]; omega
  · unfold IntKind.wrap; simp [IntKind.bits, IntKind.signed]; omega
end Go.Proofs.YtfnchcogdmpojaaDoor

/-
  THE WALKS of whole.Int, wholeLives.
-/
namespace Go.Proofs.YtfnchcogdmpojaaDoor
open Go.RowKit Nt Fm Fl

def inR (x mode : Int) : D := mulD (valD x) 0 mode
def inM (x mode : Int) : Nat := (inR x mode).m * 2 ^ (inR x mode).e.toNat
def most (g : Bool) : Nat := if g = true then 9223372036854775808 else 9223372036854775807
def inE (x mode : Int) : Int := if knownB mode = true then (if hasV x = true then (if most (inR x mode).neg < inM x mode then 4 else 0) else 4) else 1
def inV (x mode : Int) : Int := if inE x mode = 0 then (if (inR x mode).neg = true then -(inM x mode : Int) else (inM x mode : Int)) else 0
def inC (x mode : Int) : Bool := if inE x mode = 0 then mulC (valD x) 0 else false
theorem neg_conv {n : Int} (h0 : 0 ≤ n) (h1 : n ≤ 9223372036854775808) : wrap64 (IntKind.u64.wrap (-n)) = -n := by
  unfold IntKind.wrap wrap64; simp [IntKind.bits, IntKind.signed]; omega
theorem or_zero3 (x : Nat) (hx : x < 18446744073709551616) : bits .or .u64 0 (x : Int) = (x : Int) := by
  have h := bits_or_u64_nat 0 x (by decide) hx
  rw [show ((0 : Nat) : Int) = 0 from rfl, Nat.zero_or] at h; exact h
theorem or_hi3 (c x : Nat) (hc : c < 4294967296) (hx : x < 4294967296) : bits .or .u64 (c : Int) ((x : Int) * 4294967296) = ((c + x * 4294967296 : Nat) : Int) := or_high c x hc hx
set_option maxRecDepth 100000 in
set_option maxHeartbeats 8000000 in
theorem wint_any (x mode : Int) (x0 : 0 ≤ x) (x1 : x ≤ 18446744073709551615) (m0' : -9223372036854775808 ≤ mode) (m1' : mode ≤ 9223372036854775807) (w : World) (hT : Tab w) :
    Calls Tryd.prog 50 #[.int .u64 x, .int .i64 mode] w fun e w' => e = .returned (.tuple #[.int .i64 (inV x mode), .bool (inC x mode), .int .i64 (inE x mode)]) ∧ Below w.heap.size w w' := by
  cases hk : knownB mode
  · have e3 : inE x mode = 1 := by unfold inE; rw [hk]; rfl
    have e1 : inV x mode = 0 := by unfold inV; rw [e3]; rfl
    have e2 : inC x mode = false := by unfold inC; rw [e3]; rfl
    rw [e1, e2, e3]; clear e1 e2 e3 hT
    go_enter Tryd.func50, Tryd.ntmps50
    go_wp2_with (go_at_call 53; refine (known_any _ _).mono ?_; rintro e w' ⟨rfl, rfl⟩)
    go_ret3
    exact ⟨rfl, Below.refl _ _⟩
  · have hhv := fun w' => hasValue_any x x0 x1 w'
    cases hv : hasV x
    · have e3 : inE x mode = 4 := by unfold inE; rw [hk, hv]; rfl
      have e1 : inV x mode = 0 := by unfold inV; rw [e3]; rfl
      have e2 : inC x mode = false := by unfold inC; rw [e3]; rfl
      rw [hv] at hhv
      have HHV := Lib.hid hhv
      rw [e1, e2, e3]; clear e1 e2 e3 hT hhv hv
      go_enter Tryd.func50, Tryd.ntmps50
      go_wp2_with (first | (go_at_call 53; refine (known_any _ _).mono ?_; rintro e w' ⟨rfl, rfl⟩) | (go_at_call 44; (with_reducible refine (HHV.out _).mono ?_); rintro e w' ⟨rfl, rfl⟩))
      go_ret3
      exact ⟨rfl, Below.refl _ _⟩
    · have hm : 0 ≤ mode ∧ mode ≤ 4 := by unfold knownB at hk; simpa using hk
      obtain ⟨v1, v2, v3, v4, -⟩ := valD_facts x x0 x1
      have hval := fun w' h => value_any x x0 x1 w' h
      have hmul := fun v w' h h2 => multiple_any v (valD x) 53 0 mode w' h h2 v2 (by omega) (by omega) (by omega) (by omega) (by omega) hm.1 hm.2
      obtain ⟨b1, b2, b3⟩ := mulD_bd mode v2 (by omega) (by omega)
      have h0 : 0 ≤ (mulD (valD x) 0 mode).e := by
        obtain ⟨I, -, -, -, -, h⟩ := mul_spec (valD x) 0 mode (T := 1074) v1 (by omega) (by decide) hm.1 hm.2
        rcases h with h | h
        · rw [h]; decide
        · exact h
      have hleft := fun v w' h => left_any v (mulD (valD x) 0 mode).m (mulD (valD x) 0 mode).e.toNat 54 (mulD (valD x) 0 mode).e w' h (by omega) b1 (by decide) (by omega)
      have hM : (mulD (valD x) 0 mode).m * 2 ^ (mulD (valD x) 0 mode).e.toNat = inM x mode := rfl
      rw [hM] at hleft
      have hMb : ∃ q, q ≤ 3000 ∧ inM x mode < 2 ^ q := by
        refine ⟨54 + (mulD (valD x) 0 mode).e.toNat, by omega, ?_⟩
        unfold inM inR; rw [Nat.pow_add]
        exact Nat.mul_lt_mul_of_pos_right b1 (Nat.two_pow_pos _)
      have eE : inE x mode = if most (mulD (valD x) 0 mode).neg < inM x mode then 4 else 0 := by unfold inE; rw [hk, hv]; rfl
      have eV : inV x mode = if inE x mode = 0 then (if (mulD (valD x) 0 mode).neg = true then -(inM x mode : Int) else (inM x mode : Int)) else 0 := rfl
      have eC : inC x mode = if inE x mode = 0 then mulC (valD x) 0 else false := rfl
      rw [hv] at hhv
      clear hm v1 v2 v3 v4 b1 b2 b3 hM hv
      generalize inE x mode = E at *
      generalize inV x mode = V at *
      generalize inC x mode = C at *
      generalize inM x mode = M at *
      generalize mulC (valD x) 0 = mC at *
      generalize mulD (valD x) 0 mode = R at *
      generalize valD x = vx at *
      have HHV := Lib.hid hhv
      have HVAL := Lib.hid hval
      have HMUL := Lib.hid hmul
      have HLEFT := Lib.hid hleft
      have HT := Lib.hid hT
      have EE := Lib.hid eE
      have EV := Lib.hid eV
      have EC := Lib.hid eC
      have HK : Hid (knownB mode = true) := Lib.hid hk
      clear hhv hval hmul hleft hT eE eV eC
      go_enter Tryd.func50, Tryd.ntmps50
      go_wp2_with (first | (go_at_call 53; refine (known_any _ _).mono ?_; rintro e w' ⟨rfl, rfl⟩) | (go_at_call 44; (with_reducible refine (HHV.out _).mono ?_); rintro e w' ⟨rfl, rfl⟩))
      refine (HVAL.out _ HT.out).mono ?_
      rintro r w2 ⟨v2, rfl, ⟨s2, rfl, hv⟩, hb⟩
      obtain ⟨a2, n2, c2, rfl⟩ := hv.shape
      have VO2 := Lib.hid hv
      have R2 : Hid (Below w.heap.size w w2) := Lib.hid hb
      clear hv hb
      go_wp2_with fail
      refine (HMUL.out _ _ (HT.out.below R2.out) ⟨_, rfl, VO2.out⟩).mono ?_
      rintro r w3 ⟨a3, n3, c3, rfl, hv, hb⟩
      have XW := Lib.hid (Box.new w3 (.bool R.neg) (.slice a3 n3 c3) (.int .i64 R.e) 76)
      have NW := Lib.hid (hv.alloc (.cells #[.bool R.neg, .slice a3 n3 c3, .int .i64 R.e] 76))
      have R3 : Hid (Below w.heap.size w w3) := Lib.hid (bl_thru R2.out (Nat.le_refl _) hb)
      have BW : Hid (Below w.heap.size w _) := Lib.hid (R3.out.alloc R3.out.size (.cells #[.bool R.neg, .slice a3 n3 c3, .int .i64 R.e] 76))
      obtain ⟨q0, q1, q2, f0, f1, f2⟩ := XW.out.cells
      clear hv hb
      go_wp2_with fail
      refine (HLEFT.out _ _ NW.out).mono ?_
      rintro r w4 ⟨v4, rfl, hv, hb⟩
      obtain ⟨q, hq, hMq⟩ := hMb
      obtain ⟨l, hl, el, ⟨-, ao, cap, rfl, hcap, hmx, hc⟩, hlen⟩ := hv.len hMq
      unfold maxLen at hmx
      have B4 : Hid (Below w.heap.size w w4) := Lib.hid (bl_thru BW.out (Nat.le_refl _) hb)
      have X4 := Lib.hid (XW.out.below hb)
      clear q0 q1 q2 f0 f1 f2
      obtain ⟨q0, q1, q2, f0, f1, f2⟩ := X4.out.cells
      have hlims := Lib.hid hl.1
      have HL := Lib.hid hl
      have EL := Lib.hid el
      clear hv hb hMq hl el
      rcases hc with hc | ⟨b2, o2, rfl, hlt2, hcell⟩
      all_goals
        go_wp2
        go_loop [10, 34] (fun v i => ∃ k N : Nat, k ≤ l.length ∧ i = .int .i64 k ∧ v = .int .u64 ((N : Nat) : Int) ∧ N = val (l.take (min k 2))) (fun _ i => l.length - (intOf i).toNat)
        case atStart => exact ⟨0, 0, Nat.zero_le _, rfl, rfl, rfl⟩
        case round =>
          obtain ⟨k, N, hk, rfl, rfl, hN⟩ := hrel
          have HN := Lib.hid hN
          clear hN
          by_cases hkp : k < l.length
          · first
              | (exfalso; omega)
              | (obtain ⟨x, hx⟩ : ∃ x, x = l.getD k 0 := ⟨_, rfl⟩
                 have hx1 : x < 4294967296 := by rw [hx]; exact hlims.out.getD k
                 have hcx := hcell k hkp
                 rw [← hx] at hcx
                 have HX := Lib.hid hx
                 have HC2 := Lib.hid hcell
                 clear hx hcell
                 have hk01 : k = 0 ∨ k = 1 ∨ 2 ≤ k := by omega
                 rcases hk01 with rfl | rfl | hk2
                 · obtain rfl : N = 0 := HN.out
                   rw [Nat.add_zero] at hcx
                   have e3 := or_zero3 x (by omega)
                   go_wp2
                   go_round
                   case rel => exact ⟨1, x, by omega, by go_num, by simp, by rw [show min 1 2 = 0 + 1 from rfl, val_take_succ l 0 hkp, HX.out]; simp [List.getD, hkp, val]⟩
                   case measure => simp [intOf]; omega
                 · have hN1 : N < 4294967296 := by
                     have := val_lt (hlims.out.take 1)
                     rw [HN.out]; rw [List.length_take, Nat.min_eq_left (by omega)] at this; exact this
                   have e3 := or_hi3 N x hN1 hx1
                   go_wp2
                   go_round
                   case rel => exact ⟨2, N + x * 4294967296, by omega, by go_num, by simp, by rw [show min 2 2 = 1 + 1 from rfl, val_take_succ l 1 hkp, HN.out, HX.out]; simp [List.getD, hkp, show min 1 2 = 1 from rfl, Nat.mul_comm]⟩
                   case measure => simp [intOf]; omega
                 · have hkk : decide ((k : Int) < 2) = false := by simp; omega
                   have hN1 : N < 18446744073709551616 := by
                     have := val_lt (hlims.out.take 2)
                     rw [HN.out, show min k 2 = 2 by omega]; rw [List.length_take, Nat.min_eq_left (by omega)] at this; exact this
                   go_wp2
                   go_round
                   case rel => exact ⟨k + 1, N, by omega, by go_num, rfl, by rw [HN.out, show min (k + 1) 2 = min k 2 by omega]⟩
                   case measure => simp [intOf]; omega)
          · have hke : k = l.length := by omega
            have hN1 : N < 18446744073709551616 := by
              have := val_lt (hlims.out.take (min k 2))
              rw [← HN.out] at this
              have h2 : 2 ^ (32 * (l.take (min k 2)).length) ≤ 2 ^ 64 := Nat.pow_le_pow_right (by decide) (by rw [List.length_take]; omega)
              omega
            have hfin : (2 < l.length ∧ E = 4 ∧ V = 0 ∧ C = false) ∨ (l.length ≤ 2 ∧ R.neg = true ∧ 9223372036854775808 < N ∧ E = 4 ∧ V = 0 ∧ C = false) ∨ (l.length ≤ 2 ∧ R.neg = false ∧ 9223372036854775807 < N ∧ E = 4 ∧ V = 0 ∧ C = false) ∨
                (l.length ≤ 2 ∧ R.neg = true ∧ N ≤ 9223372036854775808 ∧ E = 0 ∧ V = -(N : Int) ∧ C = mC) ∨ (l.length ≤ 2 ∧ R.neg = false ∧ N ≤ 9223372036854775807 ∧ E = 0 ∧ V = (N : Int) ∧ C = mC) := by
              have eE := EE.out
              have eV := EV.out
              have eC := EC.out
              by_cases h2 : 2 < l.length
              · left
                have h3 := HL.out.ge (l.length - 1) (by omega)
                rw [EL.out] at h3
                have h4 : 2 ^ 64 ≤ 2 ^ (32 * (l.length - 1)) := Nat.pow_le_pow_right (by decide) (by omega)
                have h5 : most R.neg < M := by unfold most; split <;> omega
                rw [if_pos h5] at eE
                rw [eE, if_neg (by decide)] at eV eC
                exact ⟨h2, eE, eV, eC⟩
              · right
                have h3 : N = M := by
                  rw [HN.out, ← EL.out, List.take_of_length_le (by omega)]
                rw [← h3] at eE eV
                clear h3
                by_cases h5 : most R.neg < N
                · rw [if_pos h5] at eE
                  rw [eE, if_neg (by decide)] at eV eC
                  unfold most at h5
                  cases hg : R.neg <;> rw [hg] at h5 <;> simp at h5
                  · right; left; exact ⟨by omega, rfl, by omega, eE, eV, eC⟩
                  · left; exact ⟨by omega, rfl, by omega, eE, eV, eC⟩
                · rw [if_neg h5] at eE
                  rw [eE, if_pos rfl] at eV eC
                  unfold most at h5
                  cases hg : R.neg <;> rw [hg] at h5 eV <;> simp at h5 eV
                  · right; right; right; exact ⟨by omega, rfl, by omega, eE, eV, eC⟩
                  · right; right; left; exact ⟨by omega, rfl, by omega, eE, eV, eC⟩
            clear EE EV EC hke HN
            try clear hcell
            rcases hfin with ⟨h2, rfl, rfl, rfl⟩ | ⟨h2, hg, h5, rfl, rfl, rfl⟩ | ⟨h2, hg, h5, rfl, rfl, rfl⟩ | ⟨h2, hg, h5, rfl, rfl, rfl⟩ | ⟨h2, hg, h5, rfl, rfl, rfl⟩
            · cases hg : R.neg
              all_goals first
                | (exfalso; omega)
                | (rw [hg] at q0
                   have h6 : decide ((2 : Int) < (l.length : Int)) = true := by simp; omega
                   go_wp2
                   go_ret3
                   exact ⟨rfl, B4.out⟩)
            · rw [hg] at q0
              have h6 : (9223372036854775808 : Int) < (N : Int) := by omega
              go_wp2
              go_ret3
              exact ⟨rfl, B4.out⟩
            · rw [hg] at q0
              have h6 : (9223372036854775807 : Int) < (N : Int) := by omega
              go_wp2
              go_ret3
              exact ⟨rfl, B4.out⟩
            · rw [hg] at q0
              have h6 : (N : Int) ≤ 9223372036854775808 := by omega
              have h7 := neg_conv (n := (N : Int)) (by omega) h6
              go_wp2
              go_ret3
              exact ⟨rfl, B4.out⟩
            · rw [hg] at q0
              have h6 : (N : Int) ≤ 9223372036854775807 := by omega
              go_wp2
              go_ret3
              exact ⟨rfl, B4.out⟩
theorem wlives_facts : woV 4612811918334230528 0 = 4611686018427387904 ∧ woC 4612811918334230528 0 = true ∧ inV 13836183955189006336 2 = -3 ∧ inE 13836183955189006336 2 = 0 ∧ frV (-3) 0 = 13837309855095848960 ∧ isW 13837309855095848960 = true ∧ adE 0 = 0 :=
  ⟨by kernel_rfl, by kernel_rfl, by kernel_rfl, by kernel_rfl, by kernel_rfl, by kernel_rfl, by kernel_rfl⟩
end Go.Proofs.YtfnchcogdmpojaaDoor

/-
  THE WALKS of ulpkeep.wholeOf, and of the test for small whole numbers in SpanParts.
-/
namespace Go.Proofs.YtfnchcogdmpojaaDoor
open Go.RowKit Nt Fm Fl

def woN (x : Int) : Int := if isW x = true then inV x 0 else 0
def woB (x : Int) : Bool := isW x && (inE x 0 == 0)
set_option maxHeartbeats 4000000 in
theorem wholeOf_any (x : Int) (x0 : 0 ≤ x) (x1 : x ≤ 18446744073709551615) (w : World) (hT : Tab w) :
    Calls Tryd.prog 21 #[.int .u64 x] w fun e w' => e = .returned (.tuple #[.int .i64 (woN x), .bool (woB x)]) ∧ Below w.heap.size w w' := by
  have WI := Lib.hid (fun w' h => wis_any x x0 x1 w' h)
  have IN := Lib.hid (fun w' h => wint_any x 0 x0 x1 (by decide) (by decide) w' h)
  have hcase : (isW x = false ∧ woN x = 0 ∧ woB x = false) ∨ (isW x = true ∧ woN x = inV x 0 ∧ woB x = (inE x 0 == 0)) := by
    unfold woN woB; cases isW x <;> simp
  have HT := Lib.hid hT
  clear hT
  generalize woN x = n at *
  generalize woB x = b at *
  generalize isW x = i at *
  generalize inV x 0 = v at *
  generalize inE x 0 = e at *
  rcases hcase with ⟨rfl, rfl, rfl⟩ | ⟨rfl, rfl, rfl⟩
  all_goals
    go_enter Tryd.func21, Tryd.ntmps21
    go_wp2_with fail
    refine (WI.out _ HT.out).mono ?_
    rintro r w1 ⟨rfl, hb⟩
    have B1 := Lib.hid hb
    clear hb
    go_wp2_with fail
    first
      | (go_ret2
         exact ⟨rfl, B1.out⟩)
      | (refine (IN.out _ (HT.out.below B1.out)).mono ?_
         rintro r w2 ⟨rfl, hb⟩
         have B2 := Lib.hid (bl_thru B1.out (Nat.le_refl _) hb)
         clear hb
         go_wp2
         go_ret2
         exact ⟨rfl, B2.out⟩)
def smB (x : Int) : Bool := woB x && (decide (-1000 ≤ woN x) && decide (woN x ≤ 1000))
set_option maxHeartbeats 4000000 in
theorem smallW_any (x : Int) (x0 : 0 ≤ x) (x1 : x ≤ 18446744073709551615) (w : World) (hT : Tab w) :
    Calls Tryd.prog 20 #[.int .u64 x] w fun e w' => e = .returned (.bool (smB x)) ∧ Below w.heap.size w w' := by
  have WO := Lib.hid (fun w' h => wholeOf_any x x0 x1 w' h)
  have hcase : (woB x = false ∧ smB x = false) ∨ (woB x = true ∧ ¬ (-1000 ≤ woN x) ∧ smB x = false) ∨ (woB x = true ∧ (-1000 ≤ woN x) ∧ smB x = decide (woN x ≤ 1000)) := by
    unfold smB
    cases woB x
    · simp
    · by_cases h1 : -1000 ≤ woN x
      · simp [h1]
      · simp [h1]
  have HT := Lib.hid hT
  clear hT
  generalize smB x = r at *
  generalize woB x = b at *
  generalize woN x = n at *
  rcases hcase with ⟨rfl, rfl⟩ | ⟨rfl, h1, rfl⟩ | ⟨rfl, h1, rfl⟩
  all_goals
    go_enter Tryd.func20, Tryd.ntmps20
    go_wp2_with fail
    refine (WO.out _ HT.out).mono ?_
    rintro r w1 ⟨rfl, hb⟩
    have B1 := Lib.hid hb
    clear hb
    go_wp2
    go_ret
    exact ⟨rfl, B1.out⟩
end Go.Proofs.YtfnchcogdmpojaaDoor

/-
  PLAIN: numbers rounded to whole ones; ints. No Go function here.
-/
namespace Go.Proofs.YtfnchcogdmpojaaDoor
open Go.RowKit Nt Fm Fl

theorem mulD_neg {d : D} {pl mode : Int} (h : (mulD d pl mode).m ≠ 0) : (mulD d pl mode).neg = d.neg := by
  unfold mulD at *
  split at h
  · rename_i hc; rw [if_pos hc]
    unfold norm at *; split
    · rename_i hz; rw [if_pos hz] at h; exact absurd rfl h
    · rfl
  · rename_i hc; rw [if_neg hc]
    unfold norm at *; split
    · rename_i hz; rw [if_pos hz] at h; exact absurd rfl h
    · rfl
theorem int_float {I : Nat} (h : I ≤ 9007199254740992) (t : Nat) (ht : t = 1074) : ∃ r, r < MR ∧ mag r = I * 2 ^ t := by
  obtain ⟨r, hr⟩ := mag_rep t I h
  refine ⟨r, ?_, hr⟩
  have h2 := mag_of 9007199254740992 t (Or.inl (by decide)) (Nat.le_refl _)
  have h3 : mag r ≤ mag (9007199254740992 + t * 4503599627370496) := by rw [hr, h2]; exact Nat.mul_le_mul_right _ h
  have h4 := mag_le_iff.1 h3
  have hMR : MR = 9218868437227405312 := rfl
  omega
theorem int_vl (neg : Bool) (I T : Nat) : ((norm neg I 0).vl T).natAbs = I * 2 ^ T := by
  rw [norm_vl _ _ _ _ (by omega), vl_natAbs]
  show I * 2 ^ ((0 : Int) + (T : Int)).toNat = I * 2 ^ T
  rw [Int.zero_add, Int.toNat_natCast]
theorem mul_whole {d : D} {mode : Int} (hd : d.Nf) (hm : d.m < 2 ^ 53) (he : 0 ≤ d.e + ((1074 : Nat) : Int)) (hc : numC d = false) (m0 : 0 ≤ mode) (m1 : mode ≤ 4) : 0 ≤ (mulD d 0 mode).e ∧ numC (mulD d 0 mode) = false := by
  have h0 : 0 ≤ (mulD d 0 mode).e := by
    obtain ⟨I, -, -, -, -, h⟩ := mul_spec d 0 mode (T := 1074) hd he (by decide) m0 m1
    rcases h with h | h
    · rw [h]; decide
    · exact h
  refine ⟨h0, ?_⟩
  cases hC : mulC d 0
  · rw [(mul_same hd m0 m1).1 hC]; exact hc
  · have hcc : ¬ (0 ≤ d.e ∨ d.m = 0) := by
      intro h; unfold mulC at hC; rw [if_pos h] at hC; cases hC
    have e1 : mulD d 0 mode = norm d.neg (cutM d.neg d.m (0 - d.e) mode) 0 := by unfold mulD; rw [if_neg hcc]
    have hI : cutM d.neg d.m (0 - d.e) mode ≤ 9007199254740992 := by
      have h1 := cutM_lt (neg := d.neg) (mode := mode) hm (show 0 < 0 - d.e by omega)
      unfold cutM
      rw [if_neg (by omega)]
      have h2 : d.m / 2 ^ (0 - d.e).toNat ≤ d.m / 2 := Nat.div_le_div_left (by
        have : 2 ^ 1 ≤ 2 ^ (0 - d.e).toNat := Nat.pow_le_pow_right (by decide) (by omega)
        omega) (by decide)
      split
      · omega
      · split <;> omega
    obtain ⟨r, hr, er⟩ := int_float hI 1074 rfl
    refine chg_of (by rw [e1]; exact norm_eT (by decide)) hr ?_
    rw [e1, int_vl, er]
theorem sgn0 (x : Int) : sgn x 0 = if fng x = true then 9223372036854775808 else 0 := by
  have : fng 0 = false := by decide
  unfold sgn; rw [this]; cases fng x <;> simp
theorem known_in {mode : Int} (h : knownB mode = true) : 0 ≤ mode ∧ mode ≤ 4 := by unfold knownB at h; simpa using h
/-- a number rounded to a whole one -/
theorem wo_fin {x mode : Int} (x0 : 0 ≤ x) (x1 : x ≤ 18446744073709551615) (hx : fabs x < 9218868437227405312) (m0 : 0 ≤ mode) (m1 : mode ≤ 4) :
    (0 ≤ woV0 x mode ∧ woV0 x mode ≤ 18446744073709551615) ∧ fabs (woV0 x mode) < 9218868437227405312 ∧ valD (woV0 x mode) = mulD (valD x) 0 mode ∧ fng (woV0 x mode) = fng x ∧ woC0 x = mulC (valD x) 0 ∧
    woV0 x mode = fabs (numR (mulD (valD x) 0 mode) 0) + sgn x 0 := by
  obtain ⟨f1, f2, f3, f4, f5⟩ := valD_facts x x0 x1
  obtain ⟨c5, c4⟩ := fcls_fin hx
  obtain ⟨w1, w2⟩ := mul_whole (mode := mode) f1 f2 (by omega) (valD_num x x0 x1 hx 0).1 m0 m1
  have hn := mulD_Nf (valD x) 0 mode
  have hneg := @mulD_neg (valD x) 0 mode
  have eV : woV0 x mode = fabs (numR (mulD (valD x) 0 mode) 0) + sgn x 0 := by unfold woV0; rw [if_neg c5, if_neg c4]
  have eC : woC0 x = mulC (valD x) 0 := by unfold woC0; rw [if_neg c5, if_neg c4]
  obtain ⟨g1, g2⟩ := fng_numR (mulD (valD x) 0 mode) 0
  obtain ⟨v1, v2⟩ := valD_numR hn 0 w2
  have nb := numR_bd (mulD (valD x) 0 mode) 0
  have fb := fabs_bd (numR (mulD (valD x) 0 mode) 0)
  have hv : fabs (numR (mulD (valD x) 0 mode) 0) < 9218868437227405312 := by unfold hasV at v2; simpa using v2
  rw [sgn0] at eV
  have e2 : fabs (woV0 x mode) = fabs (numR (mulD (valD x) 0 mode) 0) ∧ fng (woV0 x mode) = fng x := by
    rw [eV]
    generalize fabs (numR (mulD (valD x) 0 mode) 0) = o at *
    cases fng x
    · simp only [Bool.false_eq_true, if_false]; unfold fabs fng; rw [decide_eq_false (by omega)]; exact ⟨by omega, rfl⟩
    · simp only [if_true]; unfold fabs fng; rw [decide_eq_true (by omega)]; exact ⟨by omega, rfl⟩
  have eB : 0 ≤ woV0 x mode ∧ woV0 x mode ≤ 18446744073709551615 := by rw [eV]; split <;> omega
  refine ⟨eB, by rw [e2.1]; exact hv, ?_, e2.2, eC, by rw [eV, sgn0]⟩
  by_cases hz : (mulD (valD x) 0 mode).m = 0
  · have : fabs (numR (mulD (valD x) 0 mode) 0) = 0 := by
      have : numk (kd (mulD (valD x) 0 mode).neg 0) (mulD (valD x) 0 mode).m (mulD (valD x) 0 mode).e = 0 := by unfold numk; rw [if_pos hz]
      omega
    rw [this] at e2
    rw [nf_z hn hz]; exact (hasV_z e2.1).2
  · have h3 := hneg hz
    have hd : (valD x).m ≠ 0 := by
      intro h; apply hz
      unfold mulD; rw [if_pos (Or.inr h), h]; rfl
    rw [f5 hd] at h3
    rw [h3] at g2
    have : woV0 x mode = numR (mulD (valD x) 0 mode) 0 := by
      rw [eV, ← g2]
      generalize numR (mulD (valD x) 0 mode) 0 = o at *
      unfold fabs fng; simp only [decide_eq_true_eq]; split <;> omega
    rw [this]; exact v1
theorem wo_again {x mode : Int} (x0 : 0 ≤ x) (x1 : x ≤ 18446744073709551615) (hx : fabs x < 9218868437227405312) (m0 : 0 ≤ mode) (m1 : mode ≤ 4) : woV0 (woV0 x mode) mode = woV0 x mode ∧ woC0 (woV0 x mode) = false := by
  obtain ⟨b, h1, h2, h3, h4, h5⟩ := wo_fin x0 x1 hx m0 m1
  obtain ⟨f1, -⟩ := valD_facts x x0 x1
  obtain ⟨a1, a2⟩ := mul_again (few := 0) f1 m0 m1 (Int.le_refl 0) mode
  obtain ⟨-, -, -, -, k4, k5⟩ := wo_fin b.1 b.2 h1 m0 m1
  rw [k5, k4, h2, a1, a2]
  refine ⟨?_, rfl⟩
  conv => rhs; rw [h5]
  rw [sgn0, sgn0, h3]
theorem wo_inf {x : Int} (mode : Int) (h : fabs x = 9218868437227405312) : woV0 x mode = x ∧ woC0 x = false := by
  have := fcls_4 h
  unfold woV0 woC0; rw [this]; exact ⟨rfl, rfl⟩
theorem wo_nan {x : Int} (mode : Int) (h : 9218868437227405312 < fabs x) : woV0 x mode = 9221120237041090560 ∧ woC0 x = false := by
  have := fcls_5 h
  unfold woV0 woC0; rw [this]; exact ⟨rfl, rfl⟩
theorem hasV_iff (x : Int) : hasV x = true ↔ fabs x < 9218868437227405312 := by unfold hasV; simp
theorem woV0_bd {x : Int} (mode : Int) (x0 : 0 ≤ x) (x1 : x ≤ 18446744073709551615) : 0 ≤ woV0 x mode ∧ woV0 x mode ≤ 18446744073709551615 := by
  have := fabs_bd (numR (mulD (valD x) 0 mode) 0)
  have := sgn_bd x 0
  unfold woV0; split; · omega
  split <;> omega
theorem woV_bd {x : Int} (mode : Int) (x0 : 0 ≤ x) (x1 : x ≤ 18446744073709551615) : 0 ≤ woV x mode ∧ woV x mode ≤ 18446744073709551615 := by
  have := woV0_bd mode x0 x1
  unfold woV; split <;> omega
theorem hasV_wo {x mode : Int} (x0 : 0 ≤ x) (x1 : x ≤ 18446744073709551615) (m0 : 0 ≤ mode) (m1 : mode ≤ 4) : hasV (woV0 x mode) = hasV x := by
  by_cases h1 : fabs x < 9218868437227405312
  · rw [(hasV_iff _).2 h1, (hasV_iff _).2 (wo_fin x0 x1 h1 m0 m1).2.1]
  · by_cases h2 : fabs x = 9218868437227405312
    · rw [(wo_inf mode h2).1]
    · rw [(wo_nan mode (by omega)).1]
      unfold hasV; rw [decide_eq_false h1]; decide
/-- the order of whole ones -/
theorem frank_of_smag {a b : Int} (ha : fabs a < 9218868437227405312) (hb : fabs b < 9218868437227405312) (h : smag a ≤ smag b) : frank a ≤ frank b := by
  have ba := fabs_bd a
  have bb := fabs_bd b
  rw [frank_fng (by omega), frank_fng (by omega)]
  unfold smag at h
  cases hga : fng a <;> cases hgb : fng b <;> rw [hga, hgb] at h <;> simp only [Bool.false_eq_true, if_false, if_true] at h ⊢
  · have := mag_le_iff.1 (show mag (fabs a).toNat ≤ mag (fabs b).toNat by omega); omega
  · have h1 := mag_inj (show mag (fabs a).toNat = mag 0 by rw [mag_zero]; omega)
    have h2 := mag_inj (show mag (fabs b).toNat = mag 0 by rw [mag_zero]; omega)
    omega
  · omega
  · have := mag_le_iff.1 (show mag (fabs b).toNat ≤ mag (fabs a).toNat by omega); omega
theorem wo_smag {x mode : Int} (x0 : 0 ≤ x) (x1 : x ≤ 18446744073709551615) (hx : fabs x < 9218868437227405312) (m0 : 0 ≤ mode) (m1 : mode ≤ 4) : smag (woV0 x mode) = (mulD (valD x) 0 mode).vl 1074 := by
  obtain ⟨b, h1, h2, h3, h4, h5⟩ := wo_fin x0 x1 hx m0 m1
  rw [← valD_sm b.1 b.2 h1, h2]
theorem wo_mono {x y mode : Int} (x0 : 0 ≤ x) (x1 : x ≤ 18446744073709551615) (y0 : 0 ≤ y) (y1 : y ≤ 18446744073709551615) (m0 : 0 ≤ mode) (m1 : mode ≤ 4) (e : frerr x = 0) (f : frerr y = 0) (h : frank x ≤ frank y) :
    frerr (woV0 x mode) = 0 ∧ frerr (woV0 y mode) = 0 ∧ frank (woV0 x mode) ≤ frank (woV0 y mode) ∧ (mode = 2 → frank (woV0 x mode) ≤ frank x) ∧ (mode = 1 → frank x ≤ frank (woV0 x mode)) := by
  have hx := frerr_0 e
  have hy := frerr_0 f
  have ok : ∀ v, 0 ≤ v → v ≤ 18446744073709551615 → fabs v ≤ 9218868437227405312 → frerr (woV0 v mode) = 0 ∧ (fabs v < 9218868437227405312 → fabs (woV0 v mode) < 9218868437227405312) ∧ (fabs v = 9218868437227405312 → woV0 v mode = v) := by
    intro v v0 v1 hv
    by_cases hi : fabs v = 9218868437227405312
    · rw [(wo_inf mode hi).1]
      exact ⟨by unfold frerr; rw [if_neg (by omega)], fun h => absurd hi (by omega), fun _ => rfl⟩
    · have := (wo_fin v0 v1 (show fabs v < 9218868437227405312 by omega) m0 m1).2.1
      exact ⟨by unfold frerr; rw [if_neg (by omega)], fun _ => this, fun h => absurd h hi⟩
  obtain ⟨a1, a2, a3⟩ := ok x x0 x1 hx
  obtain ⟨b1, b2, b3⟩ := ok y y0 y1 hy
  refine ⟨a1, b1, ?_, ?_, ?_⟩
  · by_cases xi : fabs x = 9218868437227405312
    · rw [a3 xi]
      by_cases yi : fabs y = 9218868437227405312
      · rw [b3 yi]; exact h
      · rcases frank_inf xi with k | k
        · have := (frank_le_fabs y).1; omega
        · rw [k]; exact (frank_bd _).1
    · by_cases yi : fabs y = 9218868437227405312
      · rw [b3 yi]
        rcases frank_inf yi with k | k
        · rw [k]; exact (frank_bd _).2
        · have := (frank_le_fabs x).2; omega
      · have hx1 : fabs x < 9218868437227405312 := by omega
        have hy1 : fabs y < 9218868437227405312 := by omega
        refine frank_of_smag (a2 hx1) (b2 hy1) ?_
        rw [wo_smag x0 x1 hx1 m0 m1, wo_smag y0 y1 hy1 m0 m1]
        refine mul_mono (valD_nf x) (valD_nf y) (valD_e x0 x1) (valD_e y0 y1) (by decide) m0 m1 ?_
        rw [valD_sm x0 x1 hx1, valD_sm y0 y1 hy1]
        exact smag_mono hx1 hy1 h
  · intro hm; subst hm
    by_cases xi : fabs x = 9218868437227405312
    · rw [a3 xi]; exact Int.le_refl _
    · have hx1 : fabs x < 9218868437227405312 := by omega
      refine frank_of_smag (a2 hx1) hx1 ?_
      rw [wo_smag x0 x1 hx1 m0 m1, ← valD_sm x0 x1 hx1]
      exact mul_down (valD_nf x) (valD_e x0 x1) (by decide)
  · intro hm; subst hm
    by_cases xi : fabs x = 9218868437227405312
    · rw [a3 xi]; exact Int.le_refl _
    · have hx1 : fabs x < 9218868437227405312 := by omega
      refine frank_of_smag hx1 (a2 hx1) ?_
      rw [wo_smag x0 x1 hx1 m0 m1, ← valD_sm x0 x1 hx1]
      exact mul_up (valD_nf x) (valD_e x0 x1) (by decide)
end Go.Proofs.YtfnchcogdmpojaaDoor
