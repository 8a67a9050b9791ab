/-
  THE WALKS of whole.Int, wholeLives.
-/
import Derived.Test.YtdknfdncgmeimaaDoorWd
set_option linter.unusedVariables false
set_option linter.unusedSimpArgs false
namespace Go.Proofs.YtdknfdncgmeimaaDoor
open Go.RowKit Nt Fm Fl

def inR (x mode : Int) : D := mulD (valD x) 0 mode
def inM (x mode : Int) : Nat := (inR x mode).m * 2 ^ (inR x mode).e.toNat
def most (g : Bool) : Nat := if g = true then 9223372036854775808 else 9223372036854775807
def inE (x mode : Int) : Int := if knownB mode = true then (if hasV x = true then (if most (inR x mode).neg < inM x mode then 4 else 0) else 4) else 1
def inV (x mode : Int) : Int := if inE x mode = 0 then (if (inR x mode).neg = true then -(inM x mode : Int) else (inM x mode : Int)) else 0
def inC (x mode : Int) : Bool := if inE x mode = 0 then mulC (valD x) 0 else false
theorem neg_conv {n : Int} (h0 : 0 ≤ n) (h1 : n ≤ 9223372036854775808) : wrap64 (IntKind.u64.wrap (-n)) = -n := by
  unfold IntKind.wrap wrap64; simp [IntKind.bits, IntKind.signed]; omega
theorem or_zero3 (x : Nat) (hx : x < 18446744073709551616) : bits .or .u64 0 (x : Int) = (x : Int) := by
  have h := bits_or_u64_nat 0 x (by decide) hx
  rw [show ((0 : Nat) : Int) = 0 from rfl, Nat.zero_or] at h; exact h
theorem or_hi3 (c x : Nat) (hc : c < 4294967296) (hx : x < 4294967296) : bits .or .u64 (c : Int) ((x : Int) * 4294967296) = ((c + x * 4294967296 : Nat) : Int) := or_high c x hc hx
set_option maxRecDepth 100000 in
set_option maxHeartbeats 8000000 in
theorem wint_any (x mode : Int) (x0 : 0 ≤ x) (x1 : x ≤ 18446744073709551615) (m0' : -9223372036854775808 ≤ mode) (m1' : mode ≤ 9223372036854775807) (w : World) (hT : Tab w) :
    Calls Tryd.prog 38 #[.int .u64 x, .int .i64 mode] w fun e w' => e = .returned (.tuple #[.int .i64 (inV x mode), .bool (inC x mode), .int .i64 (inE x mode)]) ∧ Below w.heap.size w w' := by
  cases hk : knownB mode
  · have e3 : inE x mode = 1 := by unfold inE; rw [hk]; rfl
    have e1 : inV x mode = 0 := by unfold inV; rw [e3]; rfl
    have e2 : inC x mode = false := by unfold inC; rw [e3]; rfl
    rw [e1, e2, e3]; clear e1 e2 e3 hT
    go_enter Tryd.func38, Tryd.ntmps38
    go_wp2_with (go_at_call 64; refine (known_any _ _).mono ?_; rintro e w' ⟨rfl, rfl⟩)
    go_ret3
    exact ⟨rfl, Below.refl _ _⟩
  · have hhv := fun w' => hasValue_any x x0 x1 w'
    cases hv : hasV x
    · have e3 : inE x mode = 4 := by unfold inE; rw [hk, hv]; rfl
      have e1 : inV x mode = 0 := by unfold inV; rw [e3]; rfl
      have e2 : inC x mode = false := by unfold inC; rw [e3]; rfl
      rw [hv] at hhv
      have HHV := Lib.hid hhv
      rw [e1, e2, e3]; clear e1 e2 e3 hT hhv hv
      go_enter Tryd.func38, Tryd.ntmps38
      go_wp2_with (first | (go_at_call 64; refine (known_any _ _).mono ?_; rintro e w' ⟨rfl, rfl⟩) | (go_at_call 62; (with_reducible refine (HHV.out _).mono ?_); rintro e w' ⟨rfl, rfl⟩))
      go_ret3
      exact ⟨rfl, Below.refl _ _⟩
    · have hm : 0 ≤ mode ∧ mode ≤ 4 := by unfold knownB at hk; simpa using hk
      obtain ⟨v1, v2, v3, v4, -⟩ := valD_facts x x0 x1
      have hval := fun w' h => value_any x x0 x1 w' h
      have hmul := fun v w' h h2 => multiple_any v (valD x) 53 0 mode w' h h2 v2 (by omega) (by omega) (by omega) (by omega) (by omega) hm.1 hm.2
      obtain ⟨b1, b2, b3⟩ := mulD_bd mode v2 (by omega) (by omega)
      have h0 : 0 ≤ (mulD (valD x) 0 mode).e := by
        obtain ⟨I, -, -, -, -, h⟩ := mul_spec (valD x) 0 mode (T := 1074) v1 (by omega) (by decide) hm.1 hm.2
        rcases h with h | h
        · rw [h]; decide
        · exact h
      have hleft := fun v w' h => left_any v (mulD (valD x) 0 mode).m (mulD (valD x) 0 mode).e.toNat 54 (mulD (valD x) 0 mode).e w' h (by omega) b1 (by decide) (by omega)
      have hM : (mulD (valD x) 0 mode).m * 2 ^ (mulD (valD x) 0 mode).e.toNat = inM x mode := rfl
      rw [hM] at hleft
      have hMb : ∃ q, q ≤ 3000 ∧ inM x mode < 2 ^ q := by
        refine ⟨54 + (mulD (valD x) 0 mode).e.toNat, by omega, ?_⟩
        unfold inM inR; rw [Nat.pow_add]
        exact Nat.mul_lt_mul_of_pos_right b1 (Nat.two_pow_pos _)
      have eE : inE x mode = if most (mulD (valD x) 0 mode).neg < inM x mode then 4 else 0 := by unfold inE; rw [hk, hv]; rfl
      have eV : inV x mode = if inE x mode = 0 then (if (mulD (valD x) 0 mode).neg = true then -(inM x mode : Int) else (inM x mode : Int)) else 0 := rfl
      have eC : inC x mode = if inE x mode = 0 then mulC (valD x) 0 else false := rfl
      rw [hv] at hhv
      clear hm v1 v2 v3 v4 b1 b2 b3 hM hv
      generalize inE x mode = E at *
      generalize inV x mode = V at *
      generalize inC x mode = C at *
      generalize inM x mode = M at *
      generalize mulC (valD x) 0 = mC at *
      generalize mulD (valD x) 0 mode = R at *
      generalize valD x = vx at *
      have HHV := Lib.hid hhv
      have HVAL := Lib.hid hval
      have HMUL := Lib.hid hmul
      have HLEFT := Lib.hid hleft
      have HT := Lib.hid hT
      have EE := Lib.hid eE
      have EV := Lib.hid eV
      have EC := Lib.hid eC
      have HK : Hid (knownB mode = true) := Lib.hid hk
      clear hhv hval hmul hleft hT eE eV eC
      go_enter Tryd.func38, Tryd.ntmps38
      go_wp2_with (first | (go_at_call 64; refine (known_any _ _).mono ?_; rintro e w' ⟨rfl, rfl⟩) | (go_at_call 62; (with_reducible refine (HHV.out _).mono ?_); rintro e w' ⟨rfl, rfl⟩))
      refine (HVAL.out _ HT.out).mono ?_
      rintro r w2 ⟨v2, rfl, ⟨s2, rfl, hv⟩, hb⟩
      obtain ⟨a2, n2, c2, rfl⟩ := hv.shape
      have VO2 := Lib.hid hv
      have R2 : Hid (Below w.heap.size w w2) := Lib.hid hb
      clear hv hb
      go_wp2_with fail
      refine (HMUL.out _ _ (HT.out.below R2.out) ⟨_, rfl, VO2.out⟩).mono ?_
      rintro r w3 ⟨a3, n3, c3, rfl, hv, hb⟩
      have XW := Lib.hid (Box.new w3 (.bool R.neg) (.slice a3 n3 c3) (.int .i64 R.e) 25)
      have NW := Lib.hid (hv.alloc (.cells #[.bool R.neg, .slice a3 n3 c3, .int .i64 R.e] 25))
      have R3 : Hid (Below w.heap.size w w3) := Lib.hid (bl_thru R2.out (Nat.le_refl _) hb)
      have BW : Hid (Below w.heap.size w _) := Lib.hid (R3.out.alloc R3.out.size (.cells #[.bool R.neg, .slice a3 n3 c3, .int .i64 R.e] 25))
      obtain ⟨q0, q1, q2, f0, f1, f2⟩ := XW.out.cells
      clear hv hb
      go_wp2_with fail
      refine (HLEFT.out _ _ NW.out).mono ?_
      rintro r w4 ⟨v4, rfl, hv, hb⟩
      obtain ⟨q, hq, hMq⟩ := hMb
      obtain ⟨l, hl, el, ⟨-, ao, cap, rfl, hcap, hmx, hc⟩, hlen⟩ := hv.len hMq
      unfold maxLen at hmx
      have B4 : Hid (Below w.heap.size w w4) := Lib.hid (bl_thru BW.out (Nat.le_refl _) hb)
      have X4 := Lib.hid (XW.out.below hb)
      clear q0 q1 q2 f0 f1 f2
      obtain ⟨q0, q1, q2, f0, f1, f2⟩ := X4.out.cells
      have hlims := Lib.hid hl.1
      have HL := Lib.hid hl
      have EL := Lib.hid el
      clear hv hb hMq hl el
      rcases hc with hc | ⟨b2, o2, rfl, hlt2, hcell⟩
      all_goals
        go_wp2
        go_loop [10, 34] (fun v i => ∃ k N : Nat, k ≤ l.length ∧ i = .int .i64 k ∧ v = .int .u64 ((N : Nat) : Int) ∧ N = val (l.take (min k 2))) (fun _ i => l.length - (intOf i).toNat)
        case atStart => exact ⟨0, 0, Nat.zero_le _, rfl, rfl, rfl⟩
        case round =>
          obtain ⟨k, N, hk, rfl, rfl, hN⟩ := hrel
          have HN := Lib.hid hN
          clear hN
          by_cases hkp : k < l.length
          · first
              | (exfalso; omega)
              | (obtain ⟨x, hx⟩ : ∃ x, x = l.getD k 0 := ⟨_, rfl⟩
                 have hx1 : x < 4294967296 := by rw [hx]; exact hlims.out.getD k
                 have hcx := hcell k hkp
                 rw [← hx] at hcx
                 have HX := Lib.hid hx
                 have HC2 := Lib.hid hcell
                 clear hx hcell
                 have hk01 : k = 0 ∨ k = 1 ∨ 2 ≤ k := by omega
                 rcases hk01 with rfl | rfl | hk2
                 · obtain rfl : N = 0 := HN.out
                   rw [Nat.add_zero] at hcx
                   have e3 := or_zero3 x (by omega)
                   go_wp2
                   go_round
                   case rel => exact ⟨1, x, by omega, by go_num, by simp, by rw [show min 1 2 = 0 + 1 from rfl, val_take_succ l 0 hkp, HX.out]; simp [List.getD, hkp, val]⟩
                   case measure => simp [intOf]; omega
                 · have hN1 : N < 4294967296 := by
                     have := val_lt (hlims.out.take 1)
                     rw [HN.out]; rw [List.length_take, Nat.min_eq_left (by omega)] at this; exact this
                   have e3 := or_hi3 N x hN1 hx1
                   go_wp2
                   go_round
                   case rel => exact ⟨2, N + x * 4294967296, by omega, by go_num, by simp, by rw [show min 2 2 = 1 + 1 from rfl, val_take_succ l 1 hkp, HN.out, HX.out]; simp [List.getD, hkp, show min 1 2 = 1 from rfl, Nat.mul_comm]⟩
                   case measure => simp [intOf]; omega
                 · have hkk : decide ((k : Int) < 2) = false := by simp; omega
                   have hN1 : N < 18446744073709551616 := by
                     have := val_lt (hlims.out.take 2)
                     rw [HN.out, show min k 2 = 2 by omega]; rw [List.length_take, Nat.min_eq_left (by omega)] at this; exact this
                   go_wp2
                   go_round
                   case rel => exact ⟨k + 1, N, by omega, by go_num, rfl, by rw [HN.out, show min (k + 1) 2 = min k 2 by omega]⟩
                   case measure => simp [intOf]; omega)
          · have hke : k = l.length := by omega
            have hN1 : N < 18446744073709551616 := by
              have := val_lt (hlims.out.take (min k 2))
              rw [← HN.out] at this
              have h2 : 2 ^ (32 * (l.take (min k 2)).length) ≤ 2 ^ 64 := Nat.pow_le_pow_right (by decide) (by rw [List.length_take]; omega)
              omega
            have hfin : (2 < l.length ∧ E = 4 ∧ V = 0 ∧ C = false) ∨ (l.length ≤ 2 ∧ R.neg = true ∧ 9223372036854775808 < N ∧ E = 4 ∧ V = 0 ∧ C = false) ∨ (l.length ≤ 2 ∧ R.neg = false ∧ 9223372036854775807 < N ∧ E = 4 ∧ V = 0 ∧ C = false) ∨
                (l.length ≤ 2 ∧ R.neg = true ∧ N ≤ 9223372036854775808 ∧ E = 0 ∧ V = -(N : Int) ∧ C = mC) ∨ (l.length ≤ 2 ∧ R.neg = false ∧ N ≤ 9223372036854775807 ∧ E = 0 ∧ V = (N : Int) ∧ C = mC) := by
              have eE := EE.out
              have eV := EV.out
              have eC := EC.out
              by_cases h2 : 2 < l.length
              · left
                have h3 := HL.out.ge (l.length - 1) (by omega)
                rw [EL.out] at h3
                have h4 : 2 ^ 64 ≤ 2 ^ (32 * (l.length - 1)) := Nat.pow_le_pow_right (by decide) (by omega)
                have h5 : most R.neg < M := by unfold most; split <;> omega
                rw [if_pos h5] at eE
                rw [eE, if_neg (by decide)] at eV eC
                exact ⟨h2, eE, eV, eC⟩
              · right
                have h3 : N = M := by
                  rw [HN.out, ← EL.out, List.take_of_length_le (by omega)]
                rw [← h3] at eE eV
                clear h3
                by_cases h5 : most R.neg < N
                · rw [if_pos h5] at eE
                  rw [eE, if_neg (by decide)] at eV eC
                  unfold most at h5
                  cases hg : R.neg <;> rw [hg] at h5 <;> simp at h5
                  · right; left; exact ⟨by omega, rfl, by omega, eE, eV, eC⟩
                  · left; exact ⟨by omega, rfl, by omega, eE, eV, eC⟩
                · rw [if_neg h5] at eE
                  rw [eE, if_pos rfl] at eV eC
                  unfold most at h5
                  cases hg : R.neg <;> rw [hg] at h5 eV <;> simp at h5 eV
                  · right; right; right; exact ⟨by omega, rfl, by omega, eE, eV, eC⟩
                  · right; right; left; exact ⟨by omega, rfl, by omega, eE, eV, eC⟩
            clear EE EV EC hke HN
            try clear hcell
            rcases hfin with ⟨h2, rfl, rfl, rfl⟩ | ⟨h2, hg, h5, rfl, rfl, rfl⟩ | ⟨h2, hg, h5, rfl, rfl, rfl⟩ | ⟨h2, hg, h5, rfl, rfl, rfl⟩ | ⟨h2, hg, h5, rfl, rfl, rfl⟩
            · cases hg : R.neg
              all_goals first
                | (exfalso; omega)
                | (rw [hg] at q0
                   have h6 : decide ((2 : Int) < (l.length : Int)) = true := by simp; omega
                   go_wp2
                   go_ret3
                   exact ⟨rfl, B4.out⟩)
            · rw [hg] at q0
              have h6 : (9223372036854775808 : Int) < (N : Int) := by omega
              go_wp2
              go_ret3
              exact ⟨rfl, B4.out⟩
            · rw [hg] at q0
              have h6 : (9223372036854775807 : Int) < (N : Int) := by omega
              go_wp2
              go_ret3
              exact ⟨rfl, B4.out⟩
            · rw [hg] at q0
              have h6 : (N : Int) ≤ 9223372036854775808 := by omega
              have h7 := neg_conv (n := (N : Int)) (by omega) h6
              go_wp2
              go_ret3
              exact ⟨rfl, B4.out⟩
            · rw [hg] at q0
              have h6 : (N : Int) ≤ 9223372036854775807 := by omega
              go_wp2
              go_ret3
              exact ⟨rfl, B4.out⟩
theorem wlives_facts : woV 4612811918334230528 0 = 4611686018427387904 ∧ woC 4612811918334230528 0 = true ∧ inV 13836183955189006336 2 = -3 ∧ inE 13836183955189006336 2 = 0 ∧ frV (-3) 0 = 13837309855095848960 ∧ isW 13837309855095848960 = true ∧ adE 0 = 0 :=
  ⟨by kernel_rfl, by kernel_rfl, by kernel_rfl, by kernel_rfl, by kernel_rfl, by kernel_rfl, by kernel_rfl⟩
set_option maxRecDepth 100000 in
set_option maxHeartbeats 4000000 in
theorem wholeLives_any (w : World) (hT : Tab w) :
    Calls Tryd.prog 40 #[] w fun e w' => e = .returned (.bool true) ∧ Below w.heap.size w w' := by
  obtain ⟨e1, e2, e3, e4, e5, e6, e7⟩ := wlives_facts
  have h1 := fun w' h => wround_any 4612811918334230528 0 (by decide) (by decide) (by decide) (by decide) w' h
  have h2 := fun w' h => wint_any 13836183955189006336 2 (by decide) (by decide) (by decide) (by decide) w' h
  have h3 := fun w' h => wfrom_any (-3) 0 (by decide) (by decide) (by decide) (by decide) w' h
  have h4 := fun w' h => wis_any 13837309855095848960 (by decide) (by decide) w' h
  rw [e1, e2, e7] at h1
  rw [e3, e4] at h2
  rw [e5, e7] at h3
  rw [e6] at h4
  generalize inC 13836183955189006336 2 = ic at *
  generalize frC (-3) 0 = fc at *
  have H1 := Lib.hid h1
  have H2 := Lib.hid h2
  have H3 := Lib.hid h3
  have H4 := Lib.hid h4
  have HT := Lib.hid hT
  have k3 := ok3_mk
  clear h1 h2 h3 h4 hT e1 e2 e3 e4 e5 e6 e7
  go_enter Tryd.func40, Tryd.ntmps40
  go_wp2_with fail
  refine (H1.out _ HT.out).mono ?_
  rintro r w1 ⟨rfl, hb⟩
  have B1 := Lib.hid hb
  clear hb
  go_wp2_with fail
  refine (H2.out _ (HT.out.below B1.out)).mono ?_
  rintro r w2 ⟨rfl, hb⟩
  have B2 := Lib.hid (bl_thru B1.out (Nat.le_refl _) hb)
  clear hb
  go_wp2_with fail
  refine (H3.out _ (HT.out.below B2.out)).mono ?_
  rintro r w3 ⟨rfl, hb⟩
  have B3 := Lib.hid (bl_thru B2.out (Nat.le_refl _) hb)
  clear hb
  go_wp2_with (go_at_call 31; refine (ok_new3 _ _ _ _ _ rfl).mono ?_; rintro e w' ⟨rfl, rfl⟩)
  refine (H4.out _ (HT.out.below (B3.out.alloc B3.out.size _))).mono ?_
  rintro r w4 ⟨rfl, hb⟩
  have B4 := Lib.hid (bl_thru (B3.out.alloc B3.out.size _) (Nat.le_refl _) hb)
  clear hb
  go_wp2
  go_ret
  exact ⟨rfl, B4.out⟩
end Go.Proofs.YtdknfdncgmeimaaDoor
