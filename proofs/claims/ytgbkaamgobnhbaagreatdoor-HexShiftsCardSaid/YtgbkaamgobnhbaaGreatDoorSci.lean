/-
  THE WALK of decimal.Sci.
-/
import Derived.Test.YtgbkaamgobnhbaaGreatDoorSi
set_option linter.unusedVariables false
set_option linter.unusedSimpArgs false
namespace Go.Proofs.YtgbkaamgobnhbaaGreatDoor
open Go.RowKit Nt Fm Fl

/-- what Sci tells: the error -/
def scE (x digits mode : Int) : Int := if hasV x = true then (if (0 ≤ mode ∧ mode ≤ 4) ∧ 1 ≤ digits ∧ digits ≤ 800 then 0 else 1) else 4
/-- .. the text -/
noncomputable def scT (x : Int) (g : Nat) (mode : Int) : List UInt8 := sgS x ++ (pt (dgT (valD x) g mode) (g - 1) ++ ([101] ++ pwS (dgP (valD x) g mode)))
noncomputable def scS (x digits mode : Int) : List UInt8 := if scE x digits mode = 0 then scT x digits.toNat mode else []
/-- .. whether it was changed -/
noncomputable def scC (x digits mode : Int) : Bool := decide (scE x digits mode = 0) && dgC (valD x) digits.toNat
theorem scE_cases (x digits mode : Int) : (hasV x = false ∧ scE x digits mode = 4) ∨ (hasV x = true ∧ ¬ ((0 ≤ mode ∧ mode ≤ 4) ∧ 1 ≤ digits ∧ digits ≤ 800) ∧ scE x digits mode = 1) ∨ (hasV x = true ∧ ((0 ≤ mode ∧ mode ≤ 4) ∧ 1 ≤ digits ∧ digits ≤ 800) ∧ scE x digits mode = 0) := by
  unfold scE
  cases hasV x
  · left; simp
  · right
    by_cases h : (0 ≤ mode ∧ mode ≤ 4) ∧ 1 ≤ digits ∧ digits ≤ 800
    · right; exact ⟨rfl, h, by rw [if_pos rfl, if_pos h]⟩
    · left; exact ⟨rfl, h, by rw [if_pos rfl, if_neg h]⟩
theorem val_mid {x : Int} (x0 : 0 ≤ x) (x1 : x ≤ 18446744073709551615) : (valD x).m = 0 ∨ Mid (valD x) := by
  obtain ⟨f1, f2, f3, f4, f5⟩ := valD_facts x x0 x1
  by_cases h : (valD x).m = 0
  · exact Or.inl h
  · exact Or.inr ⟨h, by omega, by omega, by omega⟩
theorem dgT_len {d : D} (hm : d.m = 0 ∨ Mid d) {g : Nat} (g1 : 1 ≤ g) (mode : Int) : (dgT d g mode).length = g := by
  unfold dgT
  by_cases h : d.m = 0
  · rw [if_pos h]; simp
  · rw [if_neg h]
    obtain ⟨b0, b1⟩ := dg_bd (mid_lg (hm.resolve_left h)) g g1 mode
    exact (dgS_spec g1 b0 b1).1
theorem dgP_bd {d : D} (hm : d.m = 0 ∨ Mid d) (g : Nat) (mode : Int) : -400 ≤ dgP d g mode ∧ dgP d g mode ≤ 401 := by
  unfold dgP
  by_cases h : d.m = 0
  · rw [if_pos h]; omega
  · rw [if_neg h]
    obtain ⟨b0, b1⟩ := mid_bd (hm.resolve_left h)
    split <;> omega
theorem pwS_le (p : Int) (h : p.natAbs < 100000) : (pwS p).length ≤ 10 := by
  have h1 := dec_len_le 5 p.natAbs (by omega) (by omega)
  have h2 : ∀ b : Bool, ((if b = true then [48] else []) : List UInt8).length ≤ 1 := by intro b; cases b <;> simp
  have h3 := h2 (decide (p.natAbs < 10))
  simp only [decide_eq_true_eq] at h3
  unfold pwS
  rw [List.length_cons, List.length_append]
  omega
set_option maxHeartbeats 8000000 in
theorem sci_any (x digits mode : Int) (x0 : 0 ≤ x) (x1 : x ≤ 18446744073709551615) (w : World) (hT : Tab w) (hT10 : Tab10 w) :
    Calls Tryz.prog 15 #[.int .u64 x, .int .i64 digits, .int .i64 mode] w (RetSBE w (scS x digits mode) (scC x digits mode) (scE x digits mode)) := by
  have HV := Lib.hid (fun w' => hasValue_any x x0 x1 w')
  have KN := Lib.hid (fun w' => known_any mode w')
  unfold scS scC
  rcases scE_cases x digits mode with ⟨h1, hE⟩ | ⟨h1, h2, hE⟩ | ⟨h1, h2, hE⟩
  · rw [h1] at HV
    rw [hE, if_neg (by decide), show (decide ((4 : Int) = 0) && dgC (valD x) digits.toNat) = false by rfl]
    clear hE h1 hT hT10
    go_enter Tryz.func15, Tryz.ntmps15
    go_wp2_with (go_at_call 32; refine (HV.out _).mono ?_; rintro e w1 ⟨rfl, rfl⟩)
    go_ret3
    exact ⟨rfl, Below.refl _ _⟩
  · rw [h1] at HV
    rw [hE, if_neg (by decide), show (decide ((1 : Int) = 0) && dgC (valD x) digits.toNat) = false by rfl]
    clear hE h1 hT hT10
    by_cases hk : 0 ≤ mode ∧ mode ≤ 4
    · have hkb : knownB mode = true := by unfold knownB; rw [decide_eq_true_eq]; exact hk
      rw [hkb] at KN
      by_cases hp : digits < 1
      · clear h2 hk hkb
        go_enter Tryz.func15, Tryz.ntmps15
        go_wp2_with (first
          | (go_at_call 32; refine (HV.out _).mono ?_; rintro e w1 ⟨rfl, rfl⟩)
          | (go_at_call 33; refine (KN.out _).mono ?_; rintro e w1 ⟨rfl, rfl⟩))
        go_ret3
        exact ⟨rfl, Below.refl _ _⟩
      · have hp2 : 800 < digits := by
          rcases Int.lt_or_le 800 digits with h | h
          · exact h
          · exact absurd ⟨hk, by omega, h⟩ h2
        clear h2 hk hkb
        go_enter Tryz.func15, Tryz.ntmps15
        go_wp2_with (first
          | (go_at_call 32; refine (HV.out _).mono ?_; rintro e w1 ⟨rfl, rfl⟩)
          | (go_at_call 33; refine (KN.out _).mono ?_; rintro e w1 ⟨rfl, rfl⟩))
        go_ret3
        exact ⟨rfl, Below.refl _ _⟩
    · have hkb : knownB mode = false := by unfold knownB; rw [decide_eq_false_iff_not]; exact hk
      rw [hkb] at KN
      clear h2 hk hkb
      go_enter Tryz.func15, Tryz.ntmps15
      go_wp2_with (first
        | (go_at_call 32; refine (HV.out _).mono ?_; rintro e w1 ⟨rfl, rfl⟩)
        | (go_at_call 33; refine (KN.out _).mono ?_; rintro e w1 ⟨rfl, rfl⟩))
      go_ret3
      exact ⟨rfl, Below.refl _ _⟩
  · obtain ⟨⟨m0, m1⟩, g0, g1⟩ := h2
    have hkb : knownB mode = true := by unfold knownB; rw [decide_eq_true_eq]; exact ⟨m0, m1⟩
    rw [h1] at HV
    rw [hkb] at KN
    rw [hE, if_pos rfl, show (decide ((0 : Int) = 0) && dgC (valD x) digits.toNat) = dgC (valD x) digits.toNat by rfl]
    clear hE h1 hkb
    obtain ⟨g, rfl⟩ := Int.eq_ofNat_of_zero_le (show 0 ≤ digits by omega)
    rw [Int.toNat_natCast]
    have hmid := val_mid x0 x1
    have VL := Lib.hid (fun w' h => value_any x x0 x1 w' h)
    have DG := Lib.hid (fun v w' (h : DV w' v (valD x)) h2 => digits_any v (valD x) g mode w' h hmid (by omega) (by omega) m0 m1 h2)
    have SG := Lib.hid (fun w' => sign_any x x0 x1 w')
    have hlen := dgT_len hmid (g := g) (by omega) mode
    have PT := Lib.hid (fun X w' (hX : X = ((g - 1 : Nat) : Int)) => by have h := point_any (dgT (valD x) g mode) (g - 1) w' (by omega) (by omega); rw [← hX] at h; exact h)
    obtain ⟨bp0, bp1⟩ := dgP_bd hmid g mode
    have PW := Lib.hid (fun w' h => power_any (dgP (valD x) g mode) w' (by omega) (by omega) h)
    have hpw := pwS_le (dgP (valD x) g mode) (by omega)
    have hpl : (pt (dgT (valD x) g mode) (g - 1)).length ≤ 2000 := by
      rw [pt_one (by omega) hlen]; split
      · omega
      · simp; omega
    have hsl := sgS_len x
    unfold scT
    generalize dgT (valD x) g mode = ds at *
    generalize dgP (valD x) g mode = dp at *
    generalize dgC (valD x) g = dc at *
    generalize pt ds (g - 1) = ps at *
    generalize sgS x = ss at *
    generalize pwS dp = es at *
    obtain ⟨PS, hPS⟩ : ∃ PS : ByteArray, PS = ⟨ps.toArray⟩ := ⟨_, rfl⟩
    obtain ⟨SS, hSS⟩ : ∃ SS : ByteArray, SS = ⟨ss.toArray⟩ := ⟨_, rfl⟩
    obtain ⟨ES, hES⟩ : ∃ ES : ByteArray, ES = ⟨es.toArray⟩ := ⟨_, rfl⟩
    obtain ⟨DS, hDS⟩ : ∃ DS : ByteArray, DS = ⟨ds.toArray⟩ := ⟨_, rfl⟩
    have z1 : PS.size ≤ 2000 := by
      have : PS.size = ps.length := by rw [hPS]; rfl
      omega
    have z2 : SS.size ≤ 1 := by
      have : SS.size = ss.length := by rw [hSS]; rfl
      omega
    have z3 : ES.size ≤ 10 := by
      have : ES.size = es.length := by rw [hES]; rfl
      omega
    have hA : SS ++ PS ++ ⟨#[101]⟩ ++ ES = ⟨(ss ++ (ps ++ ([101] ++ es))).toArray⟩ := by
      rw [ba_app ss ps hSS hPS, ba_app (ss ++ ps) [101] rfl rfl, ba_app _ es rfl hES]
      simp
    unfold RetSIB at DG
    rw [← hPS, ← hDS] at PT
    rw [← hSS] at SG
    rw [← hES] at PW
    rw [← hDS] at DG
    have HA := Lib.hid hA
    unfold RetSBE
    rw [← HA.out]
    have H1 := Lib.hid hT
    have H2 := Lib.hid hT10
    have B0 : Hid (Below w.heap.size w w) := Lib.hid (Below.refl _ _)
    clear hT hT10 hPS hSS hES hDS hA hmid hlen hpw hpl hsl
    go_enter Tryz.func15, Tryz.ntmps15
    go_wp2_with (first
      | (go_at_call 32; refine (HV.out _).mono ?_; rintro e w1 ⟨rfl, rfl⟩)
      | (go_at_call 33; refine (KN.out _).mono ?_; rintro e w1 ⟨rfl, rfl⟩)
      | (go_at_call 34; refine (VL.out _ H1.out).mono ?_; rintro e w1 ⟨v1, rfl, hd1, hb1⟩; have D1 := Lib.hid hd1; have B1 := Lib.hid hb1; have T1 := Lib.hid (H2.out.below hb1); clear hd1 hb1)
      | (go_at_call 38; refine (DG.out _ _ D1.out T1.out).mono ?_; rintro e w2 ⟨rfl, hb2⟩; have B2 := Lib.hid (bl_thru B1.out (Nat.le_refl _) hb2); have T2 := Lib.hid (T1.out.below hb2); clear hb2)
      | (go_at_call 39; refine (SG.out _).mono ?_; rintro e w4 ⟨rfl, rfl⟩)
      | (go_at_call 40; refine (PT.out _ _ (by omega)).mono ?_; rintro e w6 ⟨rfl, hb6⟩; have B6 := Lib.hid (bl_thru B2.out (Nat.le_refl _) hb6); have T6 := Lib.hid (T2.out.below hb6); clear hb6)
      | (go_at_call 41; refine (PW.out _ T6.out).mono ?_; rintro e w7 ⟨rfl, hb7⟩; have B7 := Lib.hid (bl_thru B6.out (Nat.le_refl _) hb7); clear hb7))
    go_ret3
    exact ⟨rfl, B7.out⟩
end Go.Proofs.YtgbkaamgobnhbaaGreatDoor
