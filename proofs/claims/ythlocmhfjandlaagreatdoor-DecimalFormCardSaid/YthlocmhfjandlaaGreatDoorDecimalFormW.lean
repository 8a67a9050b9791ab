/-
  THE WALK of the law DecimalForm.
-/
import Derived.Test.YthlocmhfjandlaaGreatDoorLk
import Derived.Test.YthlocmhfjandlaaGreatDoorLz
set_option linter.unusedVariables false
set_option linter.unusedSimpArgs false
namespace Go.Proofs.YthlocmhfjandlaaGreatDoor
open Go.RowKit Nt Fm Fl

/-- so many digits: what they are -/
theorem dgT_spec {d : D} (hm : d.m = 0 ∨ Mid d) {g : Nat} (g1 : 1 ≤ g) (mode : Int) : (dgT d g mode).length = g ∧ (∀ c ∈ dgT d g mode, dgt c) ∧ ∃ c l, dgT d g mode = c :: l ∧ ((c = 48) ↔ d.m = 0) ∧ (d.m = 0 → ∀ z ∈ dgT d g mode, z = 48) := by
  unfold dgT
  by_cases h : d.m = 0
  · rw [if_pos h]
    obtain ⟨k, rfl⟩ : ∃ k, g = k + 1 := ⟨g - 1, by omega⟩
    refine ⟨by simp, fun c hc => ?_, 48, List.replicate k 48, List.replicate_succ, by simp [h], fun _ z hz => List.eq_of_mem_replicate hz⟩
    have := List.eq_of_mem_replicate hc; subst this; unfold dgt; decide
  · rw [if_neg h]
    obtain ⟨b0, b1⟩ := dg_bd (mid_lg (hm.resolve_left h)) g g1 mode
    obtain ⟨h1, h2, c, l, h3, h4⟩ := dgS_spec g1 b0 b1
    exact ⟨h1, h2, c, l, h3, by simp [h4, h], fun h0 => absurd h0 h⟩
/-- the law of such a text -/
theorem form_law {x mode : Int} (x0 : 0 ≤ x) (x1 : x ≤ 18446744073709551615) (hv : hasV x = true) {g : Nat} (g1 : 1 ≤ g) :
    ∃ (c : UInt8) (l es : List UInt8) (h0 : UInt8) (l2 : List UInt8), Lib.trimPrefix (scT x g mode) [45] = pt (c :: l) (g - 1) ++ 101 :: es ∧ (101 : UInt8) ∉ pt (c :: l) (g - 1) ∧ Lib.replace (pt (c :: l) (g - 1)) [46] [] 1 = c :: l ∧ (c :: l).length = g ∧
      Lib.trimS (c :: l) [48, 49, 50, 51, 52, 53, 54, 55, 56, 57] = [] ∧ ((c = 48) ↔ fcls x = 1) ∧ (fcls x = 1 → Lib.trimS (c :: l) [48] = [] ∧ es = [43, 48, 48]) ∧ 3 ≤ es.length ∧ es = h0 :: l2 ∧ (h0 = 43 ∨ h0 = 45) := by
  have hmid := val_mid x0 x1
  obtain ⟨h1, h2, c, l, h3, h4, h5⟩ := dgT_spec hmid g1 mode
  rw [h3] at h1 h2 h5
  have hz : (valD x).m = 0 ↔ fcls x = 1 := by
    have hv' : fabs x < 9218868437227405312 := by unfold hasV at hv; simpa using hv
    have hb := fabs_bd x
    constructor
    · intro h
      have hmg := dVal_mag x0 x1 hv
      rw [h, Nat.zero_mul] at hmg
      have : (fabs x).toNat = 0 := mag_inj (hmg.trans mag_zero.symm)
      unfold fcls; rw [if_pos (by omega)]
    · intro h
      have hf : fabs x = 0 := by
        unfold fcls at h
        split at h
        · assumption
        · split at h
          · omega
          · omega
      have hmg := dVal_mag x0 x1 hv
      rw [hf] at hmg
      have h0 : (valD x).m * 2 ^ ((valD x).e + ((1074 : Nat) : Int)).toNat = 0 := by rw [← hmg]; exact mag_zero
      rcases Nat.mul_eq_zero.1 h0 with h0 | h0
      · exact h0
      · exact absurd h0 (Nat.ne_of_gt (Nat.two_pow_pos _))
  have hpt := pt_one g1 h1
  have hcd : dgt c := h2 c (by simp)
  have h101 : (101 : UInt8) ∉ pt (c :: l) (g - 1) := by
    rw [hpt]
    intro hm
    split at hm
    · exact (dgt_not (h2 101 hm)).2.1 rfl
    · rw [List.mem_append, List.mem_cons] at hm
      rcases hm with hm | hm | hm
      · exact (dgt_not (h2 101 (List.mem_of_mem_take hm))).2.1 rfl
      · revert hm; decide
      · exact (dgt_not (h2 101 (List.mem_of_mem_drop hm))).2.1 rfl
  have h46 : (46 : UInt8) ∉ c :: l := fun hm => (dgt_not (h2 46 hm)).1 rfl
  have hrep : Lib.replace (pt (c :: l) (g - 1)) [46] [] 1 = c :: l := by
    rw [hpt]
    split
    · exact rep_none _ h46
    · rw [rep_one _ _ (fun hm => h46 (List.mem_of_mem_take hm)), List.take_append_drop]
  have hptc : ∃ r, pt (c :: l) (g - 1) = c :: r := by
    rw [hpt]
    split
    · exact ⟨l, rfl⟩
    · exact ⟨_, rfl⟩
  obtain ⟨r, hr⟩ := hptc
  have htp : Lib.trimPrefix (scT x g mode) [45] = pt (c :: l) (g - 1) ++ 101 :: pwS (dgP (valD x) g mode) := by
    unfold scT
    rw [h3]
    have hb : ∀ t : List UInt8, Lib.hasPrefix (c :: t) [45] = false := by
      intro t
      unfold Lib.hasPrefix
      have : (45 : UInt8) ≠ c := fun e => (dgt_not hcd).2.2 e.symm
      simp [List.isPrefixOf, this]
    unfold sgS
    by_cases hs : 9223372036854775808 ≤ x
    · rw [if_pos hs, hr]
      unfold Lib.trimPrefix
      rw [if_pos (by simp [Lib.hasPrefix, List.isPrefixOf])]
      rfl
    · rw [if_neg hs, hr]
      unfold Lib.trimPrefix
      rw [List.nil_append, if_neg (by rw [show (c :: r) ++ ([101] ++ pwS (dgP (valD x) g mode)) = c :: (r ++ ([101] ++ pwS (dgP (valD x) g mode))) from rfl, hb]; decide)]
      rfl
  refine ⟨c, l, pwS (dgP (valD x) g mode), _, _, htp, h101, hrep, h1, trim_all (fun z hz => dgt_in (h2 z hz)), h4.trans hz, fun hf => ?_, pwS_len _, rfl, ?_⟩
  · have hm0 := hz.2 hf
    refine ⟨trim_all (fun z hzz => by rw [h5 hm0 z hzz]; decide), ?_⟩
    unfold dgP
    rw [if_pos hm0]
    unfold pwS
    rw [show (0 : Int).natAbs = 0 from rfl, dec_small (by omega)]
    decide
  · split
    · exact Or.inr rfl
    · exact Or.inl rfl
theorem scS_len {x : Int} (x0 : 0 ≤ x) (x1 : x ≤ 18446744073709551615) {g : Nat} (g1 : 1 ≤ g) (g2 : g ≤ 800) (mode : Int) : (scT x g mode).length ≤ 10000 := by
  have hmid := val_mid x0 x1
  have hlen := dgT_len hmid (g := g) g1 mode
  have hpl : (pt (dgT (valD x) g mode) (g - 1)).length ≤ 2000 := by
    rw [pt_one g1 hlen]; split
    · omega
    · simp; omega
  obtain ⟨bp0, bp1⟩ := dgP_bd hmid g mode
  have hpw := pwS_le (dgP (valD x) g mode) (by omega)
  have hsl := sgS_len x
  unfold scT
  simp only [List.length_append, List.length_singleton]
  omega
theorem maxI_drewN {w : World} (n : Nat) (h : MaxI w) : MaxI (w.drewN n) := h.below (below_to_drewN (Below.refl _ _))
theorem below_to_drewN' {b : Nat} {w w' : World} (n : Nat) (h : Below b w w') : Below b w (w'.drewN n) := below_to_drewN h
theorem ba_at0 (c : UInt8) (l : List UInt8) (A : ByteArray) (hA : A = ⟨(c :: l).toArray⟩) (h : 0 < A.size) : A[0]'h = c := by subst hA; rfl
set_option maxRecDepth 100000 in
set_option maxHeartbeats 8000000 in
theorem walkDecimalForm (x : Int) (x0 : 0 ≤ x) (x1 : x ≤ 18446744073709551615) (digits : Int) (digits0 : -9223372036854775808 ≤ digits) (digits1 : digits ≤ 9223372036854775807) (mode : Int) (mode0 : -9223372036854775808 ≤ mode) (mode1 : mode ≤ 9223372036854775807) (w : World) (hT : Tab w) (hT10 : Tab10 w) (hM : MaxI w) :
    Calls Tryz.prog 6 #[.int .u64 x, .int .i64 digits, .int .i64 mode] w fun e w' => e = .returned (.bool true) ∧ Below w.heap.size w w' := by
  have SX := Lib.hid (fun w' h1 h2 => sci_any x digits mode x0 x1 w' h1 h2)
  have H0 := Lib.hid hT
  have T0 := Lib.hid hT10
  have M0 := Lib.hid hM
  have B : Hid (Below w.heap.size w w) := Lib.hid (Below.refl w.heap.size w)
  unfold RetSBE at SX
  by_cases he : scE x digits mode = 0
  · obtain ⟨hv, ⟨m0, m1⟩, g0, g1⟩ : hasV x = true ∧ (0 ≤ mode ∧ mode ≤ 4) ∧ 1 ≤ digits ∧ digits ≤ 800 := by
      rcases scE_cases x digits mode with ⟨-, k⟩ | ⟨-, -, k⟩ | ⟨a, b, -⟩
      · omega
      · omega
      · exact ⟨a, b⟩
    obtain ⟨g, rfl⟩ := Int.eq_ofNat_of_zero_le (show 0 ≤ digits by omega)
    have hsl := scS_len x0 x1 (g := g) (by omega) (by omega) mode
    obtain ⟨c, l, es, h0, l2, e1, e2, e3, e4, e5, e6, e7, e8, e9, e10⟩ := form_law (mode := mode) x0 x1 hv (g := g) (by omega)
    have hS0 : scS x (g : Int) mode = scT x g mode := by unfold scS; rw [if_pos he, Int.toNat_natCast]
    rw [he, hS0] at SX
    generalize scC x (g : Int) mode = cc at *
    generalize scT x g mode = s at *
    generalize pt (c :: l) (g - 1) = hd at *
    obtain ⟨S, hS⟩ : ∃ S : ByteArray, S = ⟨s.toArray⟩ := ⟨_, rfl⟩
    obtain ⟨R, hR⟩ : ∃ R : ByteArray, R = ⟨(hd ++ 101 :: es).toArray⟩ := ⟨_, rfl⟩
    obtain ⟨HD, hHD⟩ : ∃ HD : ByteArray, HD = ⟨hd.toArray⟩ := ⟨_, rfl⟩
    obtain ⟨E, hE⟩ : ∃ E : ByteArray, E = ⟨es.toArray⟩ := ⟨_, rfl⟩
    obtain ⟨AL, hAL⟩ : ∃ AL : ByteArray, AL = ⟨(c :: l).toArray⟩ := ⟨_, rfl⟩
    have zR : R.size ≤ 10000 := by
      have h1 : R.size = (hd ++ 101 :: es).length := by rw [hR]; rfl
      rw [h1, ← e1]
      unfold Lib.trimPrefix
      split
      · rw [List.length_drop]; omega
      · omega
    have zH : HD.size ≤ 10000 := by
      have h1 : HD.size = hd.length := by rw [hHD]; rfl
      have h2 : R.size = (hd ++ 101 :: es).length := by rw [hR]; rfl
      rw [List.length_append] at h2; omega
    have TP : Hid (∀ w', Calls Tryz.prog 35 #[.string S, .string ⟨#[45]⟩] w' fun e w2 => e = .returned (.string R) ∧ w2 = w') := Lib.hid (fun w' => by
      have h := trimPrefix_any S ⟨#[45]⟩ w'
      rw [hS] at h
      rw [hS, hR, ← e1]; exact h)
    have CU : Hid (∀ w', Calls Tryz.prog 36 #[.string R, .string ⟨#[101]⟩] w' fun e w2 => e = .returned (.tuple #[.string HD, .string E, .bool true]) ∧ ∃ n, w2 = w'.drewN n) := Lib.hid (fun w' => by
      rw [hHD, hE]; exact cut_hit_any hd es 101 e2 R hR w' (by omega))
    have RP : Hid (∀ w', MaxI w' → Calls Tryz.prog 37 #[.string HD, .string ⟨#[46]⟩, .string ⟨#[]⟩, .int .i64 1] w' fun e w2 => e = .returned (.string AL) ∧ Below w'.heap.size w' w2) := Lib.hid (fun w' hm => by
      have h := replace_any HD w' (by omega) hm
      rw [hHD] at h
      rw [hHD, hAL, ← e3]; exact h)
    have zA : AL.size = g := by rw [hAL, ← e4]; rfl
    have zE : (3 : Int) ≤ ((E.size : Nat) : Int) := by
      have h1 : E.size = es.length := by rw [hE]; rfl
      omega
    have TA : Hid (∀ w', Calls Tryz.prog 38 #[.string AL, .string ⟨#[48, 49, 50, 51, 52, 53, 54, 55, 56, 57]⟩] w' fun e w2 => e = .returned (.string ⟨#[]⟩) ∧ Below w'.heap.size w' w2) := Lib.hid (fun w' => by
      have h := trim_any AL [48, 49, 50, 51, 52, 53, 54, 55, 56, 57] (by decide) (by decide) w' (by omega)
      have e : Lib.trimS AL.data.toList [48, 49, 50, 51, 52, 53, 54, 55, 56, 57] = [] := by rw [hAL]; exact e5
      rw [e] at h; exact h)
    have TZ : Hid (fcls x = 1 → ∀ w', Calls Tryz.prog 38 #[.string AL, .string ⟨#[48]⟩] w' fun e w2 => e = .returned (.string ⟨#[]⟩) ∧ Below w'.heap.size w' w2) := Lib.hid (fun hf w' => by
      have h := trim_any AL [48] (by decide) (by decide) w' (by omega)
      have e : Lib.trimS AL.data.toList [48] = [] := by rw [hAL]; exact (e7 hf).1
      rw [e] at h; exact h)
    have CL := Lib.hid (fun w' => class_any x x0 x1 w')
    have A0 : ∀ h : 0 < AL.size, AL[0]'h = c := fun h => ba_at0 c l AL hAL h
    have E0 : ∀ h : 0 < E.size, E[0]'h = h0 := fun h => ba_at0 h0 l2 E (by rw [hE, e9]) h
    obtain ⟨b43, k43, k45⟩ : ∃ b : Bool, (∀ h : 0 < E.size, (((E[0]'h).toNat : Int) == 43) = b) ∧ (∀ h : 0 < E.size, (((E[0]'h).toNat : Int) == 45) = !b) := by
      rcases e10 with h | h
      · exact ⟨true, fun k => by rw [E0 k, h]; decide, fun k => by rw [E0 k, h]; decide⟩
      · exact ⟨false, fun k => by rw [E0 k, h]; decide, fun k => by rw [E0 k, h]; decide⟩
    have EX : Hid (fcls x = 1 → E = ⟨#[43, 48, 48]⟩) := Lib.hid (fun hf => by rw [hE, (e7 hf).2])
    rw [← hS] at SX
    clear hS hR hHD hE hAL e1 e2 e3 e4 e5 e7 e8 hT hT10 hM hsl hv
    by_cases hf : fcls x = 1
    · have hc : c = 48 := e6.2 hf
      have TZ2 := Lib.hid (TZ.out hf)
      have HE := EX.out hf
      subst hc
      rw [hf] at CL
      clear TZ EX e6 hf k43 k45
      go_enter Tryz.func6, Tryz.ntmps6
      go_wp2_with (first
        | (go_at_call 33; (refine (SX.out _ H0.out T0.out).mono ?_); rintro r w1 ⟨rfl, hb⟩; replace H0 := Lib.hid (H0.out.below hb); replace T0 := Lib.hid (T0.out.below hb); replace M0 := Lib.hid (M0.out.below hb); replace B := Lib.hid (bl_thru B.out (Nat.le_refl _) hb); clear hb)
        | (go_at_call 34; (refine (decimalLives_any _ H0.out T0.out).mono ?_); rintro r w1 ⟨rfl, hb⟩; replace M0 := Lib.hid (M0.out.below hb); replace B := Lib.hid (bl_thru B.out (Nat.le_refl _) hb); clear hb)
        | (go_at_call 35; (refine (TP.out _).mono ?_); rintro r w1 ⟨rfl, rfl⟩)
        | (go_at_call 36; (refine (CU.out _).mono ?_); rintro r w9 ⟨rfl, nw, rfl⟩; replace M0 := Lib.hid (maxI_drewN nw M0.out); replace B := Lib.hid (below_to_drewN' nw B.out))
        | (go_at_call 37; (refine (RP.out _ M0.out).mono ?_); rintro r w1 ⟨rfl, hb⟩; replace B := Lib.hid (bl_thru B.out (Nat.le_refl _) hb); clear hb)
        | (go_at_call 24; (refine (CL.out _).mono ?_); rintro r w1 ⟨rfl, rfl⟩)
        | (go_at_call 38; first | ((with_reducible refine (TA.out _).mono ?_); rintro r w1 ⟨rfl, hb⟩; replace B := Lib.hid (bl_thru B.out (Nat.le_refl _) hb); clear hb) | ((with_reducible refine (TZ2.out _).mono ?_); rintro r w1 ⟨rfl, hb⟩; replace B := Lib.hid (bl_thru B.out (Nat.le_refl _) hb); clear hb)))
      all_goals first
        | (go_ret; refine ⟨?_, B.out⟩; (first | rfl | (simp_all; done)))
        | (exfalso; simp_all; done)
        | (exfalso; rcases e10 with rfl | rfl <;> simp_all <;> done)
        | trace_state
    · have hc : c ≠ 48 := fun h => hf (e6.1 h)
      have hfb : (fcls x == 1) = false := by rw [beq_eq_false_iff_ne]; exact hf
      have hcb : ∀ h : 0 < AL.size, (((AL[0]'h).toNat : Int) == 48) = false := by
        intro h
        rw [A0 h, beq_eq_false_iff_ne]
        intro e
        apply hc
        apply UInt8.toNat_inj.1
        have : (48 : UInt8).toNat = 48 := rfl
        omega
      generalize fcls x = F at *
      clear TZ EX e6 hf A0 E0 e9 e10
      go_enter Tryz.func6, Tryz.ntmps6
      go_wp2_with (first
        | (go_at_call 33; (refine (SX.out _ H0.out T0.out).mono ?_); rintro r w1 ⟨rfl, hb⟩; replace H0 := Lib.hid (H0.out.below hb); replace T0 := Lib.hid (T0.out.below hb); replace M0 := Lib.hid (M0.out.below hb); replace B := Lib.hid (bl_thru B.out (Nat.le_refl _) hb); clear hb)
        | (go_at_call 34; (refine (decimalLives_any _ H0.out T0.out).mono ?_); rintro r w1 ⟨rfl, hb⟩; replace M0 := Lib.hid (M0.out.below hb); replace B := Lib.hid (bl_thru B.out (Nat.le_refl _) hb); clear hb)
        | (go_at_call 35; (refine (TP.out _).mono ?_); rintro r w1 ⟨rfl, rfl⟩)
        | (go_at_call 36; (refine (CU.out _).mono ?_); rintro r w9 ⟨rfl, nw, rfl⟩; replace M0 := Lib.hid (maxI_drewN nw M0.out); replace B := Lib.hid (below_to_drewN' nw B.out))
        | (go_at_call 37; (refine (RP.out _ M0.out).mono ?_); rintro r w1 ⟨rfl, hb⟩; replace B := Lib.hid (bl_thru B.out (Nat.le_refl _) hb); clear hb)
        | (go_at_call 24; (refine (CL.out _).mono ?_); rintro r w1 ⟨rfl, rfl⟩)
        | (go_at_call 38; (refine (TA.out _).mono ?_); rintro r w1 ⟨rfl, hb⟩; replace B := Lib.hid (bl_thru B.out (Nat.le_refl _) hb); clear hb))
      all_goals first
        | (go_ret; refine ⟨?_, B.out⟩; (first | rfl | (simp_all; done)))
        | (exfalso; simp_all; done)
        | (exfalso; rcases e10 with rfl | rfl <;> simp_all <;> done)
        | trace_state
  · have hS0 : scS x digits mode = [] := by unfold scS; rw [if_neg he]
    have heb : (scE x digits mode != 0) = true := by rw [bne_iff_ne]; exact he
    rw [hS0] at SX
    generalize scC x digits mode = cc at *
    generalize scE x digits mode = E at *
    clear hT hT10 hM hS0
    go_enter Tryz.func6, Tryz.ntmps6
    go_wp2_with (first
      | (go_at_call 33; (refine (SX.out _ H0.out T0.out).mono ?_); rintro r w1 ⟨rfl, hb⟩; replace H0 := Lib.hid (H0.out.below hb); replace T0 := Lib.hid (T0.out.below hb); replace M0 := Lib.hid (M0.out.below hb); replace B := Lib.hid (bl_thru B.out (Nat.le_refl _) hb); clear hb)
      | (go_at_call 34; (refine (decimalLives_any _ H0.out T0.out).mono ?_); rintro r w1 ⟨rfl, hb⟩; replace H0 := Lib.hid (H0.out.below hb); replace T0 := Lib.hid (T0.out.below hb); replace B := Lib.hid (bl_thru B.out (Nat.le_refl _) hb); clear hb))
    all_goals first
      | (go_ret; refine ⟨?_, B.out⟩; (first | rfl | (simp_all; done)))
      | (exfalso; simp_all; done)
      | trace_state
end Go.Proofs.YthlocmhfjandlaaGreatDoor
