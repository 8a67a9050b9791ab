/-
  SOME OF MY TEXTS in one: Us Ut Uu. Each says what it proves.
-/
import Derived.Test.YtmpdbmaokbhcjaaDoorUem
import Derived.Test.YtmpdbmaokbhcjaaDoorUij
import Derived.Test.YtmpdbmaokbhcjaaDoorUh
set_option linter.unusedVariables false
set_option linter.unusedSimpArgs false
/-
  THE WALK of expo.Exp.
-/
namespace Go.Proofs.YtmpdbmaokbhcjaaDoor
open Go.RowKit Nt Fm Fl

/-- dyad.Value, by parts -/
theorem value_parts (x : Int) (u0 : 0 ≤ x) (u1 : x ≤ 18446744073709551615) (w : World) (hT : Tab w) {g : Bool} {m : Nat} {x2 : Int} (hD : valD x = ⟨g, m, x2⟩) :
    Calls Tryd.prog 47 #[.int .u64 x] w fun r w' => ∃ a n c, r = .returned (.agg #[.bool g, .slice a n c, .int .i64 x2]) ∧ NV w' (.slice a n c) m ∧ Below w.heap.size w w' := by
  refine (value_any x u0 u1 w hT).mono ?_
  rintro r w' ⟨v, rfl, hv, hb⟩
  obtain ⟨a, n, c, rfl, h2⟩ := hv.parts
  rw [hD] at h2 ⊢
  exact ⟨a, n, c, rfl, h2, hb⟩
theorem fin0_of {x : Int} (u0 : 0 ≤ x) (u1 : x ≤ 18446744073709551615) (h5 : fcls x ≠ 5) (h1 : fcls x ≠ 1) (h4 : fcls x ≠ 4) : Fin0 x := by
  have hb := fabs_bd x
  unfold fcls at h5 h1 h4
  refine ⟨u0, u1, ?_, ?_⟩ <;> (repeat' split at h5) <;> (repeat' split at h1) <;> (repeat' split at h4) <;> omega
theorem fin0_cls {x : Int} (h : Fin0 x) : fcls x ≠ 5 ∧ fcls x ≠ 1 ∧ fcls x ≠ 4 := by
  obtain ⟨a, b, c, d⟩ := h
  unfold fcls
  rw [if_neg d]
  by_cases h2 : fabs x < 4503599627370496
  · rw [if_pos h2]; decide
  · rw [if_neg h2, if_pos c]; decide
theorem inf_two {x : Int} (u0 : 0 ≤ x) (u1 : x ≤ 18446744073709551615) (h : fcls x = 4) : x = 9218868437227405312 ∨ x = 18442240474082181120 := by
  have hb := fabs_bd x
  have : fabs x = 9218868437227405312 := by
    unfold fcls at h
    (repeat' split at h) <;> omega
  unfold fabs at this
  omega
def xpE (mode : Int) : Int := if knownB mode then 0 else 1
noncomputable def xpV (x mode : Int) : Int :=
  if knownB mode then (if fcls x = 5 then 9221120237041090560 else if fcls x = 1 then 4607182418800017408 else if x = 9218868437227405312 then x else if x = 18442240474082181120 then 0 else rnV (cutE (rv (valD x))) mode) else 0
def finB (x : Int) : Bool := decide (fabs x < 9218868437227405312 ∧ fabs x ≠ 0)
def xpC (x mode : Int) : Bool := knownB mode && finB x
theorem finB_t {x : Int} (h : Fin0 x) : finB x = true := decide_eq_true ⟨h.2.2.1, h.2.2.2⟩
theorem finB_f {x : Int} (h : fcls x = 5 ∨ fcls x = 1 ∨ fcls x = 4) : finB x = false := by
  unfold finB
  rw [decide_eq_false_iff_not]
  rintro ⟨a, b⟩
  unfold fcls at h
  rw [if_neg b] at h
  by_cases h2 : fabs x < 4503599627370496
  · rw [if_pos h2] at h; omega
  · rw [if_neg h2, if_pos a] at h; omega
theorem xpE_t {mode : Int} (h : knownB mode = true) : xpE mode = 0 := by unfold xpE; rw [h]; rfl
theorem xpE_f {mode : Int} (h : knownB mode = false) : xpE mode = 1 := by unfold xpE; rw [h]; rfl
theorem xp_bad {x mode : Int} (h : knownB mode = false) : xpV x mode = 0 ∧ xpC x mode = false ∧ xpE mode = 1 := by
  refine ⟨?_, ?_, xpE_f h⟩
  · unfold xpV; rw [h]; rfl
  · unfold xpC; rw [h]; rfl
theorem xp_nan {x mode : Int} (h : knownB mode = true) (h5 : fcls x = 5) : xpV x mode = 9221120237041090560 ∧ xpC x mode = false ∧ xpE mode = 0 := by
  refine ⟨?_, ?_, xpE_t h⟩
  · unfold xpV; rw [if_pos h, if_pos h5]
  · unfold xpC; rw [h, finB_f (Or.inl h5)]; rfl
theorem xp_zero {x mode : Int} (h : knownB mode = true) (h1 : fcls x = 1) : xpV x mode = 4607182418800017408 ∧ xpC x mode = false ∧ xpE mode = 0 := by
  refine ⟨?_, ?_, xpE_t h⟩
  · unfold xpV; rw [if_pos h, if_neg (by omega), if_pos h1]
  · unfold xpC; rw [h, finB_f (Or.inr (Or.inl h1))]; rfl
theorem xp_inf {mode : Int} (h : knownB mode = true) : xpV 9218868437227405312 mode = 9218868437227405312 ∧ xpC 9218868437227405312 mode = false ∧ xpE mode = 0 := by
  refine ⟨?_, ?_, xpE_t h⟩
  · unfold xpV; rw [if_pos h, if_neg (by decide), if_neg (by decide), if_pos rfl]
  · unfold xpC; rw [h, finB_f (Or.inr (Or.inr (by decide)))]; rfl
theorem xp_minf {mode : Int} (h : knownB mode = true) : xpV 18442240474082181120 mode = 0 ∧ xpC 18442240474082181120 mode = false ∧ xpE mode = 0 := by
  refine ⟨?_, ?_, xpE_t h⟩
  · unfold xpV; rw [if_pos h, if_neg (by decide), if_neg (by decide), if_neg (by decide), if_pos rfl]
  · unfold xpC; rw [h, finB_f (Or.inr (Or.inr (by decide)))]; rfl
theorem xp_fin {x mode : Int} (h : knownB mode = true) (hf : Fin0 x) : xpV x mode = rnV (cutE (rv (valD x))) mode ∧ xpC x mode = true ∧ xpE mode = 0 := by
  obtain ⟨a, b, c⟩ := fin0_cls hf
  refine ⟨?_, ?_, xpE_t h⟩
  · unfold xpV
    rw [if_pos h, if_neg a, if_neg b, if_neg (by rintro rfl; exact c (by decide)), if_neg (by rintro rfl; exact c (by decide))]
  · unfold xpC; rw [h, finB_t hf]; rfl
theorem bes_one {s : Int} (h : s = 1 ∨ s = -1) : (besD (norm false 1 0) s).m < 2 ^ 70 ∧ -16000000000000 ≤ (besD (norm false 1 0) s).e ∧ (besD (norm false 1 0) s).e ≤ 16000000000000 ∧ (besD (norm false 1 0) s).m ≠ 0 := by
  rcases h with rfl | rfl <;> decide +kernel

set_option maxRecDepth 100000 in
set_option maxHeartbeats 16000000 in
theorem xexp_any (x mode : Int) (w : World) (hT : Tab w) (u0 : 0 ≤ x) (u1 : x ≤ 18446744073709551615) (p0 : -9223372036854775808 ≤ mode) (p1 : mode ≤ 9223372036854775807) :
    Calls Tryd.prog 20 #[.int .u64 x, .int .i64 mode] w fun r w' => r = .returned (.tuple #[.int .u64 (xpV x mode), .bool (xpC x mode), .int .i64 (xpE mode)]) ∧ Below w.heap.size w w' := by
  have HT := Lib.hid hT
  have KN := Lib.hid (fun w' => known_any mode w')
  have CL := Lib.hid (fun w' => class_any x u0 u1 w')
  by_cases hk : knownB mode = true
  case neg =>
    have hk' : knownB mode = false := by simpa using hk
    rw [(xp_bad (x := x) hk').1, (xp_bad (x := x) hk').2.1, (xp_bad (x := x) hk').2.2]
    rw [hk'] at KN
    clear CL hT hk hk'
    go_enter Tryd.func20, Tryd.ntmps20
    go_wp2_with (go_at_call 46; refine (KN.out _).mono ?_; rintro e w' ⟨rfl, rfl⟩)
    go_ret3
    exact ⟨rfl, Below.refl _ _⟩
  have hmode : 0 ≤ mode ∧ mode ≤ 4 := by unfold knownB at hk; exact of_decide_eq_true hk
  rw [hk] at KN
  by_cases h5 : fcls x = 5
  · rw [(xp_nan hk h5).1, (xp_nan hk h5).2.1, (xp_nan hk h5).2.2]
    rw [h5] at CL
    clear hT hk h5
    go_enter Tryd.func20, Tryd.ntmps20
    go_wp2_with (first
      | (go_at_call 46; refine (KN.out _).mono ?_; rintro e w' ⟨rfl, rfl⟩)
      | (go_at_call 16; refine (CL.out _).mono ?_; rintro e w' ⟨rfl, rfl⟩))
    go_ret3
    exact ⟨rfl, Below.refl _ _⟩
  by_cases h1 : fcls x = 1
  · rw [(xp_zero hk h1).1, (xp_zero hk h1).2.1, (xp_zero hk h1).2.2]
    rw [h1] at CL
    clear hT hk h5 h1
    go_enter Tryd.func20, Tryd.ntmps20
    go_wp2_with (first
      | (go_at_call 46; refine (KN.out _).mono ?_; rintro e w' ⟨rfl, rfl⟩)
      | (go_at_call 16; refine (CL.out _).mono ?_; rintro e w' ⟨rfl, rfl⟩))
    go_ret3
    exact ⟨rfl, Below.refl _ _⟩
  by_cases h4 : fcls x = 4
  · rcases inf_two u0 u1 h4 with hx | hx
    · subst hx
      rw [(xp_inf hk).1, (xp_inf hk).2.1, (xp_inf hk).2.2]
      rw [h4] at CL
      clear hT hk h5 h1 h4
      go_enter Tryd.func20, Tryd.ntmps20
      go_wp2_with (first
      | (go_at_call 46; refine (KN.out _).mono ?_; rintro e w' ⟨rfl, rfl⟩)
      | (go_at_call 16; refine (CL.out _).mono ?_; rintro e w' ⟨rfl, rfl⟩))
      go_ret3
      exact ⟨rfl, Below.refl _ _⟩
    · subst hx
      rw [(xp_minf hk).1, (xp_minf hk).2.1, (xp_minf hk).2.2]
      rw [h4] at CL
      clear hT hk h5 h1 h4
      go_enter Tryd.func20, Tryd.ntmps20
      go_wp2_with (first
      | (go_at_call 46; refine (KN.out _).mono ?_; rintro e w' ⟨rfl, rfl⟩)
      | (go_at_call 16; refine (CL.out _).mono ?_; rintro e w' ⟨rfl, rfl⟩))
      go_ret3
      exact ⟨rfl, Below.refl _ _⟩
  have F0 : Fin0 x := fin0_of u0 u1 h5 h1 h4
  obtain ⟨g, m, x2, hD⟩ : ∃ g m x2, valD x = ⟨g, m, x2⟩ := ⟨_, _, _, rfl⟩
  have hm0 := F0.m
  obtain ⟨bd1, bd2, bd3, bd4⟩ := F0.bd
  have VA := Lib.hid (fun w' ht => value_parts x u0 u1 w' ht hD)
  have TP := Lib.hid (fun a n c w' hv => etop_any (.agg #[.bool g, .slice a n c, .int .i64 x2]) ⟨g, m, x2⟩ w' ⟨_, rfl, hv⟩ (by rw [hD] at bd1; exact bd1) (by rw [hD] at bd2; simp only at bd2 ⊢; omega) (by rw [hD] at bd3; simp only at bd3 ⊢; omega))
  have c5 : (fcls x == 5) = false := by rw [beq_eq_false_iff_ne]; exact h5
  have c1' : (fcls x == 1) = false := by rw [beq_eq_false_iff_ne]; exact h1
  have i1 : (x == 9218868437227405312) = false := by rw [beq_eq_false_iff_ne]; rintro rfl; exact h4 (by decide)
  have i2 : (x == 18442240474082181120) = false := by rw [beq_eq_false_iff_ne]; rintro rfl; exact h4 (by decide)
  rw [(xp_fin hk F0).1, (xp_fin hk F0).2.1, (xp_fin hk F0).2.2]
  have W1 := fun ht => wayE_small hm0 ht mode
  have W2 := fun hg ht => wayE_tiny hm0 hg ht mode
  have W3 := fun hg ht => wayE_huge hm0 hg ht mode
  have W4 := fun a => (rnV_is (c := cutE (rv (valD x))) (mode := mode) (r := a))
  generalize fcls x = cc at *
  rw [hD] at W1 W2 W3 W4 hm0 bd1 bd2 bd3 bd4 ⊢
  simp only at bd1 bd2 bd3 bd4 W2 W3
  have RV : 0 ≤ rnV (cutE (rv ⟨g, m, x2⟩)) mode ∧ True := by
    have := rnV_rn (exp_ex F0 mode)
    rw [hD] at this
    exact ⟨this.bd.1, trivial⟩
  obtain ⟨T, hTp⟩ : ∃ T, T = topD ⟨g, m, x2⟩ := ⟨_, rfl⟩
  rw [← hTp] at TP W1 W2 W3
  have hcase : T < -60 ∨ (-60 ≤ T ∧ ((10 ≤ T ∧ (g = true ∨ g = false)) ∨ T < 10)) := by
    by_cases h : T < -60
    · exact Or.inl h
    · right
      refine ⟨by omega, ?_⟩
      by_cases h2 : 10 ≤ T
      · left
        refine ⟨h2, ?_⟩
        cases g
        · exact Or.inr rfl
        · exact Or.inl rfl
      · right; omega
  rcases hcase with h | ⟨ha, ⟨hb, rfl | rfl⟩ | hb⟩
  · obtain ⟨q1, q2⟩ := W1 h
    have q3 := W4 _ q1
    have ONE := Lib.hid (fun w' ht => eone_any w' ht)
    have SG := Lib.hid (fun a n c w' hv => sign_any (.agg #[.bool g, .slice a n c, .int .i64 x2]) ⟨g, m, x2⟩ w' ⟨_, rfl, hv⟩)
    have hs : sign ⟨g, m, x2⟩ = 1 ∨ sign ⟨g, m, x2⟩ = -1 := by cases g; exact Or.inl (sign_f hm0 rfl); exact Or.inr (sign_t hm0 rfl)
    have hOm : (norm false 1 0).m = 1 ∧ (norm false 1 0).e = 0 := by decide +kernel
    have BS := Lib.hid (fun v w' hd => beside_any v (norm false 1 0) 1 (sign ⟨g, m, x2⟩) w' hd (by rw [hOm.1]; decide) (by decide) (by rw [hOm.2]; decide) (by rw [hOm.2]; decide))
    have bb := bes_one hs
    have NU := Lib.hid (fun v w' hd => xnum_any v (besD (norm false 1 0) (sign ⟨g, m, x2⟩)) 70 mode w' hd bb.1 (by decide) (by omega) (by omega) (fun h0 => absurd h0 bb.2.2.2) hmode.1 hmode.2)
    rw [← q3, q2] at NU
    generalize besD (norm false 1 0) (sign ⟨g, m, x2⟩) = Z at *
    generalize sign ⟨g, m, x2⟩ = sg at *
    generalize norm false 1 0 = O at *
    generalize rnV (cutE (rv ⟨g, m, x2⟩)) mode = R at *
    clear hT hk h5 h1 h4 F0 hD W1 W2 W3 W4 hm0 bd1 bd2 bd3 bd4 hTp q1 q2 q3 bb hOm hs RV
    go_enter Tryd.func20, Tryd.ntmps20
    go_wp2_with (first
      | (go_at_call 46; refine (KN.out _).mono ?_; rintro e w' ⟨rfl, rfl⟩)
      | (go_at_call 16; refine (CL.out _).mono ?_; rintro e w' ⟨rfl, rfl⟩))
    refine (VA.out _ HT.out).mono ?_
    rintro r w1 ⟨e1, f1, g1, rfl, hv1, hb1⟩
    obtain ⟨V1, hV1⟩ : ∃ V, V = w1.alloc (.cells #[.bool g, .slice e1 f1 g1, .int .i64 x2] 24) := ⟨_, rfl⟩
    have X1 := Lib.hid (show Box V1 w1.heap.size 24 (.bool g) (.slice e1 f1 g1) (.int .i64 x2) from by rw [hV1]; exact Box.new w1 _ _ _ _)
    have N1 := Lib.hid (show NV V1 (.slice e1 f1 g1) m from by rw [hV1]; exact hv1.alloc _)
    have B1 := Lib.hid (show Below w.heap.size w V1 from by rw [hV1]; exact hb1.alloc hb1.size _)
    obtain ⟨b8, hb8⟩ : ∃ b8, b8 = w1.heap.size := ⟨_, rfl⟩
    rw [← hb8] at X1
    have z8 : w.heap.size ≤ b8 := by rw [hb8]; exact hb1.size
    clear hv1 hb1
    go_wp2_with fail
    rw [← hV1, ← hb8]
    clear hV1 hb8
    refine (TP.out e1 f1 g1 _ N1.out).mono ?_
    rintro r w2 ⟨rfl, hb⟩
    have B2 := Lib.hid (bl_thru B1.out (Nat.le_refl _) hb)
    have X2 := Lib.hid (X1.out.below hb)
    have N2 := Lib.hid (N1.out.below hb)
    clear hb B1 X1 N1
    obtain ⟨c0, c1, c2, -, -, -⟩ := X2.out.cells
    go_wp2_with fail
    clear c0 c1 c2
    obtain ⟨j0, j1, j2, -, -, -⟩ := X2.out.drew.cells
    go_region_held3 (fun w' => w'.cell? ⟨b8, 0, none⟩ = some (.bool g) ∧ w'.cell? ⟨b8, 1, none⟩ = some (.slice e1 f1 g1) ∧ w'.cell? ⟨b8, 2, none⟩ = some (.int .i64 x2))
      (first
        | with_reducible exact ⟨j0, j1, j2⟩
        | (obtain ⟨i0, i1, i2, -, -, -⟩ := (X2.out.drew.below hb3).cells
           with_reducible exact ⟨i0, i1, i2⟩)
        | (obtain ⟨i0, i1, i2, -, -, -⟩ := ((X2.out.drew.below HB3.out).below hb4).cells
           with_reducible exact ⟨i0, i1, i2⟩)
        | (obtain ⟨i0, i1, i2, -, -, -⟩ := (((X2.out.drew.below HB3.out).below HB4.out).below hb5).cells
           with_reducible exact ⟨i0, i1, i2⟩)
        | (obtain ⟨i0, i1, i2, -, -, -⟩ := ((((X2.out.drew.below HB3.out).below HB4.out).below HB5.out).below hb6).cells
           with_reducible exact ⟨i0, i1, i2⟩))
      (first
        | (go_at_call 51; refine (ONE.out _ (HT.out.below B2.out.drew)).mono ?_; rintro r w3 ⟨v3, rfl, hu3, hb3⟩; have HB3 := Lib.hid hb3; have V3 := Lib.hid hu3; have B3 := Lib.hid (bl_thru B2.out.drew (Nat.le_refl _) hb3); have N3 := Lib.hid (N2.out.dr.below hb3))
        | (go_at_call 52; refine (SG.out e1 f1 g1 _ N3.out).mono ?_; rintro r w4 ⟨rfl, hb4⟩; have HB4 := Lib.hid hb4; have V4 := Lib.hid (V3.out.below hb4); have B4 := Lib.hid (bl_thru B3.out (Nat.le_refl _) hb4))
        | (go_at_call 50; refine (BS.out _ _ V4.out).mono ?_; rintro r w5 ⟨v5, rfl, hu5, hb5⟩; have HB5 := Lib.hid hb5; have V5 := Lib.hid hu5; have B5 := Lib.hid (bl_thru B4.out (Nat.le_refl _) hb5))
        | (go_at_call 49; refine (NU.out _ _ V5.out).mono ?_; rintro r w6 ⟨rfl, hb6⟩; have HB6 := Lib.hid hb6; have B6 := Lib.hid (bl_thru B5.out (Nat.le_refl _) hb6)))
    go_wp2
    go_ret3
    exact ⟨rfl, B6.out⟩
  · obtain ⟨q1, q2⟩ := W2 rfl hb
    have q3 := W4 _ q1
    have HG := Lib.hid (fun w' => etiny_any w')
    have NU := Lib.hid (fun v w' hd => xnum_any v ⟨false, 1, -2000⟩ 1 mode w' hd (by show 1 < 2 ^ 1; decide) (by decide) (by decide) (by decide) (fun h0 => absurd h0 (by decide)) hmode.1 hmode.2)
    rw [← q3, q2] at NU
    generalize rnV (cutE (rv ⟨true, m, x2⟩)) mode = R at *
    clear hT hk h5 h1 h4 F0 hD W1 W2 W3 W4 hm0 bd1 bd2 bd3 bd4 hTp q1 q2 q3 RV
    go_enter Tryd.func20, Tryd.ntmps20
    go_wp2_with (first
      | (go_at_call 46; refine (KN.out _).mono ?_; rintro e w' ⟨rfl, rfl⟩)
      | (go_at_call 16; refine (CL.out _).mono ?_; rintro e w' ⟨rfl, rfl⟩))
    refine (VA.out _ HT.out).mono ?_
    rintro r w1 ⟨e1, f1, g1, rfl, hv1, hb1⟩
    obtain ⟨V1, hV1⟩ : ∃ V, V = w1.alloc (.cells #[.bool true, .slice e1 f1 g1, .int .i64 x2] 24) := ⟨_, rfl⟩
    have X1 := Lib.hid (show Box V1 w1.heap.size 24 (.bool true) (.slice e1 f1 g1) (.int .i64 x2) from by rw [hV1]; exact Box.new w1 _ _ _ _)
    have N1 := Lib.hid (show NV V1 (.slice e1 f1 g1) m from by rw [hV1]; exact hv1.alloc _)
    have B1 := Lib.hid (show Below w.heap.size w V1 from by rw [hV1]; exact hb1.alloc hb1.size _)
    obtain ⟨b8, hb8⟩ : ∃ b8, b8 = w1.heap.size := ⟨_, rfl⟩
    rw [← hb8] at X1
    have z8 : w.heap.size ≤ b8 := by rw [hb8]; exact hb1.size
    clear hv1 hb1
    go_wp2_with fail
    rw [← hV1, ← hb8]
    clear hV1 hb8
    refine (TP.out e1 f1 g1 _ N1.out).mono ?_
    rintro r w2 ⟨rfl, hb⟩
    have B2 := Lib.hid (bl_thru B1.out (Nat.le_refl _) hb)
    have X2 := Lib.hid (X1.out.below hb)
    have N2 := Lib.hid (N1.out.below hb)
    clear hb B1 X1 N1
    obtain ⟨c0, c1, c2, -, -, -⟩ := X2.out.cells
    go_wp2_with fail
    clear c0 c1 c2
    refine (TP.out e1 f1 g1 _ N2.out).mono ?_
    rintro r w3 ⟨rfl, hb⟩
    have B3 := Lib.hid (bl_thru B2.out (Nat.le_refl _) hb)
    have X3 := Lib.hid (X2.out.below hb)
    have N3 := Lib.hid (N2.out.below hb)
    clear hb B2 X2 N2
    obtain ⟨c0, c1, c2, -, -, -⟩ := X3.out.cells
    go_wp2_with fail
    clear c0 c1 c2
    refine (HG.out _).mono ?_
    rintro r w8 ⟨v8, rfl, hu8, hb⟩
    have B8 := Lib.hid (bl_thru B3.out (Nat.le_refl _) hb)
    have V8 := Lib.hid hu8
    clear hb hu8
    go_wp2_with fail
    refine (NU.out _ _ V8.out).mono ?_
    rintro r w9 ⟨rfl, hb⟩
    have B9 := Lib.hid (bl_thru B8.out (Nat.le_refl _) hb)
    clear hb
    go_wp2
    go_ret3
    exact ⟨rfl, B9.out⟩
  · obtain ⟨q1, q2⟩ := W3 rfl hb |>.1
    have q3 := W4 _ q1
    have HG := Lib.hid (fun w' => ehuge_any false w')
    have NU := Lib.hid (fun v w' hd => xnum_any v ⟨false, 1, 2000⟩ 1 mode w' hd (by show 1 < 2 ^ 1; decide) (by decide) (by decide) (by decide) (fun h0 => absurd h0 (by decide)) hmode.1 hmode.2)
    rw [← q3, q2] at NU
    generalize rnV (cutE (rv ⟨false, m, x2⟩)) mode = R at *
    clear hT hk h5 h1 h4 F0 hD W1 W2 W3 W4 hm0 bd1 bd2 bd3 bd4 hTp q1 q2 q3 RV
    go_enter Tryd.func20, Tryd.ntmps20
    go_wp2_with (first
      | (go_at_call 46; refine (KN.out _).mono ?_; rintro e w' ⟨rfl, rfl⟩)
      | (go_at_call 16; refine (CL.out _).mono ?_; rintro e w' ⟨rfl, rfl⟩))
    refine (VA.out _ HT.out).mono ?_
    rintro r w1 ⟨e1, f1, g1, rfl, hv1, hb1⟩
    obtain ⟨V1, hV1⟩ : ∃ V, V = w1.alloc (.cells #[.bool false, .slice e1 f1 g1, .int .i64 x2] 24) := ⟨_, rfl⟩
    have X1 := Lib.hid (show Box V1 w1.heap.size 24 (.bool false) (.slice e1 f1 g1) (.int .i64 x2) from by rw [hV1]; exact Box.new w1 _ _ _ _)
    have N1 := Lib.hid (show NV V1 (.slice e1 f1 g1) m from by rw [hV1]; exact hv1.alloc _)
    have B1 := Lib.hid (show Below w.heap.size w V1 from by rw [hV1]; exact hb1.alloc hb1.size _)
    obtain ⟨b8, hb8⟩ : ∃ b8, b8 = w1.heap.size := ⟨_, rfl⟩
    rw [← hb8] at X1
    have z8 : w.heap.size ≤ b8 := by rw [hb8]; exact hb1.size
    clear hv1 hb1
    go_wp2_with fail
    rw [← hV1, ← hb8]
    clear hV1 hb8
    refine (TP.out e1 f1 g1 _ N1.out).mono ?_
    rintro r w2 ⟨rfl, hb⟩
    have B2 := Lib.hid (bl_thru B1.out (Nat.le_refl _) hb)
    have X2 := Lib.hid (X1.out.below hb)
    have N2 := Lib.hid (N1.out.below hb)
    clear hb B1 X1 N1
    obtain ⟨c0, c1, c2, -, -, -⟩ := X2.out.cells
    go_wp2_with fail
    clear c0 c1 c2
    refine (TP.out e1 f1 g1 _ N2.out).mono ?_
    rintro r w3 ⟨rfl, hb⟩
    have B3 := Lib.hid (bl_thru B2.out (Nat.le_refl _) hb)
    have X3 := Lib.hid (X2.out.below hb)
    have N3 := Lib.hid (N2.out.below hb)
    clear hb B2 X2 N2
    obtain ⟨c0, c1, c2, -, -, -⟩ := X3.out.cells
    go_wp2_with fail
    clear c0 c1 c2
    refine (TP.out e1 f1 g1 _ N3.out).mono ?_
    rintro r w4 ⟨rfl, hb⟩
    have B4 := Lib.hid (bl_thru B3.out (Nat.le_refl _) hb)
    have X4 := Lib.hid (X3.out.below hb)
    have N4 := Lib.hid (N3.out.below hb)
    clear hb B3 X3 N3
    obtain ⟨c0, c1, c2, -, -, -⟩ := X4.out.cells
    go_wp2_with fail
    clear c0 c1 c2
    refine (HG.out _).mono ?_
    rintro r w8 ⟨v8, rfl, hu8, hb⟩
    have B8 := Lib.hid (bl_thru B4.out (Nat.le_refl _) hb)
    have V8 := Lib.hid hu8
    clear hb hu8
    go_wp2_with fail
    refine (NU.out _ _ V8.out).mono ?_
    rintro r w9 ⟨rfl, hb⟩
    have B9 := Lib.hid (bl_thru B8.out (Nat.le_refl _) hb)
    clear hb
    go_wp2
    go_ret3
    exact ⟨rfl, B9.out⟩
  · obtain ⟨s, hs, hs1⟩ := s_ex ⟨g, m, x2⟩ (by rw [← hTp]; exact hb)
    have hx := abs_2048 hm0 (by rw [← hTp]; exact hb)
    have NR := Lib.hid (fun b w' ht hd => nearE_any (cutE (rv ⟨g, m, x2⟩)) b ⟨g, m, x2⟩ mode w' ht hd hmode.1 hmode.2 (fun p w'' q0 q1 ht' hd' => cloE_any b ⟨g, m, x2⟩ s p w'' ht' hd' hm0 bd1 (by simp only; omega) (by simp only; omega) hx hs hs1 q0 q1))
    have W5 := Lib.hid W4
    generalize rnV (cutE (rv ⟨g, m, x2⟩)) mode = R at *
    clear hT hk h5 h1 h4 F0 hD W1 W2 W3 W4 hm0 bd1 bd2 bd3 bd4 hTp hs hs1 hx RV
    go_enter Tryd.func20, Tryd.ntmps20
    go_wp2_with (first
      | (go_at_call 46; refine (KN.out _).mono ?_; rintro e w' ⟨rfl, rfl⟩)
      | (go_at_call 16; refine (CL.out _).mono ?_; rintro e w' ⟨rfl, rfl⟩))
    refine (VA.out _ HT.out).mono ?_
    rintro r w1 ⟨e1, f1, g1, rfl, hv1, hb1⟩
    obtain ⟨V1, hV1⟩ : ∃ V, V = w1.alloc (.cells #[.bool g, .slice e1 f1 g1, .int .i64 x2] 24) := ⟨_, rfl⟩
    have X1 := Lib.hid (show Box V1 w1.heap.size 24 (.bool g) (.slice e1 f1 g1) (.int .i64 x2) from by rw [hV1]; exact Box.new w1 _ _ _ _)
    have N1 := Lib.hid (show NV V1 (.slice e1 f1 g1) m from by rw [hV1]; exact hv1.alloc _)
    have B1 := Lib.hid (show Below w.heap.size w V1 from by rw [hV1]; exact hb1.alloc hb1.size _)
    obtain ⟨b8, hb8⟩ : ∃ b8, b8 = w1.heap.size := ⟨_, rfl⟩
    rw [← hb8] at X1
    have z8 : w.heap.size ≤ b8 := by rw [hb8]; exact hb1.size
    clear hv1 hb1
    go_wp2_with fail
    rw [← hV1, ← hb8]
    clear hV1 hb8
    refine (TP.out e1 f1 g1 _ N1.out).mono ?_
    rintro r w2 ⟨rfl, hb⟩
    have B2 := Lib.hid (bl_thru B1.out (Nat.le_refl _) hb)
    have X2 := Lib.hid (X1.out.below hb)
    have N2 := Lib.hid (N1.out.below hb)
    clear hb B1 X1 N1
    obtain ⟨c0, c1, c2, -, -, -⟩ := X2.out.cells
    go_wp2_with fail
    clear c0 c1 c2
    refine (TP.out e1 f1 g1 _ N2.out).mono ?_
    rintro r w3 ⟨rfl, hb⟩
    have B3 := Lib.hid (bl_thru B2.out (Nat.le_refl _) hb)
    have X3 := Lib.hid (X2.out.below hb)
    have N3 := Lib.hid (N2.out.below hb)
    clear hb B2 X2 N2
    obtain ⟨c0, c1, c2, -, -, -⟩ := X3.out.cells
    go_wp2_with fail
    clear c0 c1 c2
    refine (TP.out e1 f1 g1 _ N3.out).mono ?_
    rintro r w4 ⟨rfl, hb⟩
    have B4 := Lib.hid (bl_thru B3.out (Nat.le_refl _) hb)
    have X4 := Lib.hid (X3.out.below hb)
    have N4 := Lib.hid (N3.out.below hb)
    clear hb B3 X3 N3
    obtain ⟨c0, c1, c2, -, -, -⟩ := X4.out.cells
    go_wp2_with fail
    clear c0 c1 c2
    refine (NR.out _ _ (HT.out.below B4.out) ⟨e1, f1, g1, X4.out, N4.out⟩).mono ?_
    rintro r w8 ⟨a, ha, rfl, hb⟩
    have B8 := Lib.hid (bl_thru B4.out (Nat.le_refl _) hb)
    have q := W5.out a ha
    subst q
    clear hb ha
    go_wp2
    go_ret3
    exact ⟨rfl, B8.out⟩
end Go.Proofs.YtmpdbmaokbhcjaaDoor

/-
  THE WALK of expo.Expm1.
-/

namespace Go.Proofs.YtmpdbmaokbhcjaaDoor
open Go.RowKit Nt Fm Fl

noncomputable def x1V (x mode : Int) : Int :=
  if knownB mode then (if fcls x = 5 then 9221120237041090560 else if fcls x = 1 then x else if x = 9218868437227405312 then x else if x = 18442240474082181120 then 13830554455654793216 else rnV (cutX (rv (valD x))) mode) else 0
theorem x1_bad {x mode : Int} (h : knownB mode = false) : x1V x mode = 0 ∧ xpC x mode = false ∧ xpE mode = 1 := by
  refine ⟨?_, (xp_bad (x := x) h).2⟩
  unfold x1V; rw [h]; rfl
theorem x1_nan {x mode : Int} (h : knownB mode = true) (h5 : fcls x = 5) : x1V x mode = 9221120237041090560 ∧ xpC x mode = false ∧ xpE mode = 0 := by
  refine ⟨?_, (xp_nan h h5).2⟩
  unfold x1V; rw [if_pos h, if_pos h5]
theorem x1_zero {x mode : Int} (h : knownB mode = true) (h1 : fcls x = 1) : x1V x mode = x ∧ xpC x mode = false ∧ xpE mode = 0 := by
  refine ⟨?_, (xp_zero h h1).2⟩
  unfold x1V; rw [if_pos h, if_neg (by omega), if_pos h1]
theorem x1_inf {mode : Int} (h : knownB mode = true) : x1V 9218868437227405312 mode = 9218868437227405312 ∧ xpC 9218868437227405312 mode = false ∧ xpE mode = 0 := by
  refine ⟨?_, (xp_inf h).2⟩
  unfold x1V; rw [if_pos h, if_neg (by decide), if_neg (by decide), if_pos rfl]
theorem x1_minf {mode : Int} (h : knownB mode = true) : x1V 18442240474082181120 mode = 13830554455654793216 ∧ xpC 18442240474082181120 mode = false ∧ xpE mode = 0 := by
  refine ⟨?_, (xp_minf h).2⟩
  unfold x1V; rw [if_pos h, if_neg (by decide), if_neg (by decide), if_neg (by decide), if_pos rfl]
theorem x1_fin {x mode : Int} (h : knownB mode = true) (hf : Fin0 x) : x1V x mode = rnV (cutX (rv (valD x))) mode ∧ xpC x mode = true ∧ xpE mode = 0 := by
  obtain ⟨a, b, c⟩ := fin0_cls hf
  refine ⟨?_, (xp_fin h hf).2⟩
  unfold x1V
  rw [if_pos h, if_neg a, if_neg b, if_neg (by rintro rfl; exact c (by decide)), if_neg (by rintro rfl; exact c (by decide))]
/-- the size of what lies beside a number -/
theorem bes_k {d : D} {k : Nat} {s : Int} (hm : d.m < 2 ^ k) (hm0 : d.m ≠ 0) (e0 : -20000 ≤ d.e) (e1 : d.e ≤ 20000) (h : s = 1 ∨ s = -1) : (besD d s).m < 2 ^ (k + 65) ∧ -16000000000000 ≤ (besD d s).e ∧ (besD d s).e ≤ 16000000000000 ∧ (besD d s).m ≠ 0 := by
  have hs : besD d s = ⟨d.neg, besM d.neg d.m s, d.e - 64⟩ := by
    unfold besD
    rw [if_neg (by omega), if_neg hm0]
  have h1 : besM d.neg d.m s ≤ d.m * 2 ^ 64 + 1 ∧ d.m * 2 ^ 64 - 1 ≤ besM d.neg d.m s := by unfold besM; split <;> omega
  rw [hs]
  refine ⟨?_, by show -16000000000000 ≤ d.e - 64; omega, by show d.e - 64 ≤ 16000000000000; omega, ?_⟩
  · show besM d.neg d.m s < 2 ^ (k + 65)
    rw [Nat.pow_add]
    generalize 2 ^ k = Y at *
    omega
  · show besM d.neg d.m s ≠ 0
    omega
theorem bes_mone : (besD (opp (norm false 1 0)) 1).m < 2 ^ 70 ∧ -16000000000000 ≤ (besD (opp (norm false 1 0)) 1).e ∧ (besD (opp (norm false 1 0)) 1).e ≤ 16000000000000 ∧ (besD (opp (norm false 1 0)) 1).m ≠ 0 := by
  decide +kernel

set_option maxRecDepth 100000 in
set_option maxHeartbeats 16000000 in
theorem xexpm1_any (x mode : Int) (w : World) (hT : Tab w) (u0 : 0 ≤ x) (u1 : x ≤ 18446744073709551615) (p0 : -9223372036854775808 ≤ mode) (p1 : mode ≤ 9223372036854775807) :
    Calls Tryd.prog 22 #[.int .u64 x, .int .i64 mode] w fun r w' => r = .returned (.tuple #[.int .u64 (x1V x mode), .bool (xpC x mode), .int .i64 (xpE mode)]) ∧ Below w.heap.size w w' := by
  have HT := Lib.hid hT
  have KN := Lib.hid (fun w' => known_any mode w')
  have CL := Lib.hid (fun w' => class_any x u0 u1 w')
  by_cases hk : knownB mode = true
  case neg =>
    have hk' : knownB mode = false := by simpa using hk
    rw [(x1_bad (x := x) hk').1, (x1_bad (x := x) hk').2.1, (x1_bad (x := x) hk').2.2]
    rw [hk'] at KN
    clear CL hT hk hk'
    go_enter Tryd.func22, Tryd.ntmps22
    go_wp2_with (go_at_call 46; refine (KN.out _).mono ?_; rintro e w' ⟨rfl, rfl⟩)
    go_ret3
    exact ⟨rfl, Below.refl _ _⟩
  have hmode : 0 ≤ mode ∧ mode ≤ 4 := by unfold knownB at hk; exact of_decide_eq_true hk
  rw [hk] at KN
  by_cases h5 : fcls x = 5
  · rw [(x1_nan hk h5).1, (x1_nan hk h5).2.1, (x1_nan hk h5).2.2]
    rw [h5] at CL
    clear hT hk h5
    go_enter Tryd.func22, Tryd.ntmps22
    go_wp2_with (first
      | (go_at_call 46; refine (KN.out _).mono ?_; rintro e w' ⟨rfl, rfl⟩)
      | (go_at_call 16; refine (CL.out _).mono ?_; rintro e w' ⟨rfl, rfl⟩))
    go_ret3
    exact ⟨rfl, Below.refl _ _⟩
  by_cases h1 : fcls x = 1
  · rw [(x1_zero hk h1).1, (x1_zero hk h1).2.1, (x1_zero hk h1).2.2]
    rw [h1] at CL
    clear hT hk h5 h1
    go_enter Tryd.func22, Tryd.ntmps22
    go_wp2_with (first
      | (go_at_call 46; refine (KN.out _).mono ?_; rintro e w' ⟨rfl, rfl⟩)
      | (go_at_call 16; refine (CL.out _).mono ?_; rintro e w' ⟨rfl, rfl⟩))
    go_ret3
    exact ⟨rfl, Below.refl _ _⟩
  by_cases h4 : fcls x = 4
  · rcases inf_two u0 u1 h4 with hx | hx
    · subst hx
      rw [(x1_inf hk).1, (x1_inf hk).2.1, (x1_inf hk).2.2]
      rw [h4] at CL
      clear hT hk h5 h1 h4
      go_enter Tryd.func22, Tryd.ntmps22
      go_wp2_with (first
      | (go_at_call 46; refine (KN.out _).mono ?_; rintro e w' ⟨rfl, rfl⟩)
      | (go_at_call 16; refine (CL.out _).mono ?_; rintro e w' ⟨rfl, rfl⟩))
      go_ret3
      exact ⟨rfl, Below.refl _ _⟩
    · subst hx
      rw [(x1_minf hk).1, (x1_minf hk).2.1, (x1_minf hk).2.2]
      rw [h4] at CL
      clear hT hk h5 h1 h4
      go_enter Tryd.func22, Tryd.ntmps22
      go_wp2_with (first
      | (go_at_call 46; refine (KN.out _).mono ?_; rintro e w' ⟨rfl, rfl⟩)
      | (go_at_call 16; refine (CL.out _).mono ?_; rintro e w' ⟨rfl, rfl⟩))
      go_ret3
      exact ⟨rfl, Below.refl _ _⟩
  have F0 : Fin0 x := fin0_of u0 u1 h5 h1 h4
  obtain ⟨g, m, x2, hD⟩ : ∃ g m x2, valD x = ⟨g, m, x2⟩ := ⟨_, _, _, rfl⟩
  have hm0 := F0.m
  obtain ⟨bd1, bd2, bd3, bd4⟩ := F0.bd
  have VA := Lib.hid (fun w' ht => value_parts x u0 u1 w' ht hD)
  have TP := Lib.hid (fun a n c w' hv => etop_any (.agg #[.bool g, .slice a n c, .int .i64 x2]) ⟨g, m, x2⟩ w' ⟨_, rfl, hv⟩ (by rw [hD] at bd1; exact bd1) (by rw [hD] at bd2; simp only at bd2 ⊢; omega) (by rw [hD] at bd3; simp only at bd3 ⊢; omega))
  have c5 : (fcls x == 5) = false := by rw [beq_eq_false_iff_ne]; exact h5
  have c1' : (fcls x == 1) = false := by rw [beq_eq_false_iff_ne]; exact h1
  have i1 : (x == 9218868437227405312) = false := by rw [beq_eq_false_iff_ne]; rintro rfl; exact h4 (by decide)
  have i2 : (x == 18442240474082181120) = false := by rw [beq_eq_false_iff_ne]; rintro rfl; exact h4 (by decide)
  rw [(x1_fin hk F0).1, (x1_fin hk F0).2.1, (x1_fin hk F0).2.2]
  have W1 := fun ht => wayM_small u0 u1 F0.2.2.1 hm0 ht mode
  have W2 := fun hg ht => wayM_one hm0 hg ht mode
  have W3 := fun hg ht => wayE_huge hm0 hg ht mode
  have W4 := fun a => (rnV_is (c := cutX (rv (valD x))) (mode := mode) (r := a))
  generalize fcls x = cc at *
  rw [hD] at W1 W2 W3 W4 hm0 bd1 bd2 bd3 bd4 ⊢
  simp only at bd1 bd2 bd3 bd4 W2 W3
  obtain ⟨T, hTp⟩ : ∃ T, T = topD ⟨g, m, x2⟩ := ⟨_, rfl⟩
  rw [← hTp] at TP W1 W2 W3
  have hcase : T < -60 ∨ (-60 ≤ T ∧ ((6 ≤ T ∧ g = true) ∨ (6 ≤ T ∧ g = false ∧ 10 ≤ T) ∨ (6 ≤ T ∧ g = false ∧ T < 10) ∨ T < 6)) := by
    by_cases h : T < -60
    · exact Or.inl h
    · right
      refine ⟨by omega, ?_⟩
      by_cases h2 : 6 ≤ T
      · cases g
        · right
          by_cases h3 : 10 ≤ T
          · exact Or.inl ⟨h2, rfl, h3⟩
          · exact Or.inr (Or.inl ⟨h2, rfl, by omega⟩)
        · exact Or.inl ⟨h2, rfl⟩
      · right; right; right; omega
  rcases hcase with h | ⟨ha, ⟨hb, rfl⟩ | ⟨hb, rfl, hb2⟩ | ⟨hb, rfl, hb2⟩ | hb⟩
  · obtain ⟨q1, q2⟩ := W1 h
    have q3 := W4 _ q1
    have BS := Lib.hid (fun a n c w' hv => beside_any (.agg #[.bool g, .slice a n c, .int .i64 x2]) ⟨g, m, x2⟩ 53 1 w' ⟨_, rfl, hv⟩ bd4 (by decide) (by simp only; omega) (by simp only; omega))
    have bb := bes_k (d := ⟨g, m, x2⟩) (k := 53) (s := 1) bd4 hm0 (by simp only; omega) (by simp only; omega) (Or.inl rfl)
    have NU := Lib.hid (fun v w' hd => xnum_any v (besD ⟨g, m, x2⟩ 1) (53 + 65) mode w' hd bb.1 (by decide) (by omega) (by omega) (fun h0 => absurd h0 bb.2.2.2) hmode.1 hmode.2)
    rw [← q3, q2] at NU
    generalize besD ⟨g, m, x2⟩ 1 = Z at *
    generalize rnV (cutX (rv ⟨g, m, x2⟩)) mode = R at *
    clear hT hk h5 h1 h4 F0 hD W1 W2 W3 W4 hm0 bd1 bd2 bd3 bd4 hTp q1 q2 q3 bb
    go_enter Tryd.func22, Tryd.ntmps22
    go_wp2_with (first
      | (go_at_call 46; refine (KN.out _).mono ?_; rintro e w' ⟨rfl, rfl⟩)
      | (go_at_call 16; refine (CL.out _).mono ?_; rintro e w' ⟨rfl, rfl⟩))
    refine (VA.out _ HT.out).mono ?_
    rintro r w1 ⟨e1, f1, g1, rfl, hv1, hb1⟩
    obtain ⟨V1, hV1⟩ : ∃ V, V = w1.alloc (.cells #[.bool g, .slice e1 f1 g1, .int .i64 x2] 24) := ⟨_, rfl⟩
    have X1 := Lib.hid (show Box V1 w1.heap.size 24 (.bool g) (.slice e1 f1 g1) (.int .i64 x2) from by rw [hV1]; exact Box.new w1 _ _ _ _)
    have N1 := Lib.hid (show NV V1 (.slice e1 f1 g1) m from by rw [hV1]; exact hv1.alloc _)
    have B1 := Lib.hid (show Below w.heap.size w V1 from by rw [hV1]; exact hb1.alloc hb1.size _)
    obtain ⟨b8, hb8⟩ : ∃ b8, b8 = w1.heap.size := ⟨_, rfl⟩
    rw [← hb8] at X1
    have z8 : w.heap.size ≤ b8 := by rw [hb8]; exact hb1.size
    clear hv1 hb1
    go_wp2_with fail
    rw [← hV1, ← hb8]
    clear hV1 hb8
    refine (TP.out e1 f1 g1 _ N1.out).mono ?_
    rintro r w2 ⟨rfl, hb⟩
    have B2 := Lib.hid (bl_thru B1.out (Nat.le_refl _) hb)
    have X2 := Lib.hid (X1.out.below hb)
    have N2 := Lib.hid (N1.out.below hb)
    clear hb B1 X1 N1
    obtain ⟨c0, c1, c2, -, -, -⟩ := X2.out.cells
    go_wp2_with fail
    clear c0 c1 c2
    refine (BS.out e1 f1 g1 _ N2.out).mono ?_
    rintro r w8 ⟨v8, rfl, hu8, hb⟩
    have B8 := Lib.hid (bl_thru B2.out (Nat.le_refl _) hb)
    have V8 := Lib.hid hu8
    clear hb hu8
    go_wp2_with fail
    refine (NU.out _ _ V8.out).mono ?_
    rintro r w9 ⟨rfl, hb⟩
    have B9 := Lib.hid (bl_thru B8.out (Nat.le_refl _) hb)
    clear hb
    go_wp2
    go_ret3
    exact ⟨rfl, B9.out⟩
  · obtain ⟨q1, q2⟩ := W2 rfl hb
    have q3 := W4 _ q1
    have ONE := Lib.hid (fun w' ht => eone_any w' ht)
    have hOm : (norm false 1 0).m = 1 ∧ (norm false 1 0).e = 0 := by decide +kernel
    have OPP := Lib.hid (fun v w' hd => opp_any v (norm false 1 0) 1 w' hd (by rw [hOm.1]; decide) (by decide))
    have BS := Lib.hid (fun v w' hd => beside_any v (opp (norm false 1 0)) 1 1 w' hd (by show (norm false 1 0).m < 2 ^ 1; rw [hOm.1]; decide) (by decide) (by show _ ≤ (norm false 1 0).e; rw [hOm.2]; decide) (by show (norm false 1 0).e ≤ _; rw [hOm.2]; decide))
    have bb := bes_mone
    have NU := Lib.hid (fun v w' hd => xnum_any v (besD (opp (norm false 1 0)) 1) 70 mode w' hd bb.1 (by decide) (by omega) (by omega) (fun h0 => absurd h0 bb.2.2.2) hmode.1 hmode.2)
    rw [← q3, q2] at NU
    generalize besD (opp (norm false 1 0)) 1 = Z at *
    generalize opp (norm false 1 0) = Q at *
    generalize norm false 1 0 = O at *
    generalize rnV (cutX (rv ⟨true, m, x2⟩)) mode = R at *
    clear hT hk h5 h1 h4 F0 hD W1 W2 W3 W4 hm0 bd1 bd2 bd3 bd4 hTp q1 q2 q3 bb hOm
    go_enter Tryd.func22, Tryd.ntmps22
    go_wp2_with (first
      | (go_at_call 46; refine (KN.out _).mono ?_; rintro e w' ⟨rfl, rfl⟩)
      | (go_at_call 16; refine (CL.out _).mono ?_; rintro e w' ⟨rfl, rfl⟩))
    refine (VA.out _ HT.out).mono ?_
    rintro r w1 ⟨e1, f1, g1, rfl, hv1, hb1⟩
    obtain ⟨V1, hV1⟩ : ∃ V, V = w1.alloc (.cells #[.bool true, .slice e1 f1 g1, .int .i64 x2] 24) := ⟨_, rfl⟩
    have X1 := Lib.hid (show Box V1 w1.heap.size 24 (.bool true) (.slice e1 f1 g1) (.int .i64 x2) from by rw [hV1]; exact Box.new w1 _ _ _ _)
    have N1 := Lib.hid (show NV V1 (.slice e1 f1 g1) m from by rw [hV1]; exact hv1.alloc _)
    have B1 := Lib.hid (show Below w.heap.size w V1 from by rw [hV1]; exact hb1.alloc hb1.size _)
    obtain ⟨b8, hb8⟩ : ∃ b8, b8 = w1.heap.size := ⟨_, rfl⟩
    rw [← hb8] at X1
    have z8 : w.heap.size ≤ b8 := by rw [hb8]; exact hb1.size
    clear hv1 hb1
    go_wp2_with fail
    rw [← hV1, ← hb8]
    clear hV1 hb8
    refine (TP.out e1 f1 g1 _ N1.out).mono ?_
    rintro r w2 ⟨rfl, hb⟩
    have B2 := Lib.hid (bl_thru B1.out (Nat.le_refl _) hb)
    have X2 := Lib.hid (X1.out.below hb)
    have N2 := Lib.hid (N1.out.below hb)
    clear hb B1 X1 N1
    obtain ⟨c0, c1, c2, -, -, -⟩ := X2.out.cells
    go_wp2_with fail
    clear c0 c1 c2
    refine (TP.out e1 f1 g1 _ N2.out).mono ?_
    rintro r w3 ⟨rfl, hb⟩
    have B3 := Lib.hid (bl_thru B2.out (Nat.le_refl _) hb)
    have X3 := Lib.hid (X2.out.below hb)
    have N3 := Lib.hid (N2.out.below hb)
    clear hb B2 X2 N2
    obtain ⟨c0, c1, c2, -, -, -⟩ := X3.out.cells
    go_wp2_with fail
    clear c0 c1 c2
    refine (ONE.out _ (HT.out.below B3.out)).mono ?_
    rintro r w5 ⟨v5, rfl, hu5, hb⟩
    have B5 := Lib.hid (bl_thru B3.out (Nat.le_refl _) hb)
    have V5 := Lib.hid hu5
    clear hb hu5
    go_wp2_with fail
    refine (OPP.out _ _ V5.out).mono ?_
    rintro r w6 ⟨v6, rfl, hu6, hb⟩
    have B6 := Lib.hid (bl_thru B5.out (Nat.le_refl _) hb)
    have V6 := Lib.hid hu6
    clear hb hu6
    go_wp2_with fail
    refine (BS.out _ _ V6.out).mono ?_
    rintro r w8 ⟨v8, rfl, hu8, hb⟩
    have B8 := Lib.hid (bl_thru B6.out (Nat.le_refl _) hb)
    have V8 := Lib.hid hu8
    clear hb hu8
    go_wp2_with fail
    refine (NU.out _ _ V8.out).mono ?_
    rintro r w9 ⟨rfl, hb⟩
    have B9 := Lib.hid (bl_thru B8.out (Nat.le_refl _) hb)
    clear hb
    go_wp2
    go_ret3
    exact ⟨rfl, B9.out⟩
  · obtain ⟨⟨-, q2⟩, q1⟩ := W3 rfl hb2
    have q3 := W4 _ q1
    have HG := Lib.hid (fun w' => ehuge_any false w')
    have NU := Lib.hid (fun v w' hd => xnum_any v ⟨false, 1, 2000⟩ 1 mode w' hd (by show 1 < 2 ^ 1; decide) (by decide) (by decide) (by decide) (fun h0 => absurd h0 (by decide)) hmode.1 hmode.2)
    rw [← q3, q2] at NU
    generalize rnV (cutX (rv ⟨false, m, x2⟩)) mode = R at *
    clear hT hk h5 h1 h4 F0 hD W1 W2 W3 W4 hm0 bd1 bd2 bd3 bd4 hTp q1 q2 q3
    go_enter Tryd.func22, Tryd.ntmps22
    go_wp2_with (first
      | (go_at_call 46; refine (KN.out _).mono ?_; rintro e w' ⟨rfl, rfl⟩)
      | (go_at_call 16; refine (CL.out _).mono ?_; rintro e w' ⟨rfl, rfl⟩))
    refine (VA.out _ HT.out).mono ?_
    rintro r w1 ⟨e1, f1, g1, rfl, hv1, hb1⟩
    obtain ⟨V1, hV1⟩ : ∃ V, V = w1.alloc (.cells #[.bool false, .slice e1 f1 g1, .int .i64 x2] 24) := ⟨_, rfl⟩
    have X1 := Lib.hid (show Box V1 w1.heap.size 24 (.bool false) (.slice e1 f1 g1) (.int .i64 x2) from by rw [hV1]; exact Box.new w1 _ _ _ _)
    have N1 := Lib.hid (show NV V1 (.slice e1 f1 g1) m from by rw [hV1]; exact hv1.alloc _)
    have B1 := Lib.hid (show Below w.heap.size w V1 from by rw [hV1]; exact hb1.alloc hb1.size _)
    obtain ⟨b8, hb8⟩ : ∃ b8, b8 = w1.heap.size := ⟨_, rfl⟩
    rw [← hb8] at X1
    have z8 : w.heap.size ≤ b8 := by rw [hb8]; exact hb1.size
    clear hv1 hb1
    go_wp2_with fail
    rw [← hV1, ← hb8]
    clear hV1 hb8
    refine (TP.out e1 f1 g1 _ N1.out).mono ?_
    rintro r w2 ⟨rfl, hb⟩
    have B2 := Lib.hid (bl_thru B1.out (Nat.le_refl _) hb)
    have X2 := Lib.hid (X1.out.below hb)
    have N2 := Lib.hid (N1.out.below hb)
    clear hb B1 X1 N1
    obtain ⟨c0, c1, c2, -, -, -⟩ := X2.out.cells
    go_wp2_with fail
    clear c0 c1 c2
    refine (TP.out e1 f1 g1 _ N2.out).mono ?_
    rintro r w3 ⟨rfl, hb⟩
    have B3 := Lib.hid (bl_thru B2.out (Nat.le_refl _) hb)
    have X3 := Lib.hid (X2.out.below hb)
    have N3 := Lib.hid (N2.out.below hb)
    clear hb B2 X2 N2
    obtain ⟨c0, c1, c2, -, -, -⟩ := X3.out.cells
    go_wp2_with fail
    clear c0 c1 c2
    refine (TP.out e1 f1 g1 _ N3.out).mono ?_
    rintro r w4 ⟨rfl, hb⟩
    have B4 := Lib.hid (bl_thru B3.out (Nat.le_refl _) hb)
    have X4 := Lib.hid (X3.out.below hb)
    have N4 := Lib.hid (N3.out.below hb)
    clear hb B3 X3 N3
    obtain ⟨c0, c1, c2, -, -, -⟩ := X4.out.cells
    go_wp2_with fail
    clear c0 c1 c2
    refine (HG.out _).mono ?_
    rintro r w8 ⟨v8, rfl, hu8, hb⟩
    have B8 := Lib.hid (bl_thru B4.out (Nat.le_refl _) hb)
    have V8 := Lib.hid hu8
    clear hb hu8
    go_wp2_with fail
    refine (NU.out _ _ V8.out).mono ?_
    rintro r w9 ⟨rfl, hb⟩
    have B9 := Lib.hid (bl_thru B8.out (Nat.le_refl _) hb)
    clear hb
    go_wp2
    go_ret3
    exact ⟨rfl, B9.out⟩
  · obtain ⟨s, hs, hs1⟩ := s_ex ⟨false, m, x2⟩ (by rw [← hTp]; exact hb2)
    have hx := abs_2048 hm0 (by rw [← hTp]; exact hb2)
    have NR := Lib.hid (fun b w' ht hd => nearM_any (cutX (rv ⟨false, m, x2⟩)) b ⟨false, m, x2⟩ mode w' ht hd hmode.1 hmode.2 (fun p w'' q0 q1 ht' hd' => cloM_any b ⟨false, m, x2⟩ s p w'' ht' hd' hm0 bd1 (by simp only; omega) (by simp only; omega) hx hs hs1 q0 q1))
    have W5 := Lib.hid W4
    generalize rnV (cutX (rv ⟨false, m, x2⟩)) mode = R at *
    clear hT hk h5 h1 h4 F0 hD W1 W2 W3 W4 hm0 bd1 bd2 bd3 bd4 hTp hs hs1 hx
    go_enter Tryd.func22, Tryd.ntmps22
    go_wp2_with (first
      | (go_at_call 46; refine (KN.out _).mono ?_; rintro e w' ⟨rfl, rfl⟩)
      | (go_at_call 16; refine (CL.out _).mono ?_; rintro e w' ⟨rfl, rfl⟩))
    refine (VA.out _ HT.out).mono ?_
    rintro r w1 ⟨e1, f1, g1, rfl, hv1, hb1⟩
    obtain ⟨V1, hV1⟩ : ∃ V, V = w1.alloc (.cells #[.bool false, .slice e1 f1 g1, .int .i64 x2] 24) := ⟨_, rfl⟩
    have X1 := Lib.hid (show Box V1 w1.heap.size 24 (.bool false) (.slice e1 f1 g1) (.int .i64 x2) from by rw [hV1]; exact Box.new w1 _ _ _ _)
    have N1 := Lib.hid (show NV V1 (.slice e1 f1 g1) m from by rw [hV1]; exact hv1.alloc _)
    have B1 := Lib.hid (show Below w.heap.size w V1 from by rw [hV1]; exact hb1.alloc hb1.size _)
    obtain ⟨b8, hb8⟩ : ∃ b8, b8 = w1.heap.size := ⟨_, rfl⟩
    rw [← hb8] at X1
    have z8 : w.heap.size ≤ b8 := by rw [hb8]; exact hb1.size
    clear hv1 hb1
    go_wp2_with fail
    rw [← hV1, ← hb8]
    clear hV1 hb8
    refine (TP.out e1 f1 g1 _ N1.out).mono ?_
    rintro r w2 ⟨rfl, hb⟩
    have B2 := Lib.hid (bl_thru B1.out (Nat.le_refl _) hb)
    have X2 := Lib.hid (X1.out.below hb)
    have N2 := Lib.hid (N1.out.below hb)
    clear hb B1 X1 N1
    obtain ⟨c0, c1, c2, -, -, -⟩ := X2.out.cells
    go_wp2_with fail
    clear c0 c1 c2
    refine (TP.out e1 f1 g1 _ N2.out).mono ?_
    rintro r w3 ⟨rfl, hb⟩
    have B3 := Lib.hid (bl_thru B2.out (Nat.le_refl _) hb)
    have X3 := Lib.hid (X2.out.below hb)
    have N3 := Lib.hid (N2.out.below hb)
    clear hb B2 X2 N2
    obtain ⟨c0, c1, c2, -, -, -⟩ := X3.out.cells
    go_wp2_with fail
    clear c0 c1 c2
    refine (TP.out e1 f1 g1 _ N3.out).mono ?_
    rintro r w4 ⟨rfl, hb⟩
    have B4 := Lib.hid (bl_thru B3.out (Nat.le_refl _) hb)
    have X4 := Lib.hid (X3.out.below hb)
    have N4 := Lib.hid (N3.out.below hb)
    clear hb B3 X3 N3
    obtain ⟨c0, c1, c2, -, -, -⟩ := X4.out.cells
    go_wp2_with fail
    clear c0 c1 c2
    refine (NR.out _ _ (HT.out.below B4.out) ⟨e1, f1, g1, X4.out, N4.out⟩).mono ?_
    rintro r w8 ⟨a, ha, rfl, hb⟩
    have B8 := Lib.hid (bl_thru B4.out (Nat.le_refl _) hb)
    have q := W5.out a ha
    subst q
    clear hb ha
    go_wp2
    go_ret3
    exact ⟨rfl, B8.out⟩
  · obtain ⟨s, hs, hs1⟩ := s_ex ⟨g, m, x2⟩ (by rw [← hTp]; exact (by omega))
    have hx := abs_2048 hm0 (by rw [← hTp]; exact (by omega))
    have NR := Lib.hid (fun b w' ht hd => nearM_any (cutX (rv ⟨g, m, x2⟩)) b ⟨g, m, x2⟩ mode w' ht hd hmode.1 hmode.2 (fun p w'' q0 q1 ht' hd' => cloM_any b ⟨g, m, x2⟩ s p w'' ht' hd' hm0 bd1 (by simp only; omega) (by simp only; omega) hx hs hs1 q0 q1))
    have W5 := Lib.hid W4
    generalize rnV (cutX (rv ⟨g, m, x2⟩)) mode = R at *
    clear hT hk h5 h1 h4 F0 hD W1 W2 W3 W4 hm0 bd1 bd2 bd3 bd4 hTp hs hs1 hx
    go_enter Tryd.func22, Tryd.ntmps22
    go_wp2_with (first
      | (go_at_call 46; refine (KN.out _).mono ?_; rintro e w' ⟨rfl, rfl⟩)
      | (go_at_call 16; refine (CL.out _).mono ?_; rintro e w' ⟨rfl, rfl⟩))
    refine (VA.out _ HT.out).mono ?_
    rintro r w1 ⟨e1, f1, g1, rfl, hv1, hb1⟩
    obtain ⟨V1, hV1⟩ : ∃ V, V = w1.alloc (.cells #[.bool g, .slice e1 f1 g1, .int .i64 x2] 24) := ⟨_, rfl⟩
    have X1 := Lib.hid (show Box V1 w1.heap.size 24 (.bool g) (.slice e1 f1 g1) (.int .i64 x2) from by rw [hV1]; exact Box.new w1 _ _ _ _)
    have N1 := Lib.hid (show NV V1 (.slice e1 f1 g1) m from by rw [hV1]; exact hv1.alloc _)
    have B1 := Lib.hid (show Below w.heap.size w V1 from by rw [hV1]; exact hb1.alloc hb1.size _)
    obtain ⟨b8, hb8⟩ : ∃ b8, b8 = w1.heap.size := ⟨_, rfl⟩
    rw [← hb8] at X1
    have z8 : w.heap.size ≤ b8 := by rw [hb8]; exact hb1.size
    clear hv1 hb1
    go_wp2_with fail
    rw [← hV1, ← hb8]
    clear hV1 hb8
    refine (TP.out e1 f1 g1 _ N1.out).mono ?_
    rintro r w2 ⟨rfl, hb⟩
    have B2 := Lib.hid (bl_thru B1.out (Nat.le_refl _) hb)
    have X2 := Lib.hid (X1.out.below hb)
    have N2 := Lib.hid (N1.out.below hb)
    clear hb B1 X1 N1
    obtain ⟨c0, c1, c2, -, -, -⟩ := X2.out.cells
    go_wp2_with fail
    clear c0 c1 c2
    refine (TP.out e1 f1 g1 _ N2.out).mono ?_
    rintro r w3 ⟨rfl, hb⟩
    have B3 := Lib.hid (bl_thru B2.out (Nat.le_refl _) hb)
    have X3 := Lib.hid (X2.out.below hb)
    have N3 := Lib.hid (N2.out.below hb)
    clear hb B2 X2 N2
    obtain ⟨c0, c1, c2, -, -, -⟩ := X3.out.cells
    go_wp2_with fail
    clear c0 c1 c2
    refine (TP.out e1 f1 g1 _ N3.out).mono ?_
    rintro r w4 ⟨rfl, hb⟩
    have B4 := Lib.hid (bl_thru B3.out (Nat.le_refl _) hb)
    have X4 := Lib.hid (X3.out.below hb)
    have N4 := Lib.hid (N3.out.below hb)
    clear hb B3 X3 N3
    obtain ⟨c0, c1, c2, -, -, -⟩ := X4.out.cells
    go_wp2_with fail
    clear c0 c1 c2
    refine (NR.out _ _ (HT.out.below B4.out) ⟨e1, f1, g1, X4.out, N4.out⟩).mono ?_
    rintro r w8 ⟨a, ha, rfl, hb⟩
    have B8 := Lib.hid (bl_thru B4.out (Nat.le_refl _) hb)
    have q := W5.out a ha
    subst q
    clear hb ha
    go_wp2
    go_ret3
    exact ⟨rfl, B8.out⟩
end Go.Proofs.YtmpdbmaokbhcjaaDoor

/-
  THE WALKS of expo.logarithm, Log, Log1p.
-/
namespace Go.Proofs.YtmpdbmaokbhcjaaDoor
open Go.RowKit Nt Fm Fl

set_option maxHeartbeats 4000000 in
theorem elog_any (v : Value) (d : D) (mode : Int) (w : World) (hT : Tab w) (hd : DV w v d) (h0 : 0 < rv d) (hm : d.m < 2 ^ 1280) (he : -3000 ≤ d.e) (he1 : d.e ≤ 3000) (h1 : rv d ≠ 1) (m0 : 0 ≤ mode) (m1 : mode ≤ 4) :
    Calls Tryd.prog 58 #[v, .int .i64 mode] w fun r w' => r = .returned (.tuple #[.int .u64 (rnV (cutL (rv d)) mode), .bool true, .int .i64 0]) ∧ Below w.heap.size w w' := by
  obtain ⟨a1, n1, c1, rfl, hv⟩ := hd.parts
  have NR := Lib.hid (fun b w' ht hd => nearL_any (cutL (rv d)) b d mode w' ht hd m0 m1 (fun p w'' q0 q1 ht' hd' => cloL_any b d p w'' ht' hd' h0 hm he he1 h1 q0 q1))
  have W4 := Lib.hid (fun a => (rnV_is (c := cutL (rv d)) (mode := mode) (r := a)))
  generalize rnV (cutL (rv d)) mode = R at *
  have G0 := Lib.hid (GD.new (d := d) hv)
  have B0 := Lib.hid ((Below.refl w.heap.size w).alloc (Nat.le_refl _) (.cells #[.bool d.neg, .slice a1 n1 c1, .int .i64 d.e] 24))
  have HT := Lib.hid hT
  clear hT hv h0 hm he he1 h1
  go_enter Tryd.func58, Tryd.ntmps58
  go_wp2_with fail
  refine (NR.out _ _ (HT.out.below B0.out) G0.out).mono ?_
  rintro r w1 ⟨a, ha, rfl, hb⟩
  have B1 := Lib.hid (bl_thru B0.out (Nat.le_refl _) hb)
  have q := W4.out a ha
  subst q
  clear hb ha
  go_wp2
  go_ret3
  exact ⟨rfl, B1.out⟩
noncomputable def lgV (x mode : Int) : Int :=
  if knownB mode then (if fcls x = 1 then 18442240474082181120 else if fcls x = 5 ∨ 9223372036854775808 ≤ x then 9221120237041090560 else if x = 9218868437227405312 then x else if x = 4607182418800017408 then 0 else rnV (cutL (rv (valD x))) mode) else 0
def lgC (x mode : Int) : Bool := knownB mode && (finB x && decide (x < 9223372036854775808 ∧ x ≠ 4607182418800017408))
noncomputable def lpV (x mode : Int) : Int :=
  if knownB mode then (if fcls x = 5 ∨ 13830554455654793216 < x then 9221120237041090560 else if x = 13830554455654793216 then 18442240474082181120 else if fcls x = 1 ∨ x = 9218868437227405312 then x else rnV (cutL (1 + rv (valD x))) mode) else 0
def lpC (x mode : Int) : Bool := knownB mode && (finB x && decide (x < 13830554455654793216))
theorem lg_bad {x mode : Int} (h : knownB mode = false) : lgV x mode = 0 ∧ lgC x mode = false ∧ xpE mode = 1 := by
  refine ⟨?_, ?_, xpE_f h⟩
  · unfold lgV; rw [h]; rfl
  · unfold lgC; rw [h]; rfl
theorem lg_zero {x mode : Int} (h : knownB mode = true) (h1 : fcls x = 1) : lgV x mode = 18442240474082181120 ∧ lgC x mode = false ∧ xpE mode = 0 := by
  refine ⟨?_, ?_, xpE_t h⟩
  · unfold lgV; rw [if_pos h, if_pos h1]
  · unfold lgC; rw [h, finB_f (Or.inr (Or.inl h1))]; rfl
theorem lg_nan {x mode : Int} (h : knownB mode = true) (h1 : fcls x ≠ 1) (h5 : fcls x = 5 ∨ 9223372036854775808 ≤ x) : lgV x mode = 9221120237041090560 ∧ lgC x mode = false ∧ xpE mode = 0 := by
  refine ⟨?_, ?_, xpE_t h⟩
  · unfold lgV; rw [if_pos h, if_neg h1, if_pos h5]
  · unfold lgC
    rcases h5 with h5 | h5
    · rw [h, finB_f (Or.inl h5)]; rfl
    · rw [decide_eq_false (show ¬ (x < 9223372036854775808 ∧ x ≠ 4607182418800017408) by omega)]; simp
theorem lg_inf {mode : Int} (h : knownB mode = true) : lgV 9218868437227405312 mode = 9218868437227405312 ∧ lgC 9218868437227405312 mode = false ∧ xpE mode = 0 := by
  refine ⟨?_, ?_, xpE_t h⟩
  · unfold lgV; rw [if_pos h, if_neg (by decide), if_neg (by decide), if_pos rfl]
  · unfold lgC; rw [h, finB_f (Or.inr (Or.inr (by decide)))]; rfl
theorem lgx_one {mode : Int} (h : knownB mode = true) : lgV 4607182418800017408 mode = 0 ∧ lgC 4607182418800017408 mode = false ∧ xpE mode = 0 := by
  refine ⟨?_, ?_, xpE_t h⟩
  · unfold lgV; rw [if_pos h, if_neg (by decide), if_neg (by decide), if_neg (by decide), if_pos rfl]
  · unfold lgC; rw [h]; decide
theorem lg_fin {x mode : Int} (h : knownB mode = true) (hf : Fin0 x) (h0 : x < 9223372036854775808) (h1 : x ≠ 4607182418800017408) : lgV x mode = rnV (cutL (rv (valD x))) mode ∧ lgC x mode = true ∧ xpE mode = 0 := by
  obtain ⟨a, b, c⟩ := fin0_cls hf
  refine ⟨?_, ?_, xpE_t h⟩
  · unfold lgV
    rw [if_pos h, if_neg b, if_neg (by omega), if_neg (by rintro rfl; exact c (by decide)), if_neg h1]
  · unfold lgC; rw [h, finB_t hf, decide_eq_true (show x < 9223372036854775808 ∧ x ≠ 4607182418800017408 from ⟨h0, h1⟩)]; rfl
theorem lp_bad {x mode : Int} (h : knownB mode = false) : lpV x mode = 0 ∧ lpC x mode = false ∧ xpE mode = 1 := by
  refine ⟨?_, ?_, xpE_f h⟩
  · unfold lpV; rw [h]; rfl
  · unfold lpC; rw [h]; rfl
theorem lp_nan {x mode : Int} (h : knownB mode = true) (h5 : fcls x = 5 ∨ 13830554455654793216 < x) : lpV x mode = 9221120237041090560 ∧ lpC x mode = false ∧ xpE mode = 0 := by
  refine ⟨?_, ?_, xpE_t h⟩
  · unfold lpV; rw [if_pos h, if_pos h5]
  · unfold lpC
    rcases h5 with h5 | h5
    · rw [h, finB_f (Or.inl h5)]; rfl
    · rw [decide_eq_false (show ¬ (x < 13830554455654793216) by omega)]; simp
theorem lp_mone {mode : Int} (h : knownB mode = true) : lpV 13830554455654793216 mode = 18442240474082181120 ∧ lpC 13830554455654793216 mode = false ∧ xpE mode = 0 := by
  refine ⟨?_, ?_, xpE_t h⟩
  · unfold lpV; rw [if_pos h, if_neg (by decide), if_pos rfl]
  · unfold lpC; rw [h]; decide
theorem lp_self {x mode : Int} (h : knownB mode = true) (h0 : x < 13830554455654793216) (h1 : fcls x = 1 ∨ x = 9218868437227405312) : lpV x mode = x ∧ lpC x mode = false ∧ xpE mode = 0 := by
  have h5 : fcls x ≠ 5 := by
    rcases h1 with h1 | rfl
    · omega
    · decide
  refine ⟨?_, ?_, xpE_t h⟩
  · unfold lpV; rw [if_pos h, if_neg (by omega), if_neg (by omega), if_pos h1]
  · unfold lpC
    rcases h1 with h1 | rfl
    · rw [h, finB_f (Or.inr (Or.inl h1))]; rfl
    · rw [h]; decide
theorem lp_fin {x mode : Int} (h : knownB mode = true) (hf : Fin0 x) (h0 : x < 13830554455654793216) : lpV x mode = rnV (cutL (1 + rv (valD x))) mode ∧ lpC x mode = true ∧ xpE mode = 0 := by
  obtain ⟨a, b, c⟩ := fin0_cls hf
  refine ⟨?_, ?_, xpE_t h⟩
  · unfold lpV
    rw [if_pos h, if_neg (by omega), if_neg (by omega), if_neg]
    rintro (h1 | rfl)
    · exact b h1
    · exact c (by decide)
  · unfold lpC; rw [h, finB_t hf, decide_eq_true h0]; rfl
/-- above 0; above -1 -/
theorem pos_of {x : Int} (hf : Fin0 x) (h0 : x < 9223372036854775808) : 0 < rv (valD x) := by
  refine rv_of_pos ?_ hf.m
  rw [hf.neg]
  unfold fng
  exact decide_eq_false (by omega)
theorem one_of_val {x : Int} (hf : Fin0 x) (h : rv (valD x) = 1) (h0 : x < 9223372036854775808) : x = 4607182418800017408 := by
  have e1 : rv (valD 4607182418800017408) = 1 := by rw [val_one, rv_oneD]
  have f1 : fabs 4607182418800017408 < 9218868437227405312 := by decide
  have a := (val_rank hf.1 hf.2.1 (by decide) (by decide) hf.2.2.1 f1).1 (by rw [h, e1]; exact Rat.le_refl)
  have b := (val_rank (by decide) (by decide) hf.1 hf.2.1 f1 hf.2.2.1).1 (by rw [h, e1]; exact Rat.le_refl)
  have e : frank 4607182418800017408 = 4607182418800017408 := by decide
  have hx := hf.2.2.1
  have x0 := hf.1
  unfold frank at a b
  unfold fabs at a b hx
  rw [if_neg (by omega), if_neg (by omega)] at a
  rw [if_neg (by omega), if_neg (by omega)] at b
  simp only [Int.reduceMod, Int.reduceLT, Int.reduceLE, if_false] at a b
  omega
theorem above_mone {x : Int} (hf : Fin0 x) (h0 : x < 13830554455654793216) : -1 < rv (valD x) := by
  refine Rat.not_le.1 fun h => ?_
  have e1 : rv (valD 13830554455654793216) = -1 := by rw [val_mone, rv_mone]
  have f1 : fabs 13830554455654793216 < 9218868437227405312 := by decide
  have a := (val_rank hf.1 hf.2.1 (by decide) (by decide) hf.2.2.1 f1).1 (by rw [e1]; exact h)
  have hx := hf.2.2.1
  have x0 := hf.1
  have e2 : frank 13830554455654793216 = -4607182418800017408 := by decide
  rw [e2] at a
  unfold frank at a
  unfold fabs at a hx
  rw [if_neg (by omega)] at a
  split at a <;> omega

set_option maxRecDepth 100000 in
set_option maxHeartbeats 16000000 in
theorem xlog_any (x mode : Int) (w : World) (hT : Tab w) (u0 : 0 ≤ x) (u1 : x ≤ 18446744073709551615) (p0 : -9223372036854775808 ≤ mode) (p1 : mode ≤ 9223372036854775807) :
    Calls Tryd.prog 21 #[.int .u64 x, .int .i64 mode] w fun r w' => r = .returned (.tuple #[.int .u64 (lgV x mode), .bool (lgC x mode), .int .i64 (xpE mode)]) ∧ Below w.heap.size w w' := by
  have HT := Lib.hid hT
  have KN := Lib.hid (fun w' => known_any mode w')
  have CL := Lib.hid (fun w' => class_any x u0 u1 w')
  by_cases hk : knownB mode = true
  case neg =>
    have hk' : knownB mode = false := by simpa using hk
    rw [(lg_bad (x := x) hk').1, (lg_bad (x := x) hk').2.1, (lg_bad (x := x) hk').2.2]
    rw [hk'] at KN
    clear CL hT hk hk'
    go_enter Tryd.func21, Tryd.ntmps21
    go_wp2_with (go_at_call 46; refine (KN.out _).mono ?_; rintro e w' ⟨rfl, rfl⟩)
    go_ret3
    exact ⟨rfl, Below.refl _ _⟩
  have hmode : 0 ≤ mode ∧ mode ≤ 4 := by unfold knownB at hk; exact of_decide_eq_true hk
  rw [hk] at KN
  by_cases h1 : fcls x = 1
  · rw [(lg_zero hk h1).1, (lg_zero hk h1).2.1, (lg_zero hk h1).2.2]
    rw [h1] at CL
    clear hT hk h1
    go_enter Tryd.func21, Tryd.ntmps21
    go_wp2_with (first
      | (go_at_call 46; refine (KN.out _).mono ?_; rintro e w' ⟨rfl, rfl⟩)
      | (go_at_call 16; refine (CL.out _).mono ?_; rintro e w' ⟨rfl, rfl⟩))
    go_ret3
    exact ⟨rfl, Below.refl _ _⟩
  have c1 : (fcls x == 1) = false := by rw [beq_eq_false_iff_ne]; exact h1
  by_cases h5 : fcls x = 5
  · rw [(lg_nan hk h1 (Or.inl h5)).1, (lg_nan hk h1 (Or.inl h5)).2.1, (lg_nan hk h1 (Or.inl h5)).2.2]
    rw [h5] at CL
    clear c1
    clear hT hk h1 h5
    go_enter Tryd.func21, Tryd.ntmps21
    go_wp2_with (first
      | (go_at_call 46; refine (KN.out _).mono ?_; rintro e w' ⟨rfl, rfl⟩)
      | (go_at_call 16; refine (CL.out _).mono ?_; rintro e w' ⟨rfl, rfl⟩))
    go_ret3
    exact ⟨rfl, Below.refl _ _⟩
  have c5 : (fcls x == 5) = false := by rw [beq_eq_false_iff_ne]; exact h5
  by_cases hs : 9223372036854775808 ≤ x
  · rw [(lg_nan hk h1 (Or.inr hs)).1, (lg_nan hk h1 (Or.inr hs)).2.1, (lg_nan hk h1 (Or.inr hs)).2.2]
    have hh : (x / 9223372036854775808 == 1) = true := by rw [beq_iff_eq]; omega
    generalize fcls x = cc at *
    clear hT hk h1 h5
    go_enter Tryd.func21, Tryd.ntmps21
    go_wp2_with (first
      | (go_at_call 46; refine (KN.out _).mono ?_; rintro e w' ⟨rfl, rfl⟩)
      | (go_at_call 16; refine (CL.out _).mono ?_; rintro e w' ⟨rfl, rfl⟩))
    go_ret3
    exact ⟨rfl, Below.refl _ _⟩
  have hh : (x / 9223372036854775808 == 1) = false := by rw [beq_eq_false_iff_ne]; omega
  by_cases h4 : fcls x = 4
  · have hx : x = 9218868437227405312 := by rcases inf_two u0 u1 h4 with hx | hx <;> omega
    subst hx
    rw [(lg_inf hk).1, (lg_inf hk).2.1, (lg_inf hk).2.2]
    generalize fcls 9218868437227405312 = cc at *
    clear hT hk h1 h5 h4
    go_enter Tryd.func21, Tryd.ntmps21
    go_wp2_with (first
      | (go_at_call 46; refine (KN.out _).mono ?_; rintro e w' ⟨rfl, rfl⟩)
      | (go_at_call 16; refine (CL.out _).mono ?_; rintro e w' ⟨rfl, rfl⟩))
    go_ret3
    exact ⟨rfl, Below.refl _ _⟩
  by_cases hone : x = 4607182418800017408
  · subst hone
    rw [(lgx_one hk).1, (lgx_one hk).2.1, (lgx_one hk).2.2]
    generalize fcls 4607182418800017408 = cc at *
    clear hT hk h1 h5 h4
    go_enter Tryd.func21, Tryd.ntmps21
    go_wp2_with (first
      | (go_at_call 46; refine (KN.out _).mono ?_; rintro e w' ⟨rfl, rfl⟩)
      | (go_at_call 16; refine (CL.out _).mono ?_; rintro e w' ⟨rfl, rfl⟩))
    go_ret3
    exact ⟨rfl, Below.refl _ _⟩
  have F0 : Fin0 x := fin0_of u0 u1 h5 h1 h4
  have i1 : (x == 9218868437227405312) = false := by rw [beq_eq_false_iff_ne]; rintro rfl; exact h4 (by decide)
  have i2 : (x == 4607182418800017408) = false := by rw [beq_eq_false_iff_ne]; exact hone
  rw [(lg_fin hk F0 (by omega) hone).1, (lg_fin hk F0 (by omega) hone).2.1, (lg_fin hk F0 (by omega) hone).2.2]
  obtain ⟨bd1, bd2, bd3, bd4⟩ := F0.bd
  have VA := Lib.hid (fun w' ht => value_any x u0 u1 w' ht)
  have EL := Lib.hid (fun v w' ht hd => elog_any v (valD x) mode w' ht hd (pos_of F0 (by omega)) bd1 (by omega) (by omega) (fun h => hone (one_of_val F0 h (by omega))) hmode.1 hmode.2)
  generalize fcls x = cc at *
  generalize rnV (cutL (rv (valD x))) mode = R at *
  generalize valD x = D at *
  clear hT hk h1 h5 h4 hone F0 bd1 bd2 bd3 bd4
  go_enter Tryd.func21, Tryd.ntmps21
  go_wp2_with (first
    | (go_at_call 46; refine (KN.out _).mono ?_; rintro e w' ⟨rfl, rfl⟩)
    | (go_at_call 16; refine (CL.out _).mono ?_; rintro e w' ⟨rfl, rfl⟩))
  refine (VA.out _ HT.out).mono ?_
  rintro r w1 ⟨v1, rfl, hu1, hb1⟩
  have V1 := Lib.hid hu1
  have B1 := Lib.hid hb1
  clear hu1 hb1
  go_wp2_with fail
  refine (EL.out _ _ (HT.out.below B1.out) V1.out).mono ?_
  rintro r w2 ⟨rfl, hb2⟩
  have B2 := Lib.hid (bl_thru B1.out (Nat.le_refl _) hb2)
  clear hb2
  go_wp2
  go_ret3
  exact ⟨rfl, B2.out⟩

set_option maxRecDepth 100000 in
set_option maxHeartbeats 16000000 in
theorem xlog1p_any (x mode : Int) (w : World) (hT : Tab w) (u0 : 0 ≤ x) (u1 : x ≤ 18446744073709551615) (p0 : -9223372036854775808 ≤ mode) (p1 : mode ≤ 9223372036854775807) :
    Calls Tryd.prog 23 #[.int .u64 x, .int .i64 mode] w fun r w' => r = .returned (.tuple #[.int .u64 (lpV x mode), .bool (lpC x mode), .int .i64 (xpE mode)]) ∧ Below w.heap.size w w' := by
  have HT := Lib.hid hT
  have KN := Lib.hid (fun w' => known_any mode w')
  have CL := Lib.hid (fun w' => class_any x u0 u1 w')
  by_cases hk : knownB mode = true
  case neg =>
    have hk' : knownB mode = false := by simpa using hk
    rw [(lp_bad (x := x) hk').1, (lp_bad (x := x) hk').2.1, (lp_bad (x := x) hk').2.2]
    rw [hk'] at KN
    clear CL hT hk hk'
    go_enter Tryd.func23, Tryd.ntmps23
    go_wp2_with (go_at_call 46; refine (KN.out _).mono ?_; rintro e w' ⟨rfl, rfl⟩)
    go_ret3
    exact ⟨rfl, Below.refl _ _⟩
  have hmode : 0 ≤ mode ∧ mode ≤ 4 := by unfold knownB at hk; exact of_decide_eq_true hk
  rw [hk] at KN
  by_cases h5 : fcls x = 5
  · rw [(lp_nan hk (Or.inl h5)).1, (lp_nan hk (Or.inl h5)).2.1, (lp_nan hk (Or.inl h5)).2.2]
    rw [h5] at CL
    clear hT hk h5
    go_enter Tryd.func23, Tryd.ntmps23
    go_wp2_with (first
      | (go_at_call 46; refine (KN.out _).mono ?_; rintro e w' ⟨rfl, rfl⟩)
      | (go_at_call 16; refine (CL.out _).mono ?_; rintro e w' ⟨rfl, rfl⟩))
    go_ret3
    exact ⟨rfl, Below.refl _ _⟩
  have c5 : (fcls x == 5) = false := by rw [beq_eq_false_iff_ne]; exact h5
  by_cases hs : 13830554455654793216 < x
  · rw [(lp_nan hk (Or.inr hs)).1, (lp_nan hk (Or.inr hs)).2.1, (lp_nan hk (Or.inr hs)).2.2]
    generalize fcls x = cc at *
    clear hT hk h5
    go_enter Tryd.func23, Tryd.ntmps23
    go_wp2_with (first
      | (go_at_call 46; refine (KN.out _).mono ?_; rintro e w' ⟨rfl, rfl⟩)
      | (go_at_call 16; refine (CL.out _).mono ?_; rintro e w' ⟨rfl, rfl⟩))
    go_ret3
    exact ⟨rfl, Below.refl _ _⟩
  by_cases hone : x = 13830554455654793216
  · subst hone
    rw [(lp_mone hk).1, (lp_mone hk).2.1, (lp_mone hk).2.2]
    generalize fcls 13830554455654793216 = cc at *
    clear hT hk h5
    go_enter Tryd.func23, Tryd.ntmps23
    go_wp2_with (first
      | (go_at_call 46; refine (KN.out _).mono ?_; rintro e w' ⟨rfl, rfl⟩)
      | (go_at_call 16; refine (CL.out _).mono ?_; rintro e w' ⟨rfl, rfl⟩))
    go_ret3
    exact ⟨rfl, Below.refl _ _⟩
  have i2 : (x == 13830554455654793216) = false := by rw [beq_eq_false_iff_ne]; exact hone
  have hlt : x < 13830554455654793216 := by omega
  by_cases h1 : fcls x = 1
  · rw [(lp_self hk hlt (Or.inl h1)).1, (lp_self hk hlt (Or.inl h1)).2.1, (lp_self hk hlt (Or.inl h1)).2.2]
    rw [h1] at CL
    clear c5
    clear hT hk h5 h1
    go_enter Tryd.func23, Tryd.ntmps23
    go_wp2_with (first
      | (go_at_call 46; refine (KN.out _).mono ?_; rintro e w' ⟨rfl, rfl⟩)
      | (go_at_call 16; refine (CL.out _).mono ?_; rintro e w' ⟨rfl, rfl⟩))
    go_ret3
    exact ⟨rfl, Below.refl _ _⟩
  have c1 : (fcls x == 1) = false := by rw [beq_eq_false_iff_ne]; exact h1
  by_cases h4 : fcls x = 4
  · have hx : x = 9218868437227405312 := by rcases inf_two u0 u1 h4 with hx | hx <;> omega
    subst hx
    rw [(lp_self hk hlt (Or.inr rfl)).1, (lp_self hk hlt (Or.inr rfl)).2.1, (lp_self hk hlt (Or.inr rfl)).2.2]
    generalize fcls 9218868437227405312 = cc at *
    clear hT hk h5 h1 h4
    go_enter Tryd.func23, Tryd.ntmps23
    go_wp2_with (first
      | (go_at_call 46; refine (KN.out _).mono ?_; rintro e w' ⟨rfl, rfl⟩)
      | (go_at_call 16; refine (CL.out _).mono ?_; rintro e w' ⟨rfl, rfl⟩))
    go_ret3
    exact ⟨rfl, Below.refl _ _⟩
  have F0 : Fin0 x := fin0_of u0 u1 h5 h1 h4
  obtain ⟨g, m, x2, hD⟩ : ∃ g m x2, valD x = ⟨g, m, x2⟩ := ⟨_, _, _, rfl⟩
  have hm0 := F0.m
  obtain ⟨bd1, bd2, bd3, bd4⟩ := F0.bd
  have VA := Lib.hid (fun w' ht => value_parts x u0 u1 w' ht hD)
  have TP := Lib.hid (fun a n c w' hv => etop_any (.agg #[.bool g, .slice a n c, .int .i64 x2]) ⟨g, m, x2⟩ w' ⟨_, rfl, hv⟩ (by rw [hD] at bd1; exact bd1) (by rw [hD] at bd2; simp only at bd2 ⊢; omega) (by rw [hD] at bd3; simp only at bd3 ⊢; omega))
  have c5 : (fcls x == 5) = false := by rw [beq_eq_false_iff_ne]; exact h5
  have c1' : (fcls x == 1) = false := by rw [beq_eq_false_iff_ne]; exact h1
  have i1 : (x == 9218868437227405312) = false := by rw [beq_eq_false_iff_ne]; rintro rfl; exact h4 (by decide)
  rw [(lp_fin hk F0 hlt).1, (lp_fin hk F0 hlt).2.1, (lp_fin hk F0 hlt).2.2]
  have W1 := fun ht => wayL_small u0 u1 F0.2.2.1 hm0 ht mode
  have W4 := fun a => (rnV_is (c := cutL (1 + rv (valD x))) (mode := mode) (r := a))
  have hgt := above_mone F0 hlt
  have ibd := fun ht => incD_bd F0 ht
  have rvi := rv_incD x
  have hinc : incD x = plus (valD x) (norm false 1 0) := rfl
  generalize fcls x = cc at *
  generalize incD x = I at *
  rw [hD] at W1 W4 hm0 bd1 bd2 bd3 bd4 hgt ibd rvi hinc ⊢
  simp only at bd1 bd2 bd3 bd4
  obtain ⟨T, hTp⟩ : ∃ T, T = topD ⟨g, m, x2⟩ := ⟨_, rfl⟩
  rw [← hTp] at TP W1 ibd
  rcases Int.lt_or_le T (-60) with h | h
  · obtain ⟨q1, q2⟩ := W1 h
    have q3 := W4 _ q1
    have BS := Lib.hid (fun a n c w' hv => beside_any (.agg #[.bool g, .slice a n c, .int .i64 x2]) ⟨g, m, x2⟩ 53 (-1) w' ⟨_, rfl, hv⟩ bd4 (by decide) (by simp only; omega) (by simp only; omega))
    have bb := bes_k (d := ⟨g, m, x2⟩) (k := 53) (s := -1) bd4 hm0 (by simp only; omega) (by simp only; omega) (Or.inr rfl)
    have NU := Lib.hid (fun v w' hd => xnum_any v (besD ⟨g, m, x2⟩ (-1)) (53 + 65) mode w' hd bb.1 (by decide) (by omega) (by omega) (fun h0 => absurd h0 bb.2.2.2) hmode.1 hmode.2)
    rw [← q3, q2] at NU
    generalize besD ⟨g, m, x2⟩ (-1) = Z at *
    generalize rnV (cutL (1 + rv ⟨g, m, x2⟩)) mode = R at *
    clear hT hk h5 h1 h4 F0 hD W1 W4 hm0 bd1 bd2 bd3 bd4 hTp hgt ibd rvi hinc hone q1 q2 q3 bb
    go_enter Tryd.func23, Tryd.ntmps23
    go_wp2_with (first
      | (go_at_call 46; refine (KN.out _).mono ?_; rintro e w' ⟨rfl, rfl⟩)
      | (go_at_call 16; refine (CL.out _).mono ?_; rintro e w' ⟨rfl, rfl⟩))
    refine (VA.out _ HT.out).mono ?_
    rintro r w1 ⟨e1, f1, g1, rfl, hv1, hb1⟩
    obtain ⟨V1, hV1⟩ : ∃ V, V = w1.alloc (.cells #[.bool g, .slice e1 f1 g1, .int .i64 x2] 24) := ⟨_, rfl⟩
    have X1 := Lib.hid (show Box V1 w1.heap.size 24 (.bool g) (.slice e1 f1 g1) (.int .i64 x2) from by rw [hV1]; exact Box.new w1 _ _ _ _)
    have N1 := Lib.hid (show NV V1 (.slice e1 f1 g1) m from by rw [hV1]; exact hv1.alloc _)
    have B1 := Lib.hid (show Below w.heap.size w V1 from by rw [hV1]; exact hb1.alloc hb1.size _)
    obtain ⟨b8, hb8⟩ : ∃ b8, b8 = w1.heap.size := ⟨_, rfl⟩
    rw [← hb8] at X1
    have z8 : w.heap.size ≤ b8 := by rw [hb8]; exact hb1.size
    clear hv1 hb1
    go_wp2_with fail
    rw [← hV1, ← hb8]
    clear hV1 hb8
    refine (TP.out e1 f1 g1 _ N1.out).mono ?_
    rintro r w2 ⟨rfl, hb⟩
    have B2 := Lib.hid (bl_thru B1.out (Nat.le_refl _) hb)
    have X2 := Lib.hid (X1.out.below hb)
    have N2 := Lib.hid (N1.out.below hb)
    clear hb B1 X1 N1
    obtain ⟨c0, c1, c2, -, -, -⟩ := X2.out.cells
    go_wp2_with fail
    clear c0 c1 c2
    refine (BS.out e1 f1 g1 _ N2.out).mono ?_
    rintro r w8 ⟨v8, rfl, hu8, hb⟩
    have B8 := Lib.hid (bl_thru B2.out (Nat.le_refl _) hb)
    have V8 := Lib.hid hu8
    clear hb hu8
    go_wp2_with fail
    refine (NU.out _ _ V8.out).mono ?_
    rintro r w9 ⟨rfl, hb⟩
    have B9 := Lib.hid (bl_thru B8.out (Nat.le_refl _) hb)
    clear hb
    go_wp2
    go_ret3
    exact ⟨rfl, B9.out⟩
  · obtain ⟨i6, i7, i8, -⟩ := ibd h
    have hab : rv ⟨g, m, x2⟩ ≠ 0 := fun e0 => by
      have a := abs_rv ⟨g, m, x2⟩
      have b := (top_bd hm0).1
      have c := Ea.tw_pos (topD ⟨g, m, x2⟩)
      have a0 : (0 : Rat).abs = 0 := Rat.abs_of_nonneg (by decide)
      rw [e0, a0] at a
      grind
    have ONE := Lib.hid (fun w' ht => eone_any w' ht)
    have hOm : (norm false 1 0).m = 1 ∧ (norm false 1 0).e = 0 := by decide +kernel
    have PL := Lib.hid (fun v a n c w' ht hv hd => dplus_any (.agg #[.bool g, .slice a n c, .int .i64 x2]) v ⟨g, m, x2⟩ (norm false 1 0) 1280 w' ht ⟨_, rfl, hv⟩ hd bd1 (by rw [hOm.1]; exact lt_pow (n := 1) (a := 1) (b := 1280) (by decide) (by omega)) (by omega) (by simp only; omega) (by simp only; omega) (by rw [hOm.2]; omega) (by rw [hOm.2]; omega))
    rw [← hinc] at PL
    have EL := Lib.hid (fun v w' ht hd => elog_any v I mode w' ht hd (by rw [rvi]; grind) i6 i7 i8 (by rw [rvi]; grind) hmode.1 hmode.2)
    rw [← rvi]
    generalize norm false 1 0 = O at *
    generalize rnV (cutL (rv I)) mode = R at *
    clear i6 i7 i8 hab hOm
    clear hT hk h5 h1 h4 F0 hD W1 W4 hm0 bd1 bd2 bd3 bd4 hTp hgt ibd rvi hinc hone
    go_enter Tryd.func23, Tryd.ntmps23
    go_wp2_with (first
      | (go_at_call 46; refine (KN.out _).mono ?_; rintro e w' ⟨rfl, rfl⟩)
      | (go_at_call 16; refine (CL.out _).mono ?_; rintro e w' ⟨rfl, rfl⟩))
    refine (VA.out _ HT.out).mono ?_
    rintro r w1 ⟨e1, f1, g1, rfl, hv1, hb1⟩
    obtain ⟨V1, hV1⟩ : ∃ V, V = w1.alloc (.cells #[.bool g, .slice e1 f1 g1, .int .i64 x2] 24) := ⟨_, rfl⟩
    have X1 := Lib.hid (show Box V1 w1.heap.size 24 (.bool g) (.slice e1 f1 g1) (.int .i64 x2) from by rw [hV1]; exact Box.new w1 _ _ _ _)
    have N1 := Lib.hid (show NV V1 (.slice e1 f1 g1) m from by rw [hV1]; exact hv1.alloc _)
    have B1 := Lib.hid (show Below w.heap.size w V1 from by rw [hV1]; exact hb1.alloc hb1.size _)
    obtain ⟨b8, hb8⟩ : ∃ b8, b8 = w1.heap.size := ⟨_, rfl⟩
    rw [← hb8] at X1
    have z8 : w.heap.size ≤ b8 := by rw [hb8]; exact hb1.size
    clear hv1 hb1
    go_wp2_with fail
    rw [← hV1, ← hb8]
    clear hV1 hb8
    refine (TP.out e1 f1 g1 _ N1.out).mono ?_
    rintro r w2 ⟨rfl, hb⟩
    have B2 := Lib.hid (bl_thru B1.out (Nat.le_refl _) hb)
    have X2 := Lib.hid (X1.out.below hb)
    have N2 := Lib.hid (N1.out.below hb)
    clear hb B1 X1 N1
    obtain ⟨c0, c1, c2, -, -, -⟩ := X2.out.cells
    go_wp2_with fail
    clear c0 c1 c2
    obtain ⟨j0, j1, j2, -, -, -⟩ := X2.out.drew.cells
    go_region_held3 (fun w' => w'.cell? ⟨b8, 0, none⟩ = some (.bool g) ∧ w'.cell? ⟨b8, 1, none⟩ = some (.slice e1 f1 g1) ∧ w'.cell? ⟨b8, 2, none⟩ = some (.int .i64 x2))
      (first
        | with_reducible exact ⟨j0, j1, j2⟩
        | (obtain ⟨i0, i1, i2, -, -, -⟩ := (X2.out.drew.below hb3).cells
           with_reducible exact ⟨i0, i1, i2⟩)
        | (obtain ⟨i0, i1, i2, -, -, -⟩ := ((X2.out.drew.below HB3.out).below hb4).cells
           with_reducible exact ⟨i0, i1, i2⟩)
        | (obtain ⟨i0, i1, i2, -, -, -⟩ := (((X2.out.drew.below HB3.out).below HB4.out).below hb5).cells
           with_reducible exact ⟨i0, i1, i2⟩))
      (first
        | (go_at_call 51; refine (ONE.out _ (HT.out.below B2.out.drew)).mono ?_; rintro r w3 ⟨v3, rfl, hu3, hb3⟩; have HB3 := Lib.hid hb3; have V3 := Lib.hid hu3; have B3 := Lib.hid (bl_thru B2.out.drew (Nat.le_refl _) hb3); have N3 := Lib.hid (N2.out.dr.below hb3))
        | (go_at_call 61; refine (PL.out _ e1 f1 g1 _ (HT.out.below B3.out) N3.out V3.out).mono ?_; rintro r w4 ⟨v4, rfl, hu4, hb4⟩; have HB4 := Lib.hid hb4; have V4 := Lib.hid hu4; have B4 := Lib.hid (bl_thru B3.out (Nat.le_refl _) hb4))
        | (go_at_call 58; refine (EL.out _ _ (HT.out.below B4.out) V4.out).mono ?_; rintro r w5 ⟨rfl, hb5⟩; have HB5 := Lib.hid hb5; have B5 := Lib.hid (bl_thru B4.out (Nat.le_refl _) hb5)))
    go_wp2
    go_ret3
    exact ⟨rfl, B5.out⟩
end Go.Proofs.YtmpdbmaokbhcjaaDoor
