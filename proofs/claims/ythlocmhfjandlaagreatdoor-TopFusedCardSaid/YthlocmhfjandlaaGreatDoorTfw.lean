/-
  SOME OF MY TEXTS in one: Tf TopFusedW. Each says what it proves.
-/
import Derived.Test.YthlocmhfjandlaaGreatDoorBy
import Derived.Test.YthlocmhfjandlaaGreatDoorBp
import Derived.Test.YthlocmhfjandlaaGreatDoorTsw
import Derived.Test.YthlocmhfjandlaaGreatDoorPfe
set_option linter.unusedVariables false
set_option linter.unusedSimpArgs false
/-
  PLAIN: the law TopFused: a product and a number at once are the parts of the product, and the number, all at once.
-/
namespace Go.Proofs.YthlocmhfjandlaaGreatDoor
open Fm Fl

/-- a number that has a value, put to what is there -/
theorem stp_value {st : St} {x : Int} (x0 : 0 ≤ x) (x1 : x ≤ 18446744073709551615) (hx : fabs x < 9218868437227405312) (hn : st.s.Nf) :
    (stp st x).inf = st.inf ∧ (stp st x).clash = st.clash ∧ (stp st x).nan = st.nan ∧ (stp st x).s = plus st.s (valD x) := by
  have h4 : fcls x ≠ 4 := fun h => by unfold fcls at h; repeat' split at h
                                      all_goals omega
  have h5 : fcls x ≠ 5 := fun h => by unfold fcls at h; repeat' split at h
                                      all_goals omega
  by_cases h1 : fcls x = 1
  · have hz : fabs x = 0 := by unfold fcls at h1; repeat' split at h1
                               all_goals omega
    have hv : valD x = nz := valD_z (fcls_1 hz)
    rw [hv, plus_nz_right hn]
    by_cases hx0 : x = 0
    · rw [stp_ps h1 hx0]; exact ⟨rfl, rfl, rfl, rfl⟩
    · rw [stp_ng h1 hx0]; exact ⟨rfl, rfl, rfl, rfl⟩
  · have : fcls x = 2 ∨ fcls x = 3 := by
      rcases fcls_ways x with h | h | h | h | h
      · exact absurd h h1
      · exact Or.inl h
      · exact Or.inr h
      · exact absurd h h4
      · exact absurd h h5
    rw [stp_num this]; exact ⟨rfl, rfl, rfl, rfl⟩
/-- the parts of a product -/
theorem fused_parts {x y : Int} (x0 : 0 ≤ x) (x1 : x ≤ 18446744073709551615) (y0 : 0 ≤ y) (y1 : y ≤ 18446744073709551615) (he : tpE x y = 0) (hu : -1074 ≤ ulE x + ulE y) :
    (stL [tpP x y, tpR x y]).inf = 0 ∧ (stL [tpP x y, tpR x y]).clash = false ∧ (stL [tpP x y, tpR x y]).nan = false ∧ (stL [tpP x y, tpR x y]).s = prD x y := by
  obtain ⟨vs, vr, hsame⟩ := exactProd_a x0 x1 y0 y1 he hu
  have pb := tpP_bd x y
  have rb := tpR_bd x y
  obtain ⟨a1, a2, a3, a4⟩ := stp_value (st := st0) pb.1 pb.2 (hasV_lt vs) (Or.inl rfl)
  have e1 : (stp st0 (tpP x y)).s = valD (tpP x y) := by rw [a4]; exact plus_nz_left (valD_nf _)
  obtain ⟨b1, b2, b3, b4⟩ := stp_value (st := stp st0 (tpP x y)) rb.1 rb.2 (hasV_lt vr) (by rw [e1]; exact valD_nf _)
  have e : stL [tpP x y, tpR x y] = stp (stp st0 (tpP x y)) (tpR x y) := rfl
  rw [e, b1, b2, b3, b4, a1, a2, a3, e1, ← hsame, plus_nz_right (prD_nf x y)]
  exact ⟨rfl, rfl, rfl, rfl⟩
theorem allV_zero {l : List Int} (mode : Int) (hn : (stL l).nan = false) (hc : (stL l).clash = false) (hi : (stL l).inf = 0) (hm : (stL l).s.m = 0) : fcls (allV l mode) = 1 ∧ allC l = false := by
  unfold allV allC
  rw [hn, hc, hi, hm]
  simp only [Bool.or_false, Bool.false_eq_true, if_false, ne_eq, not_true_eq_false]
  refine ⟨?_, trivial⟩
  split; · decide
  split; · decide
  split <;> decide
theorem fused_law {x y z mode : Int} (x0 : 0 ≤ x) (x1 : x ≤ 18446744073709551615) (y0 : 0 ≤ y) (y1 : y ≤ 18446744073709551615) (z0 : 0 ≤ z) (z1 : z ≤ 18446744073709551615) (he : tpE x y = 0) (hu : -1074 ≤ ulE x + ulE y) (hk : knownB mode = true) :
    slE 3 mode = 0 ∧ slC [tpP x y, tpR x y, z] mode = fmC x y z mode ∧ (fmV x y z mode = slV [tpP x y, tpR x y, z] mode ∨ (fcls (fmV x y z mode) = 1 ∧ fcls (slV [tpP x y, tpR x y, z] mode) = 1)) := by
  have hE : slE 3 mode = 0 := by unfold slE; rw [hk]; rfl
  have hV : slV [tpP x y, tpR x y, z] mode = allV [tpP x y, tpR x y, z] mode := by unfold slV; rw [show [tpP x y, tpR x y, z].length = 3 from rfl, hE]; rfl
  have hC : slC [tpP x y, tpR x y, z] mode = allC [tpP x y, tpR x y, z] := by unfold slC; rw [show [tpP x y, tpR x y, z].length = 3 from rfl, hE]; rfl
  have hfV : fmV x y z mode = fmV0 x y z mode := by unfold fmV; rw [hk]; rfl
  have hfC : fmC x y z mode = fmC0 x y z := by unfold fmC; rw [hk]; rfl
  obtain ⟨vx, vy, -⟩ := tp_val he
  have hsp := spB_fin (hasV_lt vx) (hasV_lt vy)
  obtain ⟨p1, p2, p3, p4⟩ := fused_parts x0 x1 y0 y1 he hu
  have e : stL [tpP x y, tpR x y, z] = stp (stL [tpP x y, tpR x y]) z := rfl
  refine ⟨hE, ?_⟩
  rw [hV, hC, hfV, hfC]
  generalize stL [tpP x y, tpR x y] = st at *
  by_cases h5 : fcls z = 5
  · rw [stp_nan h5] at e
    unfold fmV0 fmC0 allV allC
    rw [e, if_pos (Or.inl h5), if_pos (Or.inl h5)]
    simp
  by_cases h4 : fcls z = 4
  · rw [stp_inf h4] at e
    have hz : z ≠ 0 := fun h => by subst h; exact absurd h4 (by decide)
    unfold fmV0 fmC0 allV allC
    rw [e, hsp, p1, p2, p3]
    simp [h4, hz]
  have hz : fabs z < 9218868437227405312 := by
    have := fabs_bd z
    by_cases h : fabs z < 9218868437227405312
    · exact h
    · exfalso
      by_cases h2 : fabs z = 9218868437227405312
      · exact h4 (fcls_4 h2)
      · exact h5 (fcls_5 (by omega))
  obtain ⟨a1, a2, a3, a4⟩ := stp_value (st := st) z0 z1 hz (by rw [p4]; exact prD_nf x y)
  rw [← e] at a1 a2 a3 a4
  rw [p1] at a1
  rw [p2] at a2
  rw [p3] at a3
  rw [p4] at a4
  by_cases hm : (fsD x y z).m = 0
  · obtain ⟨c1, c2⟩ := allV_zero mode a3 a2 a1 (by rw [a4]; exact hm)
    have hf : fcls (fmV0 x y z mode) = 1 ∧ fmC0 x y z = false := by
      unfold fmV0 fmC0
      rw [hsp, hm]
      simp only [h5, h4, Bool.false_eq_true, false_and, or_false, if_false, ne_eq, not_true_eq_false]
      by_cases hp : (prD x y).m = 0
      · rw [if_pos hp, if_pos hp]
        have hd : prD x y = nz := by
          rcases prD_nf x y with h | h
          · exact h
          · exact absurd hp (by omega)
        have hzz : fabs z = 0 := by
          have h2 : (valD z).m = 0 := by
            have : fsD x y z = valD z := by unfold fsD; rw [hd]; exact plus_nz_left (valD_nf z)
            rw [← this]; exact hm
          exact valD_m0 z0 z1 hz h2
        have s0 := sgn_bd x y
        have sa := sgn_abs x y
        obtain ⟨d1, d2, d3, d4⟩ := stp_value (st := st0) (x := sgn x y) s0.1 (by omega) (by omega) (Or.inl rfl)
        have e1 : (stp st0 (sgn x y)).s = nz := by rw [d4, valD_z (fcls_1 sa)]; rfl
        obtain ⟨f1, f2, f3, f4⟩ := stp_value (st := stp st0 (sgn x y)) z0 z1 hz (by rw [e1]; exact Or.inl rfl)
        have e2 : stL [sgn x y, z] = stp (stp st0 (sgn x y)) z := rfl
        rw [← e2] at f1 f2 f3 f4
        exact allV_zero mode (by rw [f3, d3]; rfl) (by rw [f2, d2]; rfl) (by rw [f1, d1]; rfl) (by rw [f4, e1, valD_z (fcls_1 hzz)]; rfl)
      · rw [if_neg hp, if_neg hp]
        refine ⟨?_, rfl⟩
        split <;> decide
    exact ⟨by rw [c2, hf.2], Or.inr ⟨hf.1, c1⟩⟩
  · have g1 : allV [tpP x y, tpR x y, z] mode = numR (fsD x y z) mode ∧ allC [tpP x y, tpR x y, z] = numC (fsD x y z) := by
      unfold allV allC
      rw [a1, a2, a3, a4]
      have : (plus (prD x y) (valD z)).m ≠ 0 := hm
      simp [this]
      exact ⟨rfl, rfl⟩
    have g2 : fmV0 x y z mode = numR (fsD x y z) mode ∧ fmC0 x y z = numC (fsD x y z) := by
      unfold fmV0 fmC0
      rw [hsp]
      simp [h5, h4, hm]
    rw [g1.1, g1.2, g2.1, g2.2]
    exact ⟨rfl, Or.inl rfl⟩
end Go.Proofs.YthlocmhfjandlaaGreatDoor

/-
  THE WALK of the law TopFused.
-/
namespace Go.Proofs.YthlocmhfjandlaaGreatDoor
open Go.RowKit Nt Fm Fl

theorem three_lu (w : World) (x y z : Int) (T : TypeId) (x0 : 0 ≤ x) (x1 : x ≤ 18446744073709551615) (y0 : 0 ≤ y) (y1 : y ≤ 18446744073709551615) (z0 : 0 ≤ z) (z1 : z ≤ 18446744073709551615) : LU (w.alloc (.cells #[.int .u64 x, .int .u64 y, .int .u64 z] T)) (.slice (some ⟨w.heap.size, 0, none⟩) 3 3) [x, y, z] := by
  refine ⟨?_, some ⟨w.heap.size, 0, none⟩, 3, rfl, Nat.le_refl 3, by unfold maxLen; omega, Or.inr ⟨w.heap.size, 0, rfl, by simp, ?_⟩⟩
  · intro d hd
    simp at hd
    rcases hd with rfl | rfl | rfl
    · exact ⟨x0, x1⟩
    · exact ⟨y0, y1⟩
    · exact ⟨z0, z1⟩
  · intro i hi
    match i, hi with
    | 0, _ => simp [go_sem]
    | 1, _ => simp [go_sem]
    | 2, _ => simp [go_sem]
theorem adE_ok {mode : Int} (h : adE mode = 0) : knownB mode = true := by
  unfold adE at h; cases hk : knownB mode
  · rw [hk] at h; exact absurd h (by decide)
  · rfl
theorem ulV_bd (x : Int) (x0 : 0 ≤ x) (x1 : x ≤ 18446744073709551615) : -1074 ≤ ulV x ∧ ulV x ≤ 1000 := by
  have := fexp_bd x
  unfold ulV ulE
  split <;> omega
set_option maxRecDepth 100000 in
set_option maxHeartbeats 8000000 in
theorem walkTopFused (x : Int) (x0 : 0 ≤ x) (x1 : x ≤ 18446744073709551615) (y : Int) (y0 : 0 ≤ y) (y1 : y ≤ 18446744073709551615) (z : Int) (z0 : 0 ≤ z) (z1 : z ≤ 18446744073709551615) (mode : Int) (mode0 : -9223372036854775808 ≤ mode) (mode1 : mode ≤ 9223372036854775807) (w : World) (hT : Tab w) (hT10 : Tab10 w) :
    Calls Tryz.prog 3 #[.int .u64 x, .int .u64 y, .int .u64 z, .int .i64 mode] w fun e w' => e = .returned (.bool true) ∧ Below w.heap.size w w' := by
  have FM := Lib.hid (fun w' h => pfma_any x y z mode x0 x1 y0 y1 z0 z1 w' h)
  have TP := Lib.hid (fun w' h => twoProd_any x y x0 x1 y0 y1 w' h)
  have UX := Lib.hid (fun w' => ulp_any x x0 x1 w')
  have UY := Lib.hid (fun w' => ulp_any y y0 y1 w')
  have LV := Lib.hid (fun w' h1 h2 => topLives_any w' h1 h2)
  have pb := tpP_bd x y
  have rb := tpR_bd x y
  have ub := ulV_bd x x0 x1
  have vb := ulV_bd y y0 y1
  have fb := fmV_bd x y z mode z0 z1
  unfold Ret3 at TP
  have HT := Lib.hid hT
  have H10 := Lib.hid hT10
  have B : Hid (Below w.heap.size w w) := Lib.hid (Below.refl w.heap.size w)
  clear hT hT10
  by_cases hok : (adE mode = 0 ∧ tpE x y = 0) ∧ -1074 ≤ ulV x + ulV y
  · obtain ⟨⟨k1, k2⟩, k3⟩ := hok
    obtain ⟨vx, vy, -⟩ := tp_val k2
    have e1 : ulV x = ulE x := by unfold ulV; rw [vx]; rfl
    have e2 : ofE x = 0 := by unfold ofE; rw [vx]; rfl
    have e3 : ulV y = ulE y := by unfold ulV; rw [vy]; rfl
    have e4 : ofE y = 0 := by unfold ofE; rw [vy]; rfl
    obtain ⟨l1, l2, l3⟩ := fused_law (mode := mode) x0 x1 y0 y1 z0 z1 k2 (by rw [← e1, ← e3]; exact k3) (adE_ok k1)
    have SA := Lib.hid (fun w' T h => sall_any (.slice (some ⟨w'.heap.size, 0, none⟩) 3 3) [tpP x y, tpR x y, z] mode (w'.alloc (.cells #[.int .u64 (tpP x y), .int .u64 (tpR x y), .int .u64 z] T)) h (three_lu w' (tpP x y) (tpR x y) z T pb.1 pb.2 rb.1 rb.2 z0 z1))
    rw [show [tpP x y, tpR x y, z].length = 3 from rfl, l1, l2] at SA
    rw [k1] at FM
    rw [k2] at TP
    rw [e2] at UX
    rw [e4] at UY
    have sb : 0 ≤ slV [tpP x y, tpR x y, z] mode ∧ slV [tpP x y, tpR x y, z] mode ≤ 18446744073709551615 := by
      unfold slV
      split
      · have hbd : ∀ d ∈ [tpP x y, tpR x y, z], 0 ≤ d ∧ d ≤ 18446744073709551615 := by
          intro d hd
          simp at hd
          rcases hd with rfl | rfl | rfl
          · exact pb
          · exact rb
          · exact ⟨z0, z1⟩
        exact allV_bd _ hbd mode
      · omega
    have CA := Lib.hid (fun w' => class_any (fmV x y z mode) fb.1 fb.2 w')
    have CB := Lib.hid (fun w' => class_any (slV [tpP x y, tpR x y, z] mode) sb.1 sb.2 w')
    generalize tpP x y = p at *
    generalize tpR x y = r at *
    generalize fmV x y z mode = a at *
    generalize fmC x y z mode = c at *
    generalize slV [p, r, z] mode = b at *
    generalize ulV x = u at *
    generalize ulV y = v at *
    generalize fcls a = ca at *
    generalize fcls b = cb at *
    clear l1 l2 vx vy e1 e2 e3 e4 k1 k2 pb rb fb sb
    have hfin : (a == b || (ca == 1 && cb == 1)) = true := by
      rcases l3 with h | ⟨h1, h2⟩
      · rw [h]; simp
      · rw [h1, h2]; simp
    clear l3
    go_enter Tryz.func3, Tryz.ntmps3
    go_wp2_with (first
      | (go_at_call 18; refine (FM.out _ HT.out).mono ?_; rintro r1 w1 ⟨rfl, hb⟩; replace HT := Lib.hid (HT.out.below hb); replace H10 := Lib.hid (H10.out.below hb); replace B := Lib.hid (bl_thru B.out (Nat.le_refl _) hb); clear hb)
      | (go_at_call 19; refine (TP.out _ HT.out).mono ?_; rintro r1 w1 ⟨rfl, hb⟩; replace HT := Lib.hid (HT.out.below hb); replace H10 := Lib.hid (H10.out.below hb); replace B := Lib.hid (bl_thru B.out (Nat.le_refl _) hb); clear hb)
      | (go_at_call 20; ((with_reducible refine (UX.out _).mono ?_); rintro r1 w1 ⟨rfl, rfl⟩))
      | (go_at_call 20; ((with_reducible refine (UY.out _).mono ?_); rintro r1 w1 ⟨rfl, rfl⟩))
      | (go_at_call 21; refine (LV.out _ HT.out H10.out).mono ?_; rintro r1 w1 ⟨rfl, hb⟩; replace HT := Lib.hid (HT.out.below hb); replace H10 := Lib.hid (H10.out.below hb); replace B := Lib.hid (bl_thru B.out (Nat.le_refl _) hb); clear hb)
      | (go_at_call 22; ((with_reducible refine (okT4_bl _ _ _ _ _ _ (by simp)).mono ?_); rintro r1 w1 ⟨rfl, hb⟩; replace HT := Lib.hid (HT.out.below hb); replace H10 := Lib.hid (H10.out.below hb); replace B := Lib.hid (bl_thru B.out (Nat.le_refl _) hb); clear hb))
      | (go_at_call 23; refine (SA.out _ _ (HT.out.alloc _)).mono ?_; rintro r1 w1 ⟨rfl, hb⟩; replace B := Lib.hid (bl_thru (B.out.alloc B.out.size _) (Nat.le_refl _) hb); clear hb)
      | (go_at_call 24; ((with_reducible refine (CA.out _).mono ?_); rintro r1 w1 ⟨rfl, rfl⟩))
      | (go_at_call 24; ((with_reducible refine (CB.out _).mono ?_); rintro r1 w1 ⟨rfl, rfl⟩)))
    all_goals first
      | (go_ret; exact ⟨rfl, B.out⟩; done)
      | (go_ret; refine ⟨?_, B.out⟩; simp_all [ok4]; done)
      | (exfalso; simp_all [ok4]; done)
      | (exfalso; omega)
      | trace_state
  · have hno : Hid (True ∧ ¬ (ok4 (adE mode) (tpE x y) (ofE x) (ofE y) = true ∧ -1074 ≤ ulV x + ulV y)) := Lib.hid ⟨trivial, fun h => hok (by
      have h1 := h.1
      unfold ok4 at h1
      simp at h1
      exact ⟨⟨h1.1.1.1, h1.1.1.2⟩, h.2⟩)⟩
    generalize tpP x y = p at *
    generalize tpR x y = r at *
    generalize fmV x y z mode = a at *
    generalize fmC x y z mode = c at *
    generalize ulV x = u at *
    generalize ulV y = v at *
    generalize adE mode = ea at *
    generalize tpE x y = eb at *
    generalize ofE x = ec at *
    generalize ofE y = ed at *
    clear hok pb rb fb
    go_enter Tryz.func3, Tryz.ntmps3
    go_wp2_with (first
      | (go_at_call 18; refine (FM.out _ HT.out).mono ?_; rintro r1 w1 ⟨rfl, hb⟩; replace HT := Lib.hid (HT.out.below hb); replace H10 := Lib.hid (H10.out.below hb); replace B := Lib.hid (bl_thru B.out (Nat.le_refl _) hb); clear hb)
      | (go_at_call 19; refine (TP.out _ HT.out).mono ?_; rintro r1 w1 ⟨rfl, hb⟩; replace HT := Lib.hid (HT.out.below hb); replace H10 := Lib.hid (H10.out.below hb); replace B := Lib.hid (bl_thru B.out (Nat.le_refl _) hb); clear hb)
      | (go_at_call 20; ((with_reducible refine (UX.out _).mono ?_); rintro r1 w1 ⟨rfl, rfl⟩))
      | (go_at_call 20; ((with_reducible refine (UY.out _).mono ?_); rintro r1 w1 ⟨rfl, rfl⟩))
      | (go_at_call 21; refine (LV.out _ HT.out H10.out).mono ?_; rintro r1 w1 ⟨rfl, hb⟩; replace HT := Lib.hid (HT.out.below hb); replace H10 := Lib.hid (H10.out.below hb); replace B := Lib.hid (bl_thru B.out (Nat.le_refl _) hb); clear hb)
      | (go_at_call 22; ((with_reducible refine (okT4_bl _ _ _ _ _ _ (by simp)).mono ?_); rintro r1 w1 ⟨rfl, hb⟩; replace HT := Lib.hid (HT.out.below hb); replace H10 := Lib.hid (H10.out.below hb); replace B := Lib.hid (bl_thru B.out (Nat.le_refl _) hb); clear hb)))
    all_goals first
      | (go_ret; exact ⟨rfl, B.out⟩; done)
      | (exfalso; exact hno.out.2 ⟨by assumption, by omega⟩)
      | (exfalso; exact hno.out.2 ⟨by simp_all, by omega⟩)
      | trace_state
end Go.Proofs.YthlocmhfjandlaaGreatDoor
