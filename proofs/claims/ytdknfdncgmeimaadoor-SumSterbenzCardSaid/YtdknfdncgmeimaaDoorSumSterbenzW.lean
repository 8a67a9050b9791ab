/-
  THE WALK of the law SumSterbenz.
-/
import Derived.Test.YtdknfdncgmeimaaDoorVl
import Derived.Test.YtdknfdncgmeimaaDoorSa
import Derived.Test.YtdknfdncgmeimaaDoorSt
import Derived.Test.YtdknfdncgmeimaaDoorEx2
import Derived.Test.YtdknfdncgmeimaaDoorEx3
set_option linter.unusedVariables false
set_option linter.unusedSimpArgs false
namespace Go.Proofs.YtdknfdncgmeimaaDoor
open Go.RowKit Nt Fm Fl

theorem same_to {d1 d2 : D} {b : Bool} (hs : sameB d1 d2 = b) (v1 v2 : Value) (w : World) (h1 : DV w v1 d1) (h2 : DV w v2 d2) :
    Calls Tryd.prog 30 #[v1, v2] w fun r w' => r = .returned (.bool b) ∧ Below w.heap.size w w' := by
  have := same_any v1 v2 d1 d2 w h1 h2
  rw [hs] at this; exact this
theorem ofD_yes {x : Int} (h : hasV x = true) : ofD x = valD x := by unfold ofD; rw [if_pos h]
theorem hasV_f {x : Int} (h : hasV x = true) : fabs x < 9218868437227405312 := by unfold hasV at h; simpa using h
theorem shift_fit (x : Int) (x0 : 0 ≤ x) (x1 : x ≤ 18446744073709551615) (n : Int) (h0 : -1 ≤ n) (h1 : n ≤ 1) : Fit (norm (ofD x).neg (ofD x).m ((ofD x).e + n)) := by
  have hb : (ofD x).m < 2 ^ 53 ∧ -1074 ≤ (ofD x).e ∧ (ofD x).e ≤ 1100 := by
    obtain ⟨a, b, c, d, -⟩ := valD_facts x x0 x1
    unfold ofD; split
    · exact ⟨b, c, d⟩
    · exact ⟨by decide, by decide, by decide⟩
  obtain ⟨b1, b2⟩ := norm_bd (ofD x).neg ((ofD x).e + n) hb.1
  refine fit_of (norm_nf _ _ _) (k := 53) (by omega) (by omega) ?_ ?_
  · rcases b2 with b2 | b2
    · rw [b2]; decide
    · omega
  · rcases b2 with b2 | b2
    · rw [b2]; decide
    · omega
theorem diff_fit (x y : Int) (x0 : 0 ≤ x) (x1 : x ≤ 18446744073709551615) (y0 : 0 ≤ y) (y1 : y ≤ 18446744073709551615) : Fit (plus (valD x) (opp (valD y))) := by
  have hb := fneg_bd y0 y1
  have h := (valD_sml x x0 x1).plus (valD_sml (fneg y) hb.1 hb.2)
  rw [valD_fneg y0 y1] at h
  obtain ⟨⟨q, hq, hm⟩, e0, e1⟩ := h.bds (by decide)
  exact fit_of (plus_Nf _ _) (by omega) hm (by omega) (by omega)
theorem sterb_a {x y mode : Int} (x0 : 0 ≤ x) (x1 : x ≤ 18446744073709551615) (y0 : 0 ≤ y) (y1 : y ≤ 18446744073709551615) (hk : knownB mode = true) (hx : hasV x = true) (hy : hasV y = true) (lo hi : D)
    (h : lo = norm (ofD y).neg (ofD y).m ((ofD y).e + -1) ∧ hi = norm (ofD y).neg (ofD y).m ((ofD y).e + 1) ∧ (ofD y).neg = false ∨
      lo = norm (ofD y).neg (ofD y).m ((ofD y).e + 1) ∧ hi = norm (ofD y).neg (ofD y).m ((ofD y).e + -1) ∧ (ofD y).neg = true)
    (h1 : cmp lo (ofD x) ≤ 0) (h2 : cmp (ofD x) hi ≤ 0) : adC x (fneg y) mode = false ∧ hasV (adV x (fneg y) mode) = true ∧ sameB (ofD (adV x (fneg y) mode)) (plus (valD x) (opp (valD y))) = true := by
  rw [ofD_yes hy] at h
  rw [ofD_yes hx] at h1 h2
  have hb := fneg_bd y0 y1
  have hc := sterb_law x0 x1 y0 y1 (hasV_f hx) (hasV_f hy) lo hi h h1 h2
  have e : adV x (fneg y) mode = allV [x, fneg y] mode ∧ adC x (fneg y) mode = allC [x, fneg y] := by unfold adV adC; rw [hk]; exact ⟨rfl, rfl⟩
  rw [e.1, e.2]
  have hf : ∀ v ∈ [x, fneg y], fabs v < 9218868437227405312 := by
    intro v hv; simp at hv; rcases hv with rfl | rfl
    · exact hasV_f hx
    · rw [fabs_fneg]; exact hasV_f hy
  have hC : allC [x, fneg y] = false := by
    rw [(allV_fin [x, fneg y] hf mode).2.2.1, sumD_two, valD_fneg y0 y1]; exact hc
  obtain ⟨a, b⟩ := allV_exact hf mode hC
  refine ⟨hC, a, ?_⟩
  rw [ofD_yes a, b, sumD_two, valD_fneg y0 y1]; exact sameB_refl _

set_option maxRecDepth 100000 in
set_option maxHeartbeats 16000000 in
theorem walkSumSterbenz (x : Int) (x0 : 0 ≤ x) (x1 : x ≤ 18446744073709551615) (y : Int) (y0 : 0 ≤ y) (y1 : y ≤ 18446744073709551615) (mode : Int) (mode0 : -9223372036854775808 ≤ mode) (mode1 : mode ≤ 9223372036854775807) (w : World) (hT : Tab w) :
    Calls Tryd.prog 22 #[.int .u64 x, .int .u64 y, .int .i64 mode] w fun e w' => e = .returned (.bool true) ∧ Below w.heap.size w w' := by
  obtain ⟨p0, p1⟩ : 0 ≤ adV x (fneg y) mode ∧ adV x (fneg y) mode ≤ 18446744073709551615 := by
    have hb := fneg_bd y0 y1
    unfold adV; split
    · exact allV_bd _ (by simp; omega) _
    · omega
  have HM := Lib.hid (fun w' h => ssub_any x y mode x0 x1 y0 y1 w' h)
  have HA := Lib.hid (fun w' h => valu_any x x0 x1 w' h)
  have HB := Lib.hid (fun w' h => valu_any y y0 y1 w' h)
  have HP := Lib.hid (fun w' h => valu_any (adV x (fneg y) mode) p0 p1 w' h)
  have F_a := Lib.hid (ofD_fit x x0 x1)
  have F_b := Lib.hid (ofD_fit y y0 y1)
  have F_c := Lib.hid (ofD_fit (adV x (fneg y) mode) p0 p1)
  have F_d := Lib.hid (diff_fit x y x0 x1 y0 y1)
  have F_t := Lib.hid (shift_fit y y0 y1 1 (by decide) (by decide))
  have F_h := Lib.hid (shift_fit y y0 y1 (-1) (by decide) (by decide))
  have SH : ∀ (n : Int), (n = 1 ∨ n = -1) → ∀ v w', Tab w' → RD w' v 0 (ofD y) → Calls Tryd.prog 36 #[v, .int .i64 n] w' (RetR w' 0 (norm (ofD y).neg (ofD y).m ((ofD y).e + n))) := fun n hn v w' h0 h1 => by
    have := shift_any v 0 n (ofD y) w' h0 h1 (by omega) (by omega)
    have hf := shift_fit y y0 y1 n (by omega) (by omega)
    have e1 : shE 0 n (norm (ofD y).neg (ofD y).m ((ofD y).e + n)) = 0 := by unfold shE; rw [if_pos rfl, if_neg (by omega), fitE_of hf]
    have e2 : shR 0 n (norm (ofD y).neg (ofD y).m ((ofD y).e + n)) = norm (ofD y).neg (ofD y).m ((ofD y).e + n) := by unfold shR; rw [if_pos e1]
    rw [e1, e2] at this; exact this
  have HS1 := Lib.hid (SH 1 (Or.inl rfl))
  have HS2 := Lib.hid (SH (-1) (Or.inr rfl))
  have HD : Hid (hasV x = true → hasV y = true → ∀ v1 v2 w', Tab w' → RD w' v1 0 (ofD x) → RD w' v2 0 (ofD y) → Calls Tryd.prog 34 #[v1, v2] w' (RetR w' 0 (plus (valD x) (opp (valD y))))) := Lib.hid (fun hx hy v1 v2 w' h0 h1 h2 => by
    have := sub_any v1 v2 0 0 (ofD x) (ofD y) w' h0 h1 h2
    have e0 : plus (ofD x) (opp (ofD y)) = plus (valD x) (opp (valD y)) := by rw [ofD_yes hx, ofD_yes hy]
    rw [e0, (opE_zero (plus (valD x) (opp (valD y)))).1, (opE_zero (plus (valD x) (opp (valD y)))).2, fitE_of F_d.out, if_pos rfl] at this
    exact this)
  have HCM : Hid (∀ d1 d2 v1 v2 w', Tab w' → RD w' v1 0 d1 → RD w' v2 0 d2 → Calls Tryd.prog 33 #[v1, v2] w' fun r w'' => r = .returned (.tuple #[.int .i64 (cmp d1 d2), .int .i64 0]) ∧ Below w'.heap.size w' w'') := Lib.hid (fun d1 d2 v1 v2 w' h0 h1 h2 => by
    have := cmp_any v1 v2 0 0 d1 d2 w' h0 h1 h2
    have e1 : cmE 0 0 d1 d2 = cmp d1 d2 := by unfold cmE; rw [if_pos (by rfl)]
    have e2 : ck2 0 0 = 0 := rfl
    rw [e1, e2] at this; exact this)
  have L : Hid (hasV x = true → hasV y = true → knownB mode = true → ∀ lo hi, (lo = norm (ofD y).neg (ofD y).m ((ofD y).e + -1) ∧ hi = norm (ofD y).neg (ofD y).m ((ofD y).e + 1) ∧ (ofD y).neg = false ∨
        lo = norm (ofD y).neg (ofD y).m ((ofD y).e + 1) ∧ hi = norm (ofD y).neg (ofD y).m ((ofD y).e + -1) ∧ (ofD y).neg = true) → cmp lo (ofD x) ≤ 0 → cmp (ofD x) hi ≤ 0 →
        adC x (fneg y) mode = false ∧ hasV (adV x (fneg y) mode) = true ∧ sameB (ofD (adV x (fneg y) mode)) (plus (valD x) (opp (valD y))) = true) :=
    Lib.hid (fun hx hy hk lo hi h h1 h2 => sterb_a x0 x1 y0 y1 hk hx hy lo hi h h1 h2)
  have hE : knownB mode = true → adE mode = 0 := fun h => by unfold adE; rw [h]; rfl
  have HE := Lib.hid hE
  clear hE SH
  have SM : Hid (sameB (ofD (adV x (fneg y) mode)) (plus (valD x) (opp (valD y))) = true → ∀ v1 v2 w', DV w' v1 (ofD (adV x (fneg y) mode)) → DV w' v2 (plus (valD x) (opp (valD y))) → Calls Tryd.prog 30 #[v1, v2] w' fun r w'' => r = .returned (.bool true) ∧ Below w'.heap.size w' w'') := Lib.hid (fun hs v1 v2 w' h1 h2 => same_to hs v1 v2 w' h1 h2)
  obtain ⟨D_a, hD_a⟩ : ∃ D, D = ofD x := ⟨_, rfl⟩
  obtain ⟨D_t, hD_t⟩ : ∃ D, D = norm (ofD y).neg (ofD y).m ((ofD y).e + 1) := ⟨_, rfl⟩
  obtain ⟨D_h, hD_h⟩ : ∃ D, D = norm (ofD y).neg (ofD y).m ((ofD y).e + -1) := ⟨_, rfl⟩
  obtain ⟨D_c, hD_c⟩ : ∃ D, D = ofD (adV x (fneg y) mode) := ⟨_, rfl⟩
  obtain ⟨D_d, hD_d⟩ : ∃ D, D = plus (valD x) (opp (valD y)) := ⟨_, rfl⟩
  rw [← hD_t] at F_t HS1 L
  rw [← hD_h] at F_h HS2 L
  obtain ⟨D_b, hD_b⟩ : ∃ D, D = ofD y := ⟨_, rfl⟩
  rw [← hD_a] at HA F_a HD L
  rw [← hD_b] at HB F_b HD HS1 HS2 L
  rw [← hD_c] at HP F_c L SM
  rw [← hD_d] at F_d HD L SM
  clear hD_a hD_b hD_c hD_d hD_t hD_h
  generalize adV x (fneg y) mode = p at *
  generalize adC x (fneg y) mode = C at *
  generalize hasV x = hx at *
  generalize hasV y = hy at *
  generalize hasV p = hp at *
  have hm : (mode < 0) ∨ (4 < mode) ∨ (0 ≤ mode ∧ mode ≤ 4) := by omega
  have HT := Lib.hid hT
  clear hT
  have hcase : hx = false ∨ (hx = true ∧ (hy = false ∨ (hy = true ∧ (mode < 0 ∨ (0 ≤ mode ∧ (4 < mode ∨ mode ≤ 4)))))) := by
    cases hx
    · exact Or.inl rfl
    · right; refine ⟨rfl, ?_⟩
      cases hy
      · exact Or.inl rfl
      · right; refine ⟨rfl, ?_⟩; omega
  clear hm
  rcases hcase with rfl | ⟨rfl, rfl | ⟨rfl, h1 | ⟨h1, h2 | h2⟩⟩⟩
  · clear L HD SM HE
    go_enter Tryd.func22, Tryd.ntmps22
    go_wp2_with fail
    refine (HA.out _ HT.out).mono ?_
    rintro r w1 ⟨a_a, n_a, k_a, rfl, hv, hb⟩
    have S : Below w.heap.size w w1 := hb
    have B := Lib.hid S
    have R_a := Lib.hid (rd_of (d := D_a) hv F_a.out)
    clear hb S hv
    go_wp2_with fail
    refine (HB.out _ (HT.out.below (by have := B.out; have := B.out.size; go_grown))).mono ?_
    rintro r w2 ⟨a_b, n_b, k_b, rfl, hv, hb⟩
    have S : Below w1.heap.size w1 w2 := bl_thru (by go_grown) (Nat.le_refl _) hb
    replace B := Lib.hid (bl_thru B.out (Nat.le_refl _) S)
    have X_a := Lib.hid ((Box.new w1 _ _ _ _).below hb)
    replace R_a := Lib.hid (R_a.out.below S)
    have R_b := Lib.hid (rd_of (d := D_b) hv F_b.out)
    clear hb S hv
    go_wp2_with fail
    refine (sumLives_any _ (HT.out.below (by have := B.out; have := B.out.size; go_grown))).mono ?_
    rintro r w3 ⟨rfl, hb⟩
    have S : Below w2.heap.size w2 w3 := bl_thru (by go_grown) (Nat.le_refl _) hb
    replace B := Lib.hid (bl_thru B.out (Nat.le_refl _) S)
    replace X_a := Lib.hid (X_a.out.below S)
    have X_b := Lib.hid ((Box.new w2 _ _ _ _).below hb)
    replace R_a := Lib.hid (R_a.out.below S)
    replace R_b := Lib.hid (R_b.out.below S)
    clear hb S
    go_wp2_with fail
    refine (sumLives_any _ (HT.out.below B.out)).mono ?_
    rintro r w4 ⟨rfl, hb⟩
    have S : Below w3.heap.size w3 w4 := hb
    replace B := Lib.hid (bl_thru B.out (Nat.le_refl _) S)
    replace X_a := Lib.hid (X_a.out.below S)
    replace X_b := Lib.hid (X_b.out.below S)
    replace R_a := Lib.hid (R_a.out.below S)
    replace R_b := Lib.hid (R_b.out.below S)
    clear hb S
    go_wp2
    go_ret
    exact ⟨rfl, B.out⟩
  · clear L HD SM HE
    go_enter Tryd.func22, Tryd.ntmps22
    go_wp2_with fail
    refine (HA.out _ HT.out).mono ?_
    rintro r w1 ⟨a_a, n_a, k_a, rfl, hv, hb⟩
    have S : Below w.heap.size w w1 := hb
    have B := Lib.hid S
    have R_a := Lib.hid (rd_of (d := D_a) hv F_a.out)
    clear hb S hv
    go_wp2_with fail
    refine (HB.out _ (HT.out.below (by have := B.out; have := B.out.size; go_grown))).mono ?_
    rintro r w2 ⟨a_b, n_b, k_b, rfl, hv, hb⟩
    have S : Below w1.heap.size w1 w2 := bl_thru (by go_grown) (Nat.le_refl _) hb
    replace B := Lib.hid (bl_thru B.out (Nat.le_refl _) S)
    have X_a := Lib.hid ((Box.new w1 _ _ _ _).below hb)
    replace R_a := Lib.hid (R_a.out.below S)
    have R_b := Lib.hid (rd_of (d := D_b) hv F_b.out)
    clear hb S hv
    go_wp2_with fail
    refine (sumLives_any _ (HT.out.below (by have := B.out; have := B.out.size; go_grown))).mono ?_
    rintro r w3 ⟨rfl, hb⟩
    have S : Below w2.heap.size w2 w3 := bl_thru (by go_grown) (Nat.le_refl _) hb
    replace B := Lib.hid (bl_thru B.out (Nat.le_refl _) S)
    replace X_a := Lib.hid (X_a.out.below S)
    have X_b := Lib.hid ((Box.new w2 _ _ _ _).below hb)
    replace R_a := Lib.hid (R_a.out.below S)
    replace R_b := Lib.hid (R_b.out.below S)
    clear hb S
    go_wp2_with fail
    refine (sumLives_any _ (HT.out.below B.out)).mono ?_
    rintro r w4 ⟨rfl, hb⟩
    have S : Below w3.heap.size w3 w4 := hb
    replace B := Lib.hid (bl_thru B.out (Nat.le_refl _) S)
    replace X_a := Lib.hid (X_a.out.below S)
    replace X_b := Lib.hid (X_b.out.below S)
    replace R_a := Lib.hid (R_a.out.below S)
    replace R_b := Lib.hid (R_b.out.below S)
    clear hb S
    go_wp2
    go_ret
    exact ⟨rfl, B.out⟩
  · clear L HD SM HE
    go_enter Tryd.func22, Tryd.ntmps22
    go_wp2_with fail
    refine (HA.out _ HT.out).mono ?_
    rintro r w1 ⟨a_a, n_a, k_a, rfl, hv, hb⟩
    have S : Below w.heap.size w w1 := hb
    have B := Lib.hid S
    have R_a := Lib.hid (rd_of (d := D_a) hv F_a.out)
    clear hb S hv
    go_wp2_with fail
    refine (HB.out _ (HT.out.below (by have := B.out; have := B.out.size; go_grown))).mono ?_
    rintro r w2 ⟨a_b, n_b, k_b, rfl, hv, hb⟩
    have S : Below w1.heap.size w1 w2 := bl_thru (by go_grown) (Nat.le_refl _) hb
    replace B := Lib.hid (bl_thru B.out (Nat.le_refl _) S)
    have X_a := Lib.hid ((Box.new w1 _ _ _ _).below hb)
    replace R_a := Lib.hid (R_a.out.below S)
    have R_b := Lib.hid (rd_of (d := D_b) hv F_b.out)
    clear hb S hv
    go_wp2_with fail
    refine (sumLives_any _ (HT.out.below (by have := B.out; have := B.out.size; go_grown))).mono ?_
    rintro r w3 ⟨rfl, hb⟩
    have S : Below w2.heap.size w2 w3 := bl_thru (by go_grown) (Nat.le_refl _) hb
    replace B := Lib.hid (bl_thru B.out (Nat.le_refl _) S)
    replace X_a := Lib.hid (X_a.out.below S)
    have X_b := Lib.hid ((Box.new w2 _ _ _ _).below hb)
    replace R_a := Lib.hid (R_a.out.below S)
    replace R_b := Lib.hid (R_b.out.below S)
    clear hb S
    go_wp2_with fail
    refine (sumLives_any _ (HT.out.below B.out)).mono ?_
    rintro r w4 ⟨rfl, hb⟩
    have S : Below w3.heap.size w3 w4 := hb
    replace B := Lib.hid (bl_thru B.out (Nat.le_refl _) S)
    replace X_a := Lib.hid (X_a.out.below S)
    replace X_b := Lib.hid (X_b.out.below S)
    replace R_a := Lib.hid (R_a.out.below S)
    replace R_b := Lib.hid (R_b.out.below S)
    clear hb S
    go_wp2
    go_ret
    exact ⟨rfl, B.out⟩
  · clear L HD SM HE
    go_enter Tryd.func22, Tryd.ntmps22
    go_wp2_with fail
    refine (HA.out _ HT.out).mono ?_
    rintro r w1 ⟨a_a, n_a, k_a, rfl, hv, hb⟩
    have S : Below w.heap.size w w1 := hb
    have B := Lib.hid S
    have R_a := Lib.hid (rd_of (d := D_a) hv F_a.out)
    clear hb S hv
    go_wp2_with fail
    refine (HB.out _ (HT.out.below (by have := B.out; have := B.out.size; go_grown))).mono ?_
    rintro r w2 ⟨a_b, n_b, k_b, rfl, hv, hb⟩
    have S : Below w1.heap.size w1 w2 := bl_thru (by go_grown) (Nat.le_refl _) hb
    replace B := Lib.hid (bl_thru B.out (Nat.le_refl _) S)
    have X_a := Lib.hid ((Box.new w1 _ _ _ _).below hb)
    replace R_a := Lib.hid (R_a.out.below S)
    have R_b := Lib.hid (rd_of (d := D_b) hv F_b.out)
    clear hb S hv
    go_wp2_with fail
    refine (sumLives_any _ (HT.out.below (by have := B.out; have := B.out.size; go_grown))).mono ?_
    rintro r w3 ⟨rfl, hb⟩
    have S : Below w2.heap.size w2 w3 := bl_thru (by go_grown) (Nat.le_refl _) hb
    replace B := Lib.hid (bl_thru B.out (Nat.le_refl _) S)
    replace X_a := Lib.hid (X_a.out.below S)
    have X_b := Lib.hid ((Box.new w2 _ _ _ _).below hb)
    replace R_a := Lib.hid (R_a.out.below S)
    replace R_b := Lib.hid (R_b.out.below S)
    clear hb S
    go_wp2_with fail
    refine (sumLives_any _ (HT.out.below B.out)).mono ?_
    rintro r w4 ⟨rfl, hb⟩
    have S : Below w3.heap.size w3 w4 := hb
    replace B := Lib.hid (bl_thru B.out (Nat.le_refl _) S)
    replace X_a := Lib.hid (X_a.out.below S)
    replace X_b := Lib.hid (X_b.out.below S)
    replace R_a := Lib.hid (R_a.out.below S)
    replace R_b := Lib.hid (R_b.out.below S)
    clear hb S
    go_wp2
    go_ret
    exact ⟨rfl, B.out⟩
  · have hk : knownB mode = true := by unfold knownB; rw [decide_eq_true_eq]; exact ⟨h1, h2⟩
    have HD2 := Lib.hid (HD.out rfl rfl)
    have L2 := Lib.hid (L.out rfl rfl hk)
    have hE := HE.out hk
    rw [hE] at HM
    clear L HD hk HE hE
    cases hng : D_b.neg
    · have NG := Lib.hid hng
      clear hng
      go_enter Tryd.func22, Tryd.ntmps22
      go_wp2_with fail
      refine (HA.out _ HT.out).mono ?_
      rintro r w1 ⟨a_a, n_a, k_a, rfl, hv, hb⟩
      have S : Below w.heap.size w w1 := hb
      have B := Lib.hid S
      have R_a := Lib.hid (rd_of (d := D_a) hv F_a.out)
      clear hb S hv
      go_wp2_with fail
      refine (HB.out _ (HT.out.below (by have := B.out; have := B.out.size; go_grown))).mono ?_
      rintro r w2 ⟨a_b, n_b, k_b, rfl, hv, hb⟩
      have S : Below w1.heap.size w1 w2 := bl_thru (by go_grown) (Nat.le_refl _) hb
      replace B := Lib.hid (bl_thru B.out (Nat.le_refl _) S)
      have X_a := Lib.hid ((Box.new w1 _ _ _ _).below hb)
      replace R_a := Lib.hid (R_a.out.below S)
      have R_b := Lib.hid (rd_of (d := D_b) hv F_b.out)
      clear hb S hv
      go_wp2_with fail
      refine (sumLives_any _ (HT.out.below (by have := B.out; have := B.out.size; go_grown))).mono ?_
      rintro r w3 ⟨rfl, hb⟩
      have S : Below w2.heap.size w2 w3 := bl_thru (by go_grown) (Nat.le_refl _) hb
      replace B := Lib.hid (bl_thru B.out (Nat.le_refl _) S)
      replace X_a := Lib.hid (X_a.out.below S)
      have X_b := Lib.hid ((Box.new w2 _ _ _ _).below hb)
      replace R_a := Lib.hid (R_a.out.below S)
      replace R_b := Lib.hid (R_b.out.below S)
      clear hb S
      obtain ⟨c0_b, c1_b, c2_b, d0_b, d1_b, d2_b⟩ := X_b.out.cells
      have l_b := X_b.out.lt
      go_wp2_with fail
      refine (HS1.out _ _ (HT.out.below B.out) R_b.out).mono ?_
      rintro r w4 ⟨a_t, n_t, k_t, rfl, hv, hb⟩
      have S : Below w3.heap.size w3 w4 := hb
      replace B := Lib.hid (bl_thru B.out (Nat.le_refl _) S)
      replace X_a := Lib.hid (X_a.out.below S)
      replace X_b := Lib.hid (X_b.out.below S)
      replace R_a := Lib.hid (R_a.out.below S)
      replace R_b := Lib.hid (R_b.out.below S)
      have R_t := Lib.hid (rd_of (d := D_t) hv F_t.out)
      clear hb S hv c0_b c1_b c2_b d0_b d1_b d2_b l_b
      have z4 := X_a.out.lt
      have z4b := X_b.out.lt
      have z4w := B.out.size
      obtain ⟨c0_b, c1_b, c2_b, d0_b, d1_b, d2_b⟩ := X_b.out.cells
      have l_b := X_b.out.lt
      go_wp2_with fail
      refine (HS2.out _ _ (HT.out.below (by have := B.out; have := B.out.size; go_grown)) (R_b.out.below (by go_grown))).mono ?_
      rintro r w5 ⟨a_h, n_h, k_h, rfl, hv, hb⟩
      have S : Below w4.heap.size w4 w5 := bl_thru (by go_grown) (Nat.le_refl _) hb
      replace B := Lib.hid (bl_thru B.out (Nat.le_refl _) S)
      replace X_a := Lib.hid (X_a.out.below S)
      replace X_b := Lib.hid (X_b.out.below S)
      have X_t := Lib.hid ((Box.new w4 _ _ _ _).below hb)
      replace R_a := Lib.hid (R_a.out.below S)
      replace R_b := Lib.hid (R_b.out.below S)
      replace R_t := Lib.hid (R_t.out.below S)
      have R_h := Lib.hid (rd_of (d := D_h) hv F_h.out)
      clear hb S hv c0_b c1_b c2_b d0_b d1_b d2_b l_b
      obtain ⟨c0_b, c1_b, c2_b, d0_b, d1_b, d2_b⟩ := X_b.out.cells
      have l_b := X_b.out.lt
      obtain ⟨c0_t, c1_t, c2_t, d0_t, d1_t, d2_t⟩ := X_t.out.cells
      have l_t := X_t.out.lt
      obtain ⟨c0_a, c1_a, c2_a, d0_a, d1_a, d2_a⟩ := X_a.out.cells
      have l_a := X_a.out.lt
      have hng := NG.out
      go_wp2_with fail
      clear hng
      refine (HCM.out D_h D_a _ _ _ (HT.out.below (by have := B.out; have := B.out.size; go_grown)) (R_h.out.below (by go_grown)) (R_a.out.below (by go_grown))).mono ?_
      rintro r w6 ⟨rfl, hb⟩
      have S : Below w5.heap.size w5 w6 := bl_thru (by go_grown) (Nat.le_refl _) hb
      replace B := Lib.hid (bl_thru B.out (Nat.le_refl _) S)
      replace X_a := Lib.hid (X_a.out.below S)
      replace X_b := Lib.hid (X_b.out.below S)
      replace X_t := Lib.hid (X_t.out.below S)
      replace R_a := Lib.hid (R_a.out.below S)
      replace R_b := Lib.hid (R_b.out.below S)
      replace R_t := Lib.hid (R_t.out.below S)
      clear R_h
      clear hb S c0_b c1_b c2_b d0_b d1_b d2_b l_b c0_t c1_t c2_t d0_t d1_t d2_t l_t c0_a c1_a c2_a d0_a d1_a d2_a l_a
      obtain ⟨c0_a, c1_a, c2_a, d0_a, d1_a, d2_a⟩ := X_a.out.cells
      have l_a := X_a.out.lt
      obtain ⟨c0_t, c1_t, c2_t, d0_t, d1_t, d2_t⟩ := X_t.out.cells
      have l_t := X_t.out.lt
      go_wp2_with fail
      refine (HCM.out D_a D_t _ _ _ (HT.out.below B.out) R_a.out R_t.out).mono ?_
      rintro r w7 ⟨rfl, hb⟩
      have S : Below w6.heap.size w6 w7 := hb
      replace B := Lib.hid (bl_thru B.out (Nat.le_refl _) S)
      replace X_a := Lib.hid (X_a.out.below S)
      replace X_b := Lib.hid (X_b.out.below S)
      clear X_t
      replace R_a := Lib.hid (R_a.out.below S)
      replace R_b := Lib.hid (R_b.out.below S)
      clear R_t
      clear hb S c0_a c1_a c2_a d0_a d1_a d2_a l_a c0_t c1_t c2_t d0_t d1_t d2_t l_t
      have L3 := Lib.hid (L2.out D_h D_t (Or.inl ⟨rfl, rfl, NG.out⟩))
      clear L2
      generalize cmp D_h D_a = K1 at *
      generalize cmp D_a D_t = K2 at *
      have hK : 0 < K1 ∨ (K1 ≤ 0 ∧ (0 < K2 ∨ K2 ≤ 0)) := by omega
      rcases hK with k1 | ⟨k1, k2 | k2⟩
      · go_wp2_with (go_at_call 31; refine (ok_new4 _ _ _ _  _ _ rfl).mono ?_; rintro e w' ⟨rfl, rfl⟩)
        go_ret
        exact ⟨rfl, (by have := B.out; have := B.out.size; go_grown)⟩
      · go_wp2_with (go_at_call 31; refine (ok_new4 _ _ _ _  _ _ rfl).mono ?_; rintro e w' ⟨rfl, rfl⟩)
        go_ret
        exact ⟨rfl, (by have := B.out; have := B.out.size; go_grown)⟩
      · obtain ⟨rfl, rfl, hs⟩ := L3.out k1 k2
        have SM2 := Lib.hid (SM.out hs)
        clear hs SM L3
        go_wp2_with (go_at_call 31; refine (ok_new4 _ _ _ _  _ _ rfl).mono ?_; rintro e w' ⟨rfl, rfl⟩)
        refine (HM.out _ (HT.out.below (by have := B.out; have := B.out.size; go_grown))).mono ?_
        rintro r w8 ⟨rfl, hb⟩
        have S : Below w7.heap.size w7 w8 := bl_thru (by go_grown) (Nat.le_refl _) hb
        replace B := Lib.hid (bl_thru B.out (Nat.le_refl _) S)
        replace X_a := Lib.hid (X_a.out.below S)
        replace X_b := Lib.hid (X_b.out.below S)
        replace R_a := Lib.hid (R_a.out.below S)
        replace R_b := Lib.hid (R_b.out.below S)
        clear hb S
        go_wp2_with fail
        refine (HP.out _ (HT.out.below B.out)).mono ?_
        rintro r w9 ⟨a_c, n_c, k_c, rfl, hv, hb⟩
        have S : Below w8.heap.size w8 w9 := hb
        replace B := Lib.hid (bl_thru B.out (Nat.le_refl _) S)
        replace X_a := Lib.hid (X_a.out.below S)
        replace X_b := Lib.hid (X_b.out.below S)
        replace R_a := Lib.hid (R_a.out.below S)
        replace R_b := Lib.hid (R_b.out.below S)
        have R_c := Lib.hid (rd_of (d := D_c) hv F_c.out)
        clear hb S hv
        obtain ⟨c0_a, c1_a, c2_a, d0_a, d1_a, d2_a⟩ := X_a.out.cells
        have l_a := X_a.out.lt
        obtain ⟨c0_b, c1_b, c2_b, d0_b, d1_b, d2_b⟩ := X_b.out.cells
        have l_b := X_b.out.lt
        go_wp2_with fail
        refine (HD2.out _ _ _ (HT.out.below (by have := B.out; have := B.out.size; go_grown)) (R_a.out.below (by go_grown)) (R_b.out.below (by go_grown))).mono ?_
        rintro r w10 ⟨a_d, n_d, k_d, rfl, hv, hb⟩
        have S : Below w9.heap.size w9 w10 := bl_thru (by go_grown) (Nat.le_refl _) hb
        replace B := Lib.hid (bl_thru B.out (Nat.le_refl _) S)
        clear X_a
        clear X_b
        have X_c := Lib.hid ((Box.new w9 _ _ _ _).below hb)
        clear R_a
        clear R_b
        replace R_c := Lib.hid (R_c.out.below S)
        have R_d := Lib.hid (rd_of (d := D_d) hv F_d.out)
        clear hb S hv c0_a c1_a c2_a d0_a d1_a d2_a l_a c0_b c1_b c2_b d0_b d1_b d2_b l_b
        obtain ⟨c0_c, c1_c, c2_c, d0_c, d1_c, d2_c⟩ := X_c.out.cells
        have l_c := X_c.out.lt
        go_wp2_with (go_at_call 31; refine (ok_new2 _ _  _ _ (by simp)).mono ?_; rintro e w' ⟨rfl, rfl⟩)
        refine (SM2.out _ _ _ (R_c.out.below (by go_grown)).dv (R_d.out.below (by go_grown)).dv).mono ?_
        rintro r w11 ⟨rfl, hb⟩
        have S : Below w10.heap.size w10 w11 := bl_thru (by go_grown) (Nat.le_refl _) hb
        replace B := Lib.hid (bl_thru B.out (Nat.le_refl _) S)
        clear X_c
        clear R_c
        clear R_d
        clear hb S c0_c c1_c c2_c d0_c d1_c d2_c l_c
        go_wp2
        go_ret
        exact ⟨rfl, B.out⟩
    · have NG := Lib.hid hng
      clear hng
      go_enter Tryd.func22, Tryd.ntmps22
      go_wp2_with fail
      refine (HA.out _ HT.out).mono ?_
      rintro r w1 ⟨a_a, n_a, k_a, rfl, hv, hb⟩
      have S : Below w.heap.size w w1 := hb
      have B := Lib.hid S
      have R_a := Lib.hid (rd_of (d := D_a) hv F_a.out)
      clear hb S hv
      go_wp2_with fail
      refine (HB.out _ (HT.out.below (by have := B.out; have := B.out.size; go_grown))).mono ?_
      rintro r w2 ⟨a_b, n_b, k_b, rfl, hv, hb⟩
      have S : Below w1.heap.size w1 w2 := bl_thru (by go_grown) (Nat.le_refl _) hb
      replace B := Lib.hid (bl_thru B.out (Nat.le_refl _) S)
      have X_a := Lib.hid ((Box.new w1 _ _ _ _).below hb)
      replace R_a := Lib.hid (R_a.out.below S)
      have R_b := Lib.hid (rd_of (d := D_b) hv F_b.out)
      clear hb S hv
      go_wp2_with fail
      refine (sumLives_any _ (HT.out.below (by have := B.out; have := B.out.size; go_grown))).mono ?_
      rintro r w3 ⟨rfl, hb⟩
      have S : Below w2.heap.size w2 w3 := bl_thru (by go_grown) (Nat.le_refl _) hb
      replace B := Lib.hid (bl_thru B.out (Nat.le_refl _) S)
      replace X_a := Lib.hid (X_a.out.below S)
      have X_b := Lib.hid ((Box.new w2 _ _ _ _).below hb)
      replace R_a := Lib.hid (R_a.out.below S)
      replace R_b := Lib.hid (R_b.out.below S)
      clear hb S
      obtain ⟨c0_b, c1_b, c2_b, d0_b, d1_b, d2_b⟩ := X_b.out.cells
      have l_b := X_b.out.lt
      go_wp2_with fail
      refine (HS1.out _ _ (HT.out.below B.out) R_b.out).mono ?_
      rintro r w4 ⟨a_t, n_t, k_t, rfl, hv, hb⟩
      have S : Below w3.heap.size w3 w4 := hb
      replace B := Lib.hid (bl_thru B.out (Nat.le_refl _) S)
      replace X_a := Lib.hid (X_a.out.below S)
      replace X_b := Lib.hid (X_b.out.below S)
      replace R_a := Lib.hid (R_a.out.below S)
      replace R_b := Lib.hid (R_b.out.below S)
      have R_t := Lib.hid (rd_of (d := D_t) hv F_t.out)
      clear hb S hv c0_b c1_b c2_b d0_b d1_b d2_b l_b
      have z4 := X_a.out.lt
      have z4b := X_b.out.lt
      have z4w := B.out.size
      obtain ⟨c0_b, c1_b, c2_b, d0_b, d1_b, d2_b⟩ := X_b.out.cells
      have l_b := X_b.out.lt
      go_wp2_with fail
      refine (HS2.out _ _ (HT.out.below (by have := B.out; have := B.out.size; go_grown)) (R_b.out.below (by go_grown))).mono ?_
      rintro r w5 ⟨a_h, n_h, k_h, rfl, hv, hb⟩
      have S : Below w4.heap.size w4 w5 := bl_thru (by go_grown) (Nat.le_refl _) hb
      replace B := Lib.hid (bl_thru B.out (Nat.le_refl _) S)
      replace X_a := Lib.hid (X_a.out.below S)
      replace X_b := Lib.hid (X_b.out.below S)
      have X_t := Lib.hid ((Box.new w4 _ _ _ _).below hb)
      replace R_a := Lib.hid (R_a.out.below S)
      replace R_b := Lib.hid (R_b.out.below S)
      replace R_t := Lib.hid (R_t.out.below S)
      have R_h := Lib.hid (rd_of (d := D_h) hv F_h.out)
      clear hb S hv c0_b c1_b c2_b d0_b d1_b d2_b l_b
      obtain ⟨c0_b, c1_b, c2_b, d0_b, d1_b, d2_b⟩ := X_b.out.cells
      have l_b := X_b.out.lt
      obtain ⟨c0_t, c1_t, c2_t, d0_t, d1_t, d2_t⟩ := X_t.out.cells
      have l_t := X_t.out.lt
      obtain ⟨c0_a, c1_a, c2_a, d0_a, d1_a, d2_a⟩ := X_a.out.cells
      have l_a := X_a.out.lt
      have hng := NG.out
      go_wp2_with fail
      clear hng
      obtain ⟨W, hW⟩ : ∃ W, W = (((w5.setCell ⟨w4.heap.size, 0, none⟩ (.bool D_h.neg)).setCell ⟨w4.heap.size, 1, none⟩ (.slice a_h n_h k_h)).setCell ⟨w4.heap.size, 2, none⟩ (.int .i64 D_h.e)).alloc (.cells #[.bool D_t.neg, .slice a_t n_t k_t, .int .i64 D_t.e] 25) := ⟨_, rfl⟩
      have hsz : (((w5.setCell ⟨w4.heap.size, 0, none⟩ (.bool D_h.neg)).setCell ⟨w4.heap.size, 1, none⟩ (.slice a_h n_h k_h)).setCell ⟨w4.heap.size, 2, none⟩ (.int .i64 D_h.e)).heap.size = w5.heap.size := by simp [World.setCell]
      have BW : Hid (Below w.heap.size w W) := by rw [hW]; exact Lib.hid ((bl_set3 B.out z4w _ _ _).alloc (by rw [hsz]; exact B.out.size) _)
      have XW_a : Hid (Box W w1.heap.size 25 (.bool D_a.neg) (.slice a_a n_a k_a) (.int .i64 D_a.e)) := by rw [hW]; exact Lib.hid ((((X_a.out.set (by omega) _).set (by omega) _).set (by omega) _).alloc _)
      have XW_b : Hid (Box W w2.heap.size 25 (.bool D_b.neg) (.slice a_b n_b k_b) (.int .i64 D_b.e)) := by rw [hW]; exact Lib.hid ((((X_b.out.set (by omega) _).set (by omega) _).set (by omega) _).alloc _)
      have XW_h : Hid (Box W w4.heap.size 25 (.bool D_h.neg) (.slice a_h n_h k_h) (.int .i64 D_h.e)) := by rw [hW]; exact Lib.hid ((X_t.out.set3 _ _ _).alloc _)
      have RW_a : Hid (RD W (.agg #[.bool D_a.neg, .slice a_a n_a k_a, .int .i64 D_a.e]) 0 D_a) := by rw [hW]; exact Lib.hid (rd_of (d := D_a) (((nv_of_rd R_a.out).setD X_t.out).alloc _) F_a.out)
      have RW_b : Hid (RD W (.agg #[.bool D_b.neg, .slice a_b n_b k_b, .int .i64 D_b.e]) 0 D_b) := by rw [hW]; exact Lib.hid (rd_of (d := D_b) (((nv_of_rd R_b.out).setD X_t.out).alloc _) F_b.out)
      have RW_t : Hid (RD W (.agg #[.bool D_t.neg, .slice a_t n_t k_t, .int .i64 D_t.e]) 0 D_t) := by rw [hW]; exact Lib.hid (rd_of (d := D_t) (((nv_of_rd R_t.out).setD X_t.out).alloc _) F_t.out)
      have RW_h : Hid (RD W (.agg #[.bool D_h.neg, .slice a_h n_h k_h, .int .i64 D_h.e]) 0 D_h) := by rw [hW]; exact Lib.hid (rd_of (d := D_h) (((nv_of_rd R_h.out).setD X_t.out).alloc _) F_h.out)
      rw [← hW]
      clear hW hsz X_a X_b X_t R_a R_b R_t R_h B c0_b c1_b c2_b d0_b d1_b d2_b l_b c0_t c1_t c2_t d0_t d1_t d2_t l_t c0_a c1_a c2_a d0_a d1_a d2_a l_a
      have B := BW
      have X_a := XW_a
      have X_b := XW_b
      have X_h := XW_h
      have R_a := RW_a
      have R_b := RW_b
      have R_t := RW_t
      have R_h := RW_h
      clear BW XW_a XW_b XW_h RW_a RW_b RW_t RW_h
      refine (HCM.out D_t D_a _ _ _ (HT.out.below B.out) R_t.out R_a.out).mono ?_
      rintro r w6 ⟨rfl, hb⟩
      have S : Below W.heap.size W w6 := hb
      replace B := Lib.hid (bl_thru B.out (Nat.le_refl _) S)
      replace X_a := Lib.hid (X_a.out.below S)
      replace X_b := Lib.hid (X_b.out.below S)
      replace X_h := Lib.hid (X_h.out.below S)
      replace R_a := Lib.hid (R_a.out.below S)
      replace R_b := Lib.hid (R_b.out.below S)
      clear R_t
      replace R_h := Lib.hid (R_h.out.below S)
      clear hb S
      obtain ⟨c0_a, c1_a, c2_a, d0_a, d1_a, d2_a⟩ := X_a.out.cells
      have l_a := X_a.out.lt
      obtain ⟨c0_h, c1_h, c2_h, d0_h, d1_h, d2_h⟩ := X_h.out.cells
      have l_h := X_h.out.lt
      go_wp2_with fail
      refine (HCM.out D_a D_h _ _ _ (HT.out.below B.out) R_a.out R_h.out).mono ?_
      rintro r w7 ⟨rfl, hb⟩
      have S : Below w6.heap.size w6 w7 := hb
      replace B := Lib.hid (bl_thru B.out (Nat.le_refl _) S)
      replace X_a := Lib.hid (X_a.out.below S)
      replace X_b := Lib.hid (X_b.out.below S)
      clear X_h
      replace R_a := Lib.hid (R_a.out.below S)
      replace R_b := Lib.hid (R_b.out.below S)
      clear R_h
      clear hb S c0_a c1_a c2_a d0_a d1_a d2_a l_a c0_h c1_h c2_h d0_h d1_h d2_h l_h
      have L3 := Lib.hid (L2.out D_t D_h (Or.inr ⟨rfl, rfl, NG.out⟩))
      clear L2
      generalize cmp D_t D_a = K1 at *
      generalize cmp D_a D_h = K2 at *
      have hK : 0 < K1 ∨ (K1 ≤ 0 ∧ (0 < K2 ∨ K2 ≤ 0)) := by omega
      rcases hK with k1 | ⟨k1, k2 | k2⟩
      · go_wp2_with (go_at_call 31; refine (ok_new4 _ _ _ _  _ _ rfl).mono ?_; rintro e w' ⟨rfl, rfl⟩)
        go_ret
        exact ⟨rfl, (by have := B.out; have := B.out.size; go_grown)⟩
      · go_wp2_with (go_at_call 31; refine (ok_new4 _ _ _ _  _ _ rfl).mono ?_; rintro e w' ⟨rfl, rfl⟩)
        go_ret
        exact ⟨rfl, (by have := B.out; have := B.out.size; go_grown)⟩
      · obtain ⟨rfl, rfl, hs⟩ := L3.out k1 k2
        have SM2 := Lib.hid (SM.out hs)
        clear hs SM L3
        go_wp2_with (go_at_call 31; refine (ok_new4 _ _ _ _  _ _ rfl).mono ?_; rintro e w' ⟨rfl, rfl⟩)
        refine (HM.out _ (HT.out.below (by have := B.out; have := B.out.size; go_grown))).mono ?_
        rintro r w8 ⟨rfl, hb⟩
        have S : Below w7.heap.size w7 w8 := bl_thru (by go_grown) (Nat.le_refl _) hb
        replace B := Lib.hid (bl_thru B.out (Nat.le_refl _) S)
        replace X_a := Lib.hid (X_a.out.below S)
        replace X_b := Lib.hid (X_b.out.below S)
        replace R_a := Lib.hid (R_a.out.below S)
        replace R_b := Lib.hid (R_b.out.below S)
        clear hb S
        go_wp2_with fail
        refine (HP.out _ (HT.out.below B.out)).mono ?_
        rintro r w9 ⟨a_c, n_c, k_c, rfl, hv, hb⟩
        have S : Below w8.heap.size w8 w9 := hb
        replace B := Lib.hid (bl_thru B.out (Nat.le_refl _) S)
        replace X_a := Lib.hid (X_a.out.below S)
        replace X_b := Lib.hid (X_b.out.below S)
        replace R_a := Lib.hid (R_a.out.below S)
        replace R_b := Lib.hid (R_b.out.below S)
        have R_c := Lib.hid (rd_of (d := D_c) hv F_c.out)
        clear hb S hv
        obtain ⟨c0_a, c1_a, c2_a, d0_a, d1_a, d2_a⟩ := X_a.out.cells
        have l_a := X_a.out.lt
        obtain ⟨c0_b, c1_b, c2_b, d0_b, d1_b, d2_b⟩ := X_b.out.cells
        have l_b := X_b.out.lt
        go_wp2_with fail
        refine (HD2.out _ _ _ (HT.out.below (by have := B.out; have := B.out.size; go_grown)) (R_a.out.below (by go_grown)) (R_b.out.below (by go_grown))).mono ?_
        rintro r w10 ⟨a_d, n_d, k_d, rfl, hv, hb⟩
        have S : Below w9.heap.size w9 w10 := bl_thru (by go_grown) (Nat.le_refl _) hb
        replace B := Lib.hid (bl_thru B.out (Nat.le_refl _) S)
        clear X_a
        clear X_b
        have X_c := Lib.hid ((Box.new w9 _ _ _ _).below hb)
        clear R_a
        clear R_b
        replace R_c := Lib.hid (R_c.out.below S)
        have R_d := Lib.hid (rd_of (d := D_d) hv F_d.out)
        clear hb S hv c0_a c1_a c2_a d0_a d1_a d2_a l_a c0_b c1_b c2_b d0_b d1_b d2_b l_b
        obtain ⟨c0_c, c1_c, c2_c, d0_c, d1_c, d2_c⟩ := X_c.out.cells
        have l_c := X_c.out.lt
        go_wp2_with (go_at_call 31; refine (ok_new2 _ _  _ _ (by simp)).mono ?_; rintro e w' ⟨rfl, rfl⟩)
        refine (SM2.out _ _ _ (R_c.out.below (by go_grown)).dv (R_d.out.below (by go_grown)).dv).mono ?_
        rintro r w11 ⟨rfl, hb⟩
        have S : Below w10.heap.size w10 w11 := bl_thru (by go_grown) (Nat.le_refl _) hb
        replace B := Lib.hid (bl_thru B.out (Nat.le_refl _) S)
        clear X_c
        clear R_c
        clear R_d
        clear hb S c0_c c1_c c2_c d0_c d1_c d2_c l_c
        go_wp2
        go_ret
        exact ⟨rfl, B.out⟩
end Go.Proofs.YtdknfdncgmeimaaDoor
