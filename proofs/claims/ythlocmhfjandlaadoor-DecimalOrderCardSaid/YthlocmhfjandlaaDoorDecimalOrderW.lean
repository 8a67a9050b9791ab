/-
  THE WALK of the law DecimalOrder.
-/
import Derived.Test.YthlocmhfjandlaaDoorLk
set_option linter.unusedVariables false
set_option linter.unusedSimpArgs false
namespace Go.Proofs.YthlocmhfjandlaaDoor
open Go.RowKit Nt Fm Fl

theorem fxE_modes (x places mode : Int) (h : fxE x places mode = 0) : fxE x places 2 = 0 ∧ fxE x places 1 = 0 ∧ fxE x places 0 = 0 := by
  rcases fxE_cases x places mode with ⟨-, k⟩ | ⟨-, -, k⟩ | ⟨h1, ⟨-, p0, p1⟩, -⟩
  · omega
  · omega
  · unfold fxE
    rw [if_pos h1, if_pos h1, if_pos h1, if_pos (by omega), if_pos (by omega), if_pos (by omega)]
    exact ⟨rfl, rfl, rfl⟩
theorem fxE_hasV {x places mode : Int} (h : fxE x places mode = 0) : hasV x = true := by
  rcases fxE_cases x places mode with ⟨-, k⟩ | ⟨-, -, k⟩ | ⟨h1, -, -⟩
  · omega
  · omega
  · exact h1
theorem val_pos {x : Int} (x0 : 0 ≤ x) (h : ¬ 9223372036854775808 ≤ x) : (valD x).neg = false := by
  obtain ⟨f1, f2, f3, f4, f5⟩ := valD_facts x x0 (by omega)
  rcases f1 with h1 | h1
  · rw [h1]; rfl
  · rw [f5 (by omega)]; unfold fng; rw [decide_eq_false_iff_not]; exact h
theorem order_law {x y places mode : Int} (x0 : 0 ≤ x) (y0 : 0 ≤ y) (y1 : y ≤ 18446744073709551615) (hE : fxE x places mode = 0) (hF : fxE y places mode = 0) (hx : ¬ 9223372036854775808 ≤ x) (hy : ¬ 9223372036854775808 ≤ y) :
    (x ≤ y → ltBb (fxS y places mode) (fxS x places mode) = false) ∧ ltBb (fxS x places 0) (fxS x places 2) = false ∧ ltBb (fxS x places 1) (fxS x places 0) = false := by
  obtain ⟨e2, e1, e0⟩ := fxE_modes x places mode hE
  have key : ∀ s t, ¬ ltB s t → ltBb s t = false := by
    intro s t h
    cases hb : ltBb s t
    · rfl
    · exact absurd ((ltBb_iff s t).1 hb) h
  have sx : sgS x = [] := by unfold sgS; rw [if_neg hx]
  have sy : sgS y = [] := by unfold sgS; rw [if_neg hy]
  have ng := val_pos x0 hx
  refine ⟨fun hxy => key _ _ ?_, key _ _ ?_, key _ _ ?_⟩
  · unfold fxS
    rw [if_pos hF, if_pos hE, sx, sy, List.nil_append, List.nil_append]
    exact pt_order _ (dQ_order x0 y1 (fxE_hasV hE) (fxE_hasV hF) hxy (by omega) places mode)
  · unfold fxS
    rw [if_pos e0, if_pos e2, sx, List.nil_append, List.nil_append]
    apply pt_order
    unfold dQ; rw [ng]; exact rq_down 0
  · unfold fxS
    rw [if_pos e1, if_pos e0, sx, List.nil_append, List.nil_append]
    apply pt_order
    unfold dQ; rw [ng]; exact rq_up 0

set_option maxRecDepth 100000 in
set_option maxHeartbeats 8000000 in
theorem walkDecimalOrder (x : Int) (x0 : 0 ≤ x) (x1 : x ≤ 18446744073709551615) (y : Int) (y0 : 0 ≤ y) (y1 : y ≤ 18446744073709551615) (places : Int) (places0 : -9223372036854775808 ≤ places) (places1 : places ≤ 9223372036854775807) (mode : Int) (mode0 : -9223372036854775808 ≤ mode) (mode1 : mode ≤ 9223372036854775807) (w : World) (hT : Tab w) (hT10 : Tab10 w) :
    Calls Tryd.prog 7 #[.int .u64 x, .int .u64 y, .int .i64 places, .int .i64 mode] w fun e w' => e = .returned (.bool true) ∧ Below w.heap.size w w' := by
  have F1 := Lib.hid (fun w' h1 h2 => fixed_any x places mode x0 x1 w' h1 h2)
  have F2 := Lib.hid (fun w' h1 h2 => fixed_any y places mode y0 y1 w' h1 h2)
  have F3 := Lib.hid (fun w' h1 h2 => fixed_any x places 2 x0 x1 w' h1 h2)
  have F4 := Lib.hid (fun w' h1 h2 => fixed_any x places 1 x0 x1 w' h1 h2)
  have F5 := Lib.hid (fun w' h1 h2 => fixed_any x places 0 x0 x1 w' h1 h2)
  have OL := fun h1 h2 h3 h4 => order_law (x := x) (y := y) (places := places) (mode := mode) x0 y0 y1 h1 h2 h3 h4
  have EM := fxE_modes x places mode
  unfold RetSBE at F1 F2 F3 F4 F5
  generalize fxS x places mode = s1 at *
  generalize fxS y places mode = s2 at *
  generalize fxS x places 2 = s3 at *
  generalize fxS x places 1 = s4 at *
  generalize fxS x places 0 = s5 at *
  generalize fxC x places mode = C1 at *
  generalize fxC y places mode = C2 at *
  generalize fxC x places 2 = C3 at *
  generalize fxC x places 1 = C4 at *
  generalize fxC x places 0 = C5 at *
  generalize fxE x places mode = E1 at *
  generalize fxE y places mode = E2 at *
  generalize fxE x places 2 = E3 at *
  generalize fxE x places 1 = E4 at *
  generalize fxE x places 0 = E5 at *
  obtain ⟨S1, h1⟩ : ∃ S : ByteArray, S = ⟨s1.toArray⟩ := ⟨_, rfl⟩
  obtain ⟨S2, h2⟩ : ∃ S : ByteArray, S = ⟨s2.toArray⟩ := ⟨_, rfl⟩
  obtain ⟨S3, h3⟩ : ∃ S : ByteArray, S = ⟨s3.toArray⟩ := ⟨_, rfl⟩
  obtain ⟨S4, h4⟩ : ∃ S : ByteArray, S = ⟨s4.toArray⟩ := ⟨_, rfl⟩
  obtain ⟨S5, h5⟩ : ∃ S : ByteArray, S = ⟨s5.toArray⟩ := ⟨_, rfl⟩
  have L1 := Lib.hid (fun w' => lessText_any s2 s1 S2 S1 h2 h1 w')
  have L2 := Lib.hid (fun w' => lessText_any s5 s3 S5 S3 h5 h3 w')
  have L3 := Lib.hid (fun w' => lessText_any s4 s5 S4 S5 h4 h5 w')
  rw [← h1] at F1
  rw [← h2] at F2
  rw [← h3] at F3
  rw [← h4] at F4
  rw [← h5] at F5
  generalize ltBb s2 s1 = b1 at *
  generalize ltBb s5 s3 = b2 at *
  generalize ltBb s4 s5 = b3 at *
  have H0 := Lib.hid hT
  have H1 := Lib.hid hT10
  have B : Hid (Below w.heap.size w w) := Lib.hid (Below.refl w.heap.size w)
  clear hT hT10 h1 h2 h3 h4 h5
  by_cases hc : E1 = 0 ∧ E2 = 0 ∧ ¬ 9223372036854775808 ≤ x ∧ ¬ 9223372036854775808 ≤ y
  · obtain ⟨rfl, rfl, hx, hy⟩ := hc
    obtain ⟨k1, rfl, rfl⟩ := OL rfl rfl hx hy
    obtain ⟨rfl, rfl, rfl⟩ := EM rfl
    clear OL EM
    by_cases hxy : x ≤ y
    · have k2 := k1 hxy
      subst k2
      clear k1
      go_enter Tryd.func7, Tryd.ntmps7
      go_wp2_with (first
        | (go_at_call 24; ((with_reducible refine (F1.out _ (H0.out.below (by have := B.out; have := B.out.size; go_grown)) (H1.out.below (by have := B.out; have := B.out.size; go_grown))).mono ?_); rintro r w1 ⟨rfl, hb⟩; replace B : Hid (Below w.heap.size w w1) := Lib.hid (bl_thru (by have := B.out; have := B.out.size; go_grown) (Nat.le_refl _) hb); clear hb))
        | (go_at_call 24; ((with_reducible refine (F2.out _ (H0.out.below (by have := B.out; have := B.out.size; go_grown)) (H1.out.below (by have := B.out; have := B.out.size; go_grown))).mono ?_); rintro r w1 ⟨rfl, hb⟩; replace B : Hid (Below w.heap.size w w1) := Lib.hid (bl_thru (by have := B.out; have := B.out.size; go_grown) (Nat.le_refl _) hb); clear hb))
        | (go_at_call 24; ((with_reducible refine (F3.out _ (H0.out.below (by have := B.out; have := B.out.size; go_grown)) (H1.out.below (by have := B.out; have := B.out.size; go_grown))).mono ?_); rintro r w1 ⟨rfl, hb⟩; replace B : Hid (Below w.heap.size w w1) := Lib.hid (bl_thru (by have := B.out; have := B.out.size; go_grown) (Nat.le_refl _) hb); clear hb))
        | (go_at_call 24; ((with_reducible refine (F4.out _ (H0.out.below (by have := B.out; have := B.out.size; go_grown)) (H1.out.below (by have := B.out; have := B.out.size; go_grown))).mono ?_); rintro r w1 ⟨rfl, hb⟩; replace B : Hid (Below w.heap.size w w1) := Lib.hid (bl_thru (by have := B.out; have := B.out.size; go_grown) (Nat.le_refl _) hb); clear hb))
        | (go_at_call 24; ((with_reducible refine (F5.out _ (H0.out.below (by have := B.out; have := B.out.size; go_grown)) (H1.out.below (by have := B.out; have := B.out.size; go_grown))).mono ?_); rintro r w1 ⟨rfl, hb⟩; replace B : Hid (Below w.heap.size w w1) := Lib.hid (bl_thru (by have := B.out; have := B.out.size; go_grown) (Nat.le_refl _) hb); clear hb))
        | (go_at_call 25; (refine (decimalLives_any _ (H0.out.below (by have := B.out; have := B.out.size; go_grown)) (H1.out.below (by have := B.out; have := B.out.size; go_grown))).mono ?_); rintro r w1 ⟨rfl, hb⟩; replace B : Hid (Below w.heap.size w w1) := Lib.hid (bl_thru (by have := B.out; have := B.out.size; go_grown) (Nat.le_refl _) hb); clear hb)
        | (go_at_call 16; first | ((with_reducible refine (ok_new3 _ _ _ _ _ (by simp)).mono ?_); rintro e w' ⟨rfl, rfl⟩) | ((with_reducible refine (ok_new2 _ _ _ _ (by simp)).mono ?_); rintro e w' ⟨rfl, rfl⟩))
        | (go_at_call 26; first | ((with_reducible refine (L1.out _).mono ?_); rintro e w' ⟨rfl, rfl⟩) | ((with_reducible refine (L2.out _).mono ?_); rintro e w' ⟨rfl, rfl⟩) | ((with_reducible refine (L3.out _).mono ?_); rintro e w' ⟨rfl, rfl⟩)))
      all_goals first
        | (go_ret; refine ⟨?_, by have := B.out; have := B.out.size; go_grown⟩; simp_all [ok2, ok3]; done)
        | (exfalso; simp_all [ok2, ok3]; done)
        | (exfalso; simp_all [ok2, ok3]; omega)
        | trace_state
    · clear k1
      have hxy2 : y < x := by omega
      clear hxy
      go_enter Tryd.func7, Tryd.ntmps7
      go_wp2_with (first
        | (go_at_call 24; ((with_reducible refine (F1.out _ (H0.out.below (by have := B.out; have := B.out.size; go_grown)) (H1.out.below (by have := B.out; have := B.out.size; go_grown))).mono ?_); rintro r w1 ⟨rfl, hb⟩; replace B : Hid (Below w.heap.size w w1) := Lib.hid (bl_thru (by have := B.out; have := B.out.size; go_grown) (Nat.le_refl _) hb); clear hb))
        | (go_at_call 24; ((with_reducible refine (F2.out _ (H0.out.below (by have := B.out; have := B.out.size; go_grown)) (H1.out.below (by have := B.out; have := B.out.size; go_grown))).mono ?_); rintro r w1 ⟨rfl, hb⟩; replace B : Hid (Below w.heap.size w w1) := Lib.hid (bl_thru (by have := B.out; have := B.out.size; go_grown) (Nat.le_refl _) hb); clear hb))
        | (go_at_call 24; ((with_reducible refine (F3.out _ (H0.out.below (by have := B.out; have := B.out.size; go_grown)) (H1.out.below (by have := B.out; have := B.out.size; go_grown))).mono ?_); rintro r w1 ⟨rfl, hb⟩; replace B : Hid (Below w.heap.size w w1) := Lib.hid (bl_thru (by have := B.out; have := B.out.size; go_grown) (Nat.le_refl _) hb); clear hb))
        | (go_at_call 24; ((with_reducible refine (F4.out _ (H0.out.below (by have := B.out; have := B.out.size; go_grown)) (H1.out.below (by have := B.out; have := B.out.size; go_grown))).mono ?_); rintro r w1 ⟨rfl, hb⟩; replace B : Hid (Below w.heap.size w w1) := Lib.hid (bl_thru (by have := B.out; have := B.out.size; go_grown) (Nat.le_refl _) hb); clear hb))
        | (go_at_call 24; ((with_reducible refine (F5.out _ (H0.out.below (by have := B.out; have := B.out.size; go_grown)) (H1.out.below (by have := B.out; have := B.out.size; go_grown))).mono ?_); rintro r w1 ⟨rfl, hb⟩; replace B : Hid (Below w.heap.size w w1) := Lib.hid (bl_thru (by have := B.out; have := B.out.size; go_grown) (Nat.le_refl _) hb); clear hb))
        | (go_at_call 25; (refine (decimalLives_any _ (H0.out.below (by have := B.out; have := B.out.size; go_grown)) (H1.out.below (by have := B.out; have := B.out.size; go_grown))).mono ?_); rintro r w1 ⟨rfl, hb⟩; replace B : Hid (Below w.heap.size w w1) := Lib.hid (bl_thru (by have := B.out; have := B.out.size; go_grown) (Nat.le_refl _) hb); clear hb)
        | (go_at_call 16; first | ((with_reducible refine (ok_new3 _ _ _ _ _ (by simp)).mono ?_); rintro e w' ⟨rfl, rfl⟩) | ((with_reducible refine (ok_new2 _ _ _ _ (by simp)).mono ?_); rintro e w' ⟨rfl, rfl⟩))
        | (go_at_call 26; first | ((with_reducible refine (L1.out _).mono ?_); rintro e w' ⟨rfl, rfl⟩) | ((with_reducible refine (L2.out _).mono ?_); rintro e w' ⟨rfl, rfl⟩) | ((with_reducible refine (L3.out _).mono ?_); rintro e w' ⟨rfl, rfl⟩)))
      all_goals first
        | (go_ret; refine ⟨?_, by have := B.out; have := B.out.size; go_grown⟩; simp_all [ok2, ok3]; done)
        | (exfalso; simp_all [ok2, ok3]; done)
        | (exfalso; simp_all [ok2, ok3]; omega)
        | trace_state
  · clear OL EM
    have hcc : E1 ≠ 0 ∨ E2 ≠ 0 ∨ 9223372036854775808 ≤ x ∨ 9223372036854775808 ≤ y := by omega
    clear hc
    go_enter Tryd.func7, Tryd.ntmps7
    go_wp2_with (first
      | (go_at_call 24; ((with_reducible refine (F1.out _ (H0.out.below (by have := B.out; have := B.out.size; go_grown)) (H1.out.below (by have := B.out; have := B.out.size; go_grown))).mono ?_); rintro r w1 ⟨rfl, hb⟩; replace B : Hid (Below w.heap.size w w1) := Lib.hid (bl_thru (by have := B.out; have := B.out.size; go_grown) (Nat.le_refl _) hb); clear hb))
      | (go_at_call 24; ((with_reducible refine (F2.out _ (H0.out.below (by have := B.out; have := B.out.size; go_grown)) (H1.out.below (by have := B.out; have := B.out.size; go_grown))).mono ?_); rintro r w1 ⟨rfl, hb⟩; replace B : Hid (Below w.heap.size w w1) := Lib.hid (bl_thru (by have := B.out; have := B.out.size; go_grown) (Nat.le_refl _) hb); clear hb))
      | (go_at_call 24; ((with_reducible refine (F3.out _ (H0.out.below (by have := B.out; have := B.out.size; go_grown)) (H1.out.below (by have := B.out; have := B.out.size; go_grown))).mono ?_); rintro r w1 ⟨rfl, hb⟩; replace B : Hid (Below w.heap.size w w1) := Lib.hid (bl_thru (by have := B.out; have := B.out.size; go_grown) (Nat.le_refl _) hb); clear hb))
      | (go_at_call 24; ((with_reducible refine (F4.out _ (H0.out.below (by have := B.out; have := B.out.size; go_grown)) (H1.out.below (by have := B.out; have := B.out.size; go_grown))).mono ?_); rintro r w1 ⟨rfl, hb⟩; replace B : Hid (Below w.heap.size w w1) := Lib.hid (bl_thru (by have := B.out; have := B.out.size; go_grown) (Nat.le_refl _) hb); clear hb))
      | (go_at_call 24; ((with_reducible refine (F5.out _ (H0.out.below (by have := B.out; have := B.out.size; go_grown)) (H1.out.below (by have := B.out; have := B.out.size; go_grown))).mono ?_); rintro r w1 ⟨rfl, hb⟩; replace B : Hid (Below w.heap.size w w1) := Lib.hid (bl_thru (by have := B.out; have := B.out.size; go_grown) (Nat.le_refl _) hb); clear hb))
      | (go_at_call 25; (refine (decimalLives_any _ (H0.out.below (by have := B.out; have := B.out.size; go_grown)) (H1.out.below (by have := B.out; have := B.out.size; go_grown))).mono ?_); rintro r w1 ⟨rfl, hb⟩; replace B : Hid (Below w.heap.size w w1) := Lib.hid (bl_thru (by have := B.out; have := B.out.size; go_grown) (Nat.le_refl _) hb); clear hb)
      | (go_at_call 16; first | ((with_reducible refine (ok_new3 _ _ _ _ _ (by simp)).mono ?_); rintro e w' ⟨rfl, rfl⟩) | ((with_reducible refine (ok_new2 _ _ _ _ (by simp)).mono ?_); rintro e w' ⟨rfl, rfl⟩))
      | (go_at_call 26; first | ((with_reducible refine (L1.out _).mono ?_); rintro e w' ⟨rfl, rfl⟩) | ((with_reducible refine (L2.out _).mono ?_); rintro e w' ⟨rfl, rfl⟩) | ((with_reducible refine (L3.out _).mono ?_); rintro e w' ⟨rfl, rfl⟩)))
    all_goals first
      | (go_ret; refine ⟨?_, by have := B.out; have := B.out.size; go_grown⟩; simp_all [ok2, ok3]; done)
      | (exfalso; simp_all [ok2, ok3]; done)
      | (exfalso; simp_all [ok2, ok3]; omega)
      | trace_state
end Go.Proofs.YthlocmhfjandlaaDoor
