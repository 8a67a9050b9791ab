/-
  THE WALK of the law GrowSides; the side of a point, plain.
-/
import Derived.Test.YtapdjclhpcakeaaDoorGt
import Derived.Test.YtapdjclhpcakeaaDoorBy
set_option linter.unusedVariables false
set_option linter.unusedSimpArgs false
namespace Go.Proofs.YtapdjclhpcakeaaDoor
open Go.RowKit Nt Fm Fl

def detI (ax ay bx by' cx cy : Int) : Int := (ax - cx) * (by' - cy) - (ay - cy) * (bx - cx)
theorem det_swap (ax ay bx by' cx cy : Int) : detI bx by' ax ay cx cy = -detI ax ay bx by' cx cy := by
  unfold detI; rw [Int.mul_comm (bx - cx), Int.mul_comm (by' - cy)]; omega
theorem det_move (ax ay bx by' cx cy : Int) : detI bx by' cx cy ax ay = detI ax ay bx by' cx cy := by
  unfold detI
  simp only [Int.sub_mul, Int.mul_sub]
  have h1 := Int.mul_comm bx cy; have h2 := Int.mul_comm bx ay; have h3 := Int.mul_comm ax cy; have h4 := Int.mul_comm ax ay; have h5 := Int.mul_comm by' cx; have h6 := Int.mul_comm by' ax; have h7 := Int.mul_comm ay cx; have h8 := Int.mul_comm cx cy
  omega
theorem det_same (ax ay cx cy : Int) : detI ax ay ax ay cx cy = 0 := by
  unfold detI; rw [Int.mul_comm (ay - cy)]; omega
theorem det_neg (ax ay bx by' cx cy : Int) : detI (-ax) (-ay) (-bx) (-by') (-cx) (-cy) = detI ax ay bx by' cx cy := by
  unfold detI
  have e : ∀ a b c d : Int, (-a - -b) * (-c - -d) = (a - b) * (c - d) := fun a b c d => by
    rw [show -a - -b = -(a - b) by omega, show -c - -d = -(c - d) by omega, Int.neg_mul_neg]
  rw [e, e]
theorem suD_vl {x y : Int} (x0 : 0 ≤ x) (x1 : x ≤ 18446744073709551615) (y0 : 0 ≤ y) (y1 : y ≤ 18446744073709551615) (hx : hasV x = true) (hy : hasV y = true) : (suD x y).vl 1074 = smag x - smag y ∧ 0 ≤ (suD x y).e + ((1074 : Nat) : Int) := by
  have fx : fabs x < 9218868437227405312 := by unfold hasV at hx; simpa using hx
  have fy : fabs y < 9218868437227405312 := by unfold hasV at hy; simpa using hy
  have e1 := valD_e x0 x1
  have e2 := valD_e y0 y1
  have e3 : 0 ≤ (opp (valD y)).e + ((1074 : Nat) : Int) := e2
  unfold suD
  rw [plus_vl _ _ _ e1 e3, opp_vl, valD_sm x0 x1 fx, valD_sm y0 y1 fy]
  exact ⟨by omega, plus_eT e1 e3⟩
theorem tu_val {ax ay bx by' cx cy : Int} (h : ∀ x ∈ [ax, ay, bx, by', cx, cy], 0 ≤ x ∧ x ≤ 18446744073709551615) (he : tuE ax ay bx by' cx cy = 0) :
    tuV ax ay bx by' cx cy = (detI (smag ax) (smag ay) (smag bx) (smag by') (smag cx) (smag cy)).sign := by
  have hn : nonL [ax, ay, bx, by', cx, cy] = false := by
    unfold tuE at he
    cases hn : nonL [ax, ay, bx, by', cx, cy]
    · rfl
    · rw [hn, if_pos rfl] at he; omega
  have hv : ∀ x ∈ [ax, ay, bx, by', cx, cy], hasV x = true := by
    intro x hx
    unfold nonL at hn
    rw [List.any_eq_false] at hn
    have := hn x hx
    unfold noB at this; simpa using this
  have b := fun x hx => h x hx
  obtain ⟨u1, w1⟩ := suD_vl (b ax (by simp)).1 (b ax (by simp)).2 (b cx (by simp)).1 (b cx (by simp)).2 (hv ax (by simp)) (hv cx (by simp))
  obtain ⟨u2, w2⟩ := suD_vl (b by' (by simp)).1 (b by' (by simp)).2 (b cy (by simp)).1 (b cy (by simp)).2 (hv by' (by simp)) (hv cy (by simp))
  obtain ⟨u3, w3⟩ := suD_vl (b ay (by simp)).1 (b ay (by simp)).2 (b cy (by simp)).1 (b cy (by simp)).2 (hv ay (by simp)) (hv cy (by simp))
  obtain ⟨u4, w4⟩ := suD_vl (b bx (by simp)).1 (b bx (by simp)).2 (b cx (by simp)).1 (b cx (by simp)).2 (hv bx (by simp)) (hv cx (by simp))
  unfold tuV
  rw [if_pos he, cmp_vl _ _ (1074 + 1074) (times_eT w1 w2) (times_eT w3 w4), times_vl _ _ _ _ w1 w2, times_vl _ _ _ _ w3 w4, u1, u2, u3, u4]
  rfl
theorem tuV_bd (ax ay bx by' cx cy : Int) : -1 ≤ tuV ax ay bx by' cx cy ∧ tuV ax ay bx by' cx cy ≤ 1 := by
  unfold tuV; split
  · unfold cmp sign; split
    · omega
    · split <;> omega
  · omega
theorem tuE_of {a b c d e f a' b' c' d' e' f' : Int} (h1 : nonL [a, b, c, d, e, f] = nonL [a', b', c', d', e', f']) (h2 : offL [a, b, c, d, e, f] = offL [a', b', c', d', e', f']) : tuE a b c d e f = tuE a' b' c' d' e' f' := by unfold tuE; rw [h1, h2]
theorem any6 (p : Int → Bool) (a b c d e f : Int) : [a, b, c, d, e, f].any p = (p a || (p b || (p c || (p d || (p e || p f))))) := by simp
theorem tuE_swap (ax ay bx by' cx cy : Int) : tuE bx by' ax ay cx cy = tuE ax ay bx by' cx cy := by
  refine tuE_of ?_ ?_
  · unfold nonL; rw [any6, any6]; ac_rfl
  · unfold offL; rw [any6, any6]; ac_rfl
theorem tuE_move (ax ay bx by' cx cy : Int) : tuE bx by' cx cy ax ay = tuE ax ay bx by' cx cy := by
  refine tuE_of ?_ ?_
  · unfold nonL; rw [any6, any6]; ac_rfl
  · unfold offL; rw [any6, any6]; ac_rfl
theorem tuE_zero {a b c d e f : Int} (h : tuE a b c d e f = 0) : nonL [a, b, c, d, e, f] = false ∧ offL [a, b, c, d, e, f] = false := by
  unfold tuE at h
  cases h1 : nonL [a, b, c, d, e, f]
  · rw [h1, if_neg (by decide)] at h
    cases h2 : offL [a, b, c, d, e, f]
    · exact ⟨rfl, rfl⟩
    · rw [h2, if_pos rfl] at h; omega
  · rw [h1, if_pos rfl] at h; omega
theorem tuE_same {ax ay bx by' cx cy : Int} (h : tuE ax ay bx by' cx cy = 0) : tuE ax ay ax ay cx cy = 0 := by
  obtain ⟨h1, h2⟩ := tuE_zero h
  unfold nonL at h1
  unfold offL at h2
  rw [any6] at h1 h2
  simp only [Bool.or_eq_false_iff] at h1 h2
  obtain ⟨a1, a2, a3, a4, a5, a6⟩ := h1
  obtain ⟨b1, b2, b3, b4, b5, b6⟩ := h2
  unfold tuE nonL offL
  rw [any6, any6, a1, a2, a5, a6, b1, b2, b5, b6]; rfl
theorem noB_fneg (x : Int) : noB (fneg x) = noB x := by unfold noB hasV; rw [fabs_fneg]
theorem offB_fneg (x : Int) : offB (fneg x) = offB x := by unfold offB; rw [fabs_fneg]
theorem tuE_neg (ax ay bx by' cx cy : Int) : tuE (fneg ax) (fneg ay) (fneg bx) (fneg by') (fneg cx) (fneg cy) = tuE ax ay bx by' cx cy := by
  refine tuE_of ?_ ?_
  · unfold nonL; rw [any6, any6]; simp only [noB_fneg]
  · unfold offL; rw [any6, any6]; simp only [offB_fneg]
/-- THE LAW -/
theorem sides_law {ax ay bx by' cx cy : Int} (h : ∀ x ∈ [ax, ay, bx, by', cx, cy], 0 ≤ x ∧ x ≤ 18446744073709551615) (he : tuE ax ay bx by' cx cy = 0) :
    tuV bx by' ax ay cx cy = -tuV ax ay bx by' cx cy ∧ tuV bx by' cx cy ax ay = tuV ax ay bx by' cx cy ∧ tuV ax ay ax ay cx cy = 0 ∧ tuV (fneg ax) (fneg ay) (fneg bx) (fneg by') (fneg cx) (fneg cy) = tuV ax ay bx by' cx cy := by
  have hb : ∀ x ∈ [ax, ay, bx, by', cx, cy], 0 ≤ fneg x ∧ fneg x ≤ 18446744073709551615 := fun x hx => fneg_bd (h x hx).1 (h x hx).2
  have m : ∀ x, x = ax ∨ x = ay ∨ x = bx ∨ x = by' ∨ x = cx ∨ x = cy → x ∈ [ax, ay, bx, by', cx, cy] := fun x hx => by simpa using hx
  rw [tu_val h he, tu_val (ax := bx) (ay := by') (bx := ax) (by' := ay) (fun x hx => h x (m x (by simp at hx; omega))) (by rw [tuE_swap]; exact he),
    tu_val (ax := bx) (ay := by') (bx := cx) (by' := cy) (cx := ax) (cy := ay) (fun x hx => h x (m x (by simp at hx; omega))) (by rw [tuE_move]; exact he),
    tu_val (bx := ax) (by' := ay) (fun x hx => h x (m x (by simp at hx; omega))) (tuE_same he),
    tu_val (ax := fneg ax) (fun x hx => by simp at hx; rcases hx with rfl | rfl | rfl | rfl | rfl | rfl <;> exact hb _ (by simp)) (by rw [tuE_neg]; exact he)]
  have sn := fun x (hx : x ∈ [ax, ay, bx, by', cx, cy]) => smag_fneg (h x hx).1 (h x hx).2
  rw [sn ax (by simp), sn ay (by simp), sn bx (by simp), sn by' (by simp), sn cx (by simp), sn cy (by simp)]
  rw [det_swap (smag ax) (smag ay) (smag bx) (smag by') (smag cx) (smag cy), det_move (smag ax) (smag ay) (smag bx) (smag by') (smag cx) (smag cy), det_same (smag ax) (smag ay) (smag cx) (smag cy), det_neg (smag ax) (smag ay) (smag bx) (smag by') (smag cx) (smag cy), Int.sign_neg]
  exact ⟨rfl, rfl, rfl, rfl⟩
set_option maxRecDepth 100000 in
set_option maxHeartbeats 16000000 in
theorem walkGrowSides (ax : Int) (ax0 : 0 ≤ ax) (ax1 : ax ≤ 18446744073709551615) (ay : Int) (ay0 : 0 ≤ ay) (ay1 : ay ≤ 18446744073709551615) (bx : Int) (bx0 : 0 ≤ bx) (bx1 : bx ≤ 18446744073709551615) (by' : Int) (by0 : 0 ≤ by') (by1 : by' ≤ 18446744073709551615) (cx : Int) (cx0 : 0 ≤ cx) (cx1 : cx ≤ 18446744073709551615) (cy : Int) (cy0 : 0 ≤ cy) (cy1 : cy ≤ 18446744073709551615) (w : World) (hT : Tab w) :
    Calls Tryd.prog 8 #[.int .u64 ax, .int .u64 ay, .int .u64 bx, .int .u64 by', .int .u64 cx, .int .u64 cy] w fun e w' => e = .returned (.bool true) ∧ Below w.heap.size w w' := by
  have h : ∀ x ∈ [ax, ay, bx, by', cx, cy], 0 ≤ x ∧ x ≤ 18446744073709551615 := by
    intro x hx; simp at hx; rcases hx with rfl | rfl | rfl | rfl | rfl | rfl <;> exact ⟨by assumption, by assumption⟩
  have hb : ∀ x ∈ [ax, ay, bx, by', cx, cy], 0 ≤ fneg x ∧ fneg x ≤ 18446744073709551615 := fun x hx => fneg_bd (h x hx).1 (h x hx).2
  have m : ∀ x, x = ax ∨ x = ay ∨ x = bx ∨ x = by' ∨ x = cx ∨ x = cy → x ∈ [ax, ay, bx, by', cx, cy] := fun x hx => by simpa using hx
  have h1 := fun w' h' => turn_any ax ay bx by' cx cy h w' h'
  have h2 := fun w' h' => turn_any bx by' ax ay cx cy (fun x hx => h x (m x (by simp at hx; omega))) w' h'
  have h3 := fun w' h' => turn_any bx by' cx cy ax ay (fun x hx => h x (m x (by simp at hx; omega))) w' h'
  have h4 := fun w' h' => turn_any ax ay ax ay cx cy (fun x hx => h x (m x (by simp at hx; omega))) w' h'
  have h5 := fun w' h' => turn_any (fneg ax) (fneg ay) (fneg bx) (fneg by') (fneg cx) (fneg cy) (fun x hx => by simp at hx; rcases hx with rfl | rfl | rfl | rfl | rfl | rfl <;> exact hb _ (by simp)) w' h'
  have nb := tuV_bd ax ay bx by' cx cy
  rw [tuE_swap] at h2
  rw [tuE_move] at h3
  have HT := Lib.hid hT
  have k4 := ok4_mk
  clear hT
  by_cases he : tuE ax ay bx by' cx cy = 0
  · obtain ⟨e1, e2, e3, e4⟩ := sides_law h he
    rw [he] at h1
    rw [he, e1] at h2
    rw [he, e2] at h3
    rw [tuE_same he, e3] at h4
    rw [tuE_neg, he, e4] at h5
    obtain ⟨n0, n1⟩ := nb
    generalize tuV ax ay bx by' cx cy = n at *
    have wn : IntKind.i64.wrap (-n) = -n := IntWalk.i64_in _ (by omega)
    have H1 := Lib.hid h1
    have H2 := Lib.hid h2
    have H3 := Lib.hid h3
    have H4 := Lib.hid h4
    have H5 := Lib.hid h5
    clear h hb m h1 h2 h3 h4 h5 e1 e2 e3 e4 he
    go_enter Tryd.func8, Tryd.ntmps8
    go_wp2_with fail
    refine (H1.out _ HT.out).mono ?_
    rintro r w1 ⟨rfl, hb⟩
    have B1 : Hid (Below w.heap.size w w1) := Lib.hid hb
    clear hb
    go_wp2_with fail
    refine (H2.out _ (HT.out.below B1.out)).mono ?_
    rintro r w2 ⟨rfl, hb⟩
    have B2 : Hid (Below w.heap.size w w2) := Lib.hid (bl_thru B1.out (Nat.le_refl _) hb)
    clear hb
    go_wp2_with fail
    refine (H3.out _ (HT.out.below B2.out)).mono ?_
    rintro r w3 ⟨rfl, hb⟩
    have B3 : Hid (Below w.heap.size w w3) := Lib.hid (bl_thru B2.out (Nat.le_refl _) hb)
    clear hb
    go_wp2_with fail
    refine (H4.out _ (HT.out.below B3.out)).mono ?_
    rintro r w4 ⟨rfl, hb⟩
    have B4 : Hid (Below w.heap.size w w4) := Lib.hid (bl_thru B3.out (Nat.le_refl _) hb)
    clear hb
    go_wp2_with fail
    refine (growLives_any _ (HT.out.below B4.out)).mono ?_
    rintro r w5 ⟨rfl, hb⟩
    have B5 : Hid (Below w.heap.size w w5) := Lib.hid (bl_thru B4.out (Nat.le_refl _) hb)
    clear hb
    go_wp2_with (go_at_call 29; refine (neg_any _ (by omega) (by omega) _).mono ?_; rintro e w' ⟨rfl, rfl⟩)
    refine (H5.out _ (HT.out.below B5.out)).mono ?_
    rintro r w6 ⟨rfl, hb⟩
    have B6 : Hid (Below w.heap.size w w6) := Lib.hid (bl_thru B5.out (Nat.le_refl _) hb)
    clear hb
    go_wp2_with (go_at_call 28; refine (ok_new4 _ _ _ _ _ _ rfl).mono ?_; rintro e w' ⟨rfl, rfl⟩)
    go_ret
    exact ⟨rfl, B6.out.alloc B6.out.size _⟩
  · have heb : (tuE ax ay bx by' cx cy != 0) = true := by rw [bne_iff_ne]; exact he
    have H1 := Lib.hid h1
    have H2 := Lib.hid h2
    have H3 := Lib.hid h3
    have H4 := Lib.hid h4
    generalize tuE ax ay bx by' cx cy = E at *
    generalize tuV ax ay bx by' cx cy = n at *
    clear h hb m h1 h2 h3 h4 h5 nb he
    go_enter Tryd.func8, Tryd.ntmps8
    go_wp2_with fail
    refine (H1.out _ HT.out).mono ?_
    rintro r w1 ⟨rfl, hb⟩
    have B1 : Hid (Below w.heap.size w w1) := Lib.hid hb
    clear hb
    go_wp2_with fail
    refine (H2.out _ (HT.out.below B1.out)).mono ?_
    rintro r w2 ⟨rfl, hb⟩
    have B2 : Hid (Below w.heap.size w w2) := Lib.hid (bl_thru B1.out (Nat.le_refl _) hb)
    clear hb
    go_wp2_with fail
    refine (H3.out _ (HT.out.below B2.out)).mono ?_
    rintro r w3 ⟨rfl, hb⟩
    have B3 : Hid (Below w.heap.size w w3) := Lib.hid (bl_thru B2.out (Nat.le_refl _) hb)
    clear hb
    go_wp2_with fail
    refine (H4.out _ (HT.out.below B3.out)).mono ?_
    rintro r w4 ⟨rfl, hb⟩
    have B4 : Hid (Below w.heap.size w w4) := Lib.hid (bl_thru B3.out (Nat.le_refl _) hb)
    clear hb
    go_wp2_with fail
    refine (growLives_any _ (HT.out.below B4.out)).mono ?_
    rintro r w5 ⟨rfl, hb⟩
    have B5 : Hid (Below w.heap.size w w5) := Lib.hid (bl_thru B4.out (Nat.le_refl _) hb)
    clear hb
    go_wp2_with fail
    refine (growLives_any _ (HT.out.below B5.out)).mono ?_
    rintro r w6 ⟨rfl, hb⟩
    have B6 : Hid (Below w.heap.size w w6) := Lib.hid (bl_thru B5.out (Nat.le_refl _) hb)
    clear hb
    go_wp2
    go_ret
    exact ⟨rfl, B6.out⟩
end Go.Proofs.YtapdjclhpcakeaaDoor
