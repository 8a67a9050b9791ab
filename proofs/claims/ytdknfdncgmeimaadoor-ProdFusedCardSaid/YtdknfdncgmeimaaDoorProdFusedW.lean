/-
  THE WALK of the law ProdFused.
-/
import Derived.Test.YtdknfdncgmeimaaDoorPe
import Derived.Test.YtdknfdncgmeimaaDoorPo
set_option linter.unusedVariables false
set_option linter.unusedSimpArgs false
namespace Go.Proofs.YtdknfdncgmeimaaDoor
open Go.RowKit Nt Fm Fl

theorem okf3 {a b c : Int} (h : ok3 a b c = true) : a = 0 ∧ b = 0 ∧ c = 0 := by
  unfold ok3 at h; simp [and_assoc] at h; exact h
theorem okf2 {a b : Int} (h : ok2 a b = true) : a = 0 ∧ b = 0 := by
  unfold ok2 at h; simp at h; exact h
theorem adEf_0 {mode : Int} (h : adE mode = 0) : knownB mode = true := by
  unfold adE at h; cases hk : knownB mode
  · rw [hk] at h; exact absurd h (by decide)
  · rfl
theorem okf_no {a : Int} (h : (!ok3 a a a) = true) : ok1 a = false := by
  unfold ok3 at h; unfold ok1; simpa using h
theorem fm_one_all {x z : Int} (mode : Int) (x0 : 0 ≤ x) (x1 : x ≤ 18446744073709551615) (z0 : 0 ≤ z) (z1 : z ≤ 18446744073709551615) : fmV x 4607182418800017408 z mode = adV x z mode ∧ fmC x 4607182418800017408 z mode = adC x z mode := by
  obtain ⟨a, b⟩ := fm_one mode x0 x1 z0 z1
  unfold fmV fmC adV adC; rw [a, b]; exact ⟨rfl, rfl⟩
theorem ulV_bd (x : Int) : -1074 ≤ ulV x ∧ ulV x ≤ 1000 := by
  have := fexp_bd x
  unfold ulV ulE; split <;> omega
theorem prodFused_a {x y mode : Int} (x0 : 0 ≤ x) (x1 : x ≤ 18446744073709551615) (y0 : 0 ≤ y) (y1 : y ≤ 18446744073709551615) (h' : (!ok3 (adE mode) (adE mode) (adE mode)) = false) :
    adE mode = 0 ∧ fmC x y 0 mode = muC x y mode ∧ (fmV x y 0 mode = muV x y mode ∨ (fcls (fmV x y 0 mode) = 1 ∧ fcls (muV x y mode) = 1)) ∧
    (ok2 (ofE x) (ofE y) = true → -1074 ≤ ulV x + ulV y → fabs (muV x y mode) < 9218868437227405311 → fmC x y (fneg (muV x y mode)) mode = false) := by
  have h : ok3 (adE mode) (adE mode) (adE mode) = true := by simpa using h'
  have h0 := (okf3 h).1
  have hk := adEf_0 h0
  rw [(muV_yes hk).1, (muV_yes hk).2.1, (fmV_yes hk).1, (fmV_yes hk).2.1, (fmV_yes (z := fneg (muV0 x y mode)) hk).2.1]
  obtain ⟨a, b⟩ := fm_zero mode x0 x1 y0 y1
  refine ⟨h0, b, a, fun k1 k2 k3 => ?_⟩
  obtain ⟨c, d⟩ := okf2 k1
  have hv : ∀ v, ofE v = 0 → fabs v < 9218868437227405312 ∧ ulV v = ulE v := by
    intro v hv
    unfold ofE at hv
    cases hh : hasV v
    · rw [hh] at hv; exact absurd hv (by decide)
    · have hh' := hh
      unfold hasV at hh
      exact ⟨by simpa using hh, by unfold ulV; rw [hh']; rfl⟩
  rw [(hv x c).2, (hv y d).2] at k2
  exact fm_rest mode x0 x1 y0 y1 (hv x c).1 (hv y d).1 k2 k3

set_option maxRecDepth 100000 in
set_option maxHeartbeats 8000000 in
theorem walkProdFused (x : Int) (x0 : 0 ≤ x) (x1 : x ≤ 18446744073709551615) (y : Int) (y0 : 0 ≤ y) (y1 : y ≤ 18446744073709551615) (z : Int) (z0 : 0 ≤ z) (z1 : z ≤ 18446744073709551615) (mode : Int) (mode0 : -9223372036854775808 ≤ mode) (mode1 : mode ≤ 9223372036854775807) (w : World) (hT : Tab w) :
    Calls Tryd.prog 18 #[.int .u64 x, .int .u64 y, .int .u64 z, .int .i64 mode] w fun e w' => e = .returned (.bool true) ∧ Below w.heap.size w w' := by
  obtain ⟨e1, e2⟩ := fm_one_all (x := x) (z := z) mode x0 x1 z0 z1
  have L := Lib.hid (fun h => prodFused_a (mode := mode) x0 x1 y0 y1 h)
  obtain ⟨a0, a1⟩ := muV_bd x y mode
  obtain ⟨f0, f1⟩ := fmV_bd x y 0 mode (by decide) (by decide)
  obtain ⟨n0, n1⟩ := fneg_bd a0 a1
  have o0 : (0 : Int) ≤ 4607182418800017408 := by decide
  have o1 : (4607182418800017408 : Int) ≤ 18446744073709551615 := by decide
  have p0 : (0 : Int) ≤ 0 := by decide
  have p1 : (0 : Int) ≤ 18446744073709551615 := by decide
  obtain ⟨u0, u1⟩ := ulV_bd x
  obtain ⟨v0, v1⟩ := ulV_bd y
  have HT := Lib.hid hT
  clear hT
  have B : Hid (Below w.heap.size w w) := Lib.hid (Below.refl w.heap.size w)
  go_enter Tryd.func18, Tryd.ntmps18
  go_wp2_with (first
    | (go_at_call 44; (refine (class_any _ (by assumption) (by assumption) _).mono ?_); rintro e w' ⟨rfl, rfl⟩)
    | (go_at_call 46; (refine (neg_any _ (by assumption) (by assumption) _).mono ?_); rintro e w' ⟨rfl, rfl⟩)
    | (go_at_call 57; (refine (abs_any _ (by assumption) (by assumption) _).mono ?_); rintro e w' ⟨rfl, rfl⟩)
    | (go_at_call 53; (refine (pmul_any _ _ _ (by assumption) (by assumption) (by assumption) (by assumption) _ (HT.out.below (by have := B.out; have := B.out.size; go_grown))).mono ?_); rintro r w1 ⟨rfl, hb⟩; replace B : Hid (Below w.heap.size w w1) := Lib.hid (bl_thru (by have := B.out; have := B.out.size; go_grown) (Nat.le_refl _) hb); clear hb)
    | (go_at_call 55; (refine (pfma_any _ _ _ _ (by assumption) (by assumption) (by assumption) (by assumption) (by assumption) (by assumption) _ (HT.out.below (by have := B.out; have := B.out.size; go_grown))).mono ?_); rintro r w1 ⟨rfl, hb⟩; replace B : Hid (Below w.heap.size w w1) := Lib.hid (bl_thru (by have := B.out; have := B.out.size; go_grown) (Nat.le_refl _) hb); clear hb)
    | (go_at_call 42; (refine (sadd_any _ _ _ (by assumption) (by assumption) (by assumption) (by assumption) _ (HT.out.below (by have := B.out; have := B.out.size; go_grown))).mono ?_); rintro r w1 ⟨rfl, hb⟩; replace B : Hid (Below w.heap.size w w1) := Lib.hid (bl_thru (by have := B.out; have := B.out.size; go_grown) (Nat.le_refl _) hb); clear hb)
    | (go_at_call 56; (refine (ulp_any _ (by assumption) (by assumption) _).mono ?_); rintro e w' ⟨rfl, rfl⟩)
    | (go_at_call 54; (refine (prodLives_any _ (HT.out.below (by have := B.out; have := B.out.size; go_grown))).mono ?_); rintro r w1 ⟨rfl, hb⟩; replace B : Hid (Below w.heap.size w w1) := Lib.hid (bl_thru (by have := B.out; have := B.out.size; go_grown) (Nat.le_refl _) hb); clear hb)
    | (go_at_call 31; first | ((with_reducible refine (ok_new3 _ _ _ _ _ (by simp)).mono ?_); rintro e w' ⟨rfl, rfl⟩) | ((with_reducible refine (ok_new2 _ _ _ _ (by simp)).mono ?_); rintro e w' ⟨rfl, rfl⟩) | ((with_reducible refine (ok_new1 _ _ _ (by simp)).mono ?_); rintro e w' ⟨rfl, rfl⟩)))
  all_goals (go_ret; refine ⟨?_, by have := B.out; have := B.out.size; go_grown⟩)
  all_goals (clear HT B)
  all_goals first
    | exact rfl
    | (have := okf_no (by assumption); refine ret_bool ?_; simp_all)
    | (obtain ⟨k0, k1, k2, k3⟩ := L.out (by assumption); exfalso; rcases k2 with k2 | ⟨k2, k2'⟩ <;> simp_all; done)
    | (obtain ⟨k0, k1, k2, k3⟩ := L.out (by assumption); have := k3 (by assumption) (by omega) (by omega); first | (exfalso; simp_all; done) | (refine ret_bool ?_; simp_all))
    | trace_state
end Go.Proofs.YtdknfdncgmeimaaDoor
