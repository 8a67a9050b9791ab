/-
  THE WALK of the law QuotRoot.
-/
import Derived.Test.YthoejmhpgabgdaaDoorQl
set_option linter.unusedVariables false
set_option linter.unusedSimpArgs false
namespace Go.Proofs.YthoejmhpgabgdaaDoor
open Go.RowKit Nt Fm Fl

theorem okq2 {a b : Int} (h : ok2 a b = true) : a = 0 ∧ b = 0 := by
  unfold ok2 at h; simp at h; exact h
theorem adEq_0 {mode : Int} (h : adE mode = 0) : knownB mode = true := by
  unfold adE at h; cases hk : knownB mode
  · rw [hk] at h; exact absurd h (by decide)
  · rfl
theorem okq4 {a b c d : Int} (h : ok4 a b c d = true) : a = 0 ∧ b = 0 ∧ c = 0 ∧ d = 0 := by
  unfold ok4 at h; simp [and_assoc] at h; exact h
theorem ad04r : adE 0 = 0 ∧ adE 4 = 0 := by decide
theorem quotRoot_a {x y mode : Int} (x0 : 0 ≤ x) (x1 : x ≤ 18446744073709551615) (y0 : 0 ≤ y) (y1 : y ≤ 18446744073709551615) (h : (!ok2 (adE mode) (adE mode)) = false) : adE mode = 0 ∧
    (fcls x < 4 → muC x x mode = false → fcls (muV x x mode) = 3 → sqV (muV x x mode) mode = fabs x ∧ sqC (muV x x mode) mode = false) ∧
    (frerr x = 0 → frerr y = 0 → frank x ≤ frank y → frerr (sqV x mode) = 0 → frerr (sqV y mode) = 0 → frank (sqV x mode) ≤ frank (sqV y mode)) ∧ sqV x 0 = sqV x 4 := by
  have h0 := (okq2 (by simpa using h)).1
  have hk := adEq_0 h0
  refine ⟨h0, fun h1 h2 h3 => ?_, fun h1 h2 h3 h4 h5 => ?_, sq_never x0 x1⟩
  · rw [(muV_yes hk).1] at h3 ⊢
    rw [(muV_yes hk).2.1] at h2
    rw [(sqV_yes hk).1, (sqV_yes hk).2.1]
    exact sq_square mode x0 x1 h1 h2 h3
  · rw [(sqV_yes hk).1] at h4 ⊢
    rw [(sqV_yes hk).1] at h5 ⊢
    exact sq_mono mode x0 x1 y0 y1 h1 h2 h3 h4 h5

set_option maxRecDepth 100000 in
set_option maxHeartbeats 8000000 in
theorem walkQuotRoot (x : Int) (x0 : 0 ≤ x) (x1 : x ≤ 18446744073709551615) (y : Int) (y0 : 0 ≤ y) (y1 : y ≤ 18446744073709551615) (mode : Int) (mode0 : -9223372036854775808 ≤ mode) (mode1 : mode ≤ 9223372036854775807) (w : World) (hT : Tab w) :
    Calls Tryd.prog 5 #[.int .u64 x, .int .u64 y, .int .i64 mode] w fun e w' => e = .returned (.bool true) ∧ Below w.heap.size w w' := by
  have L := Lib.hid (fun hk => quotRoot_a (mode := mode) x0 x1 y0 y1 hk)
  obtain ⟨a0, a1⟩ := muV_bd x x mode
  obtain ⟨b0, b1⟩ := sqV_bd x mode x0 x1
  obtain ⟨c0, c1⟩ := sqV_bd y mode y0 y1
  obtain ⟨d0, d1⟩ := sqV_bd (muV x x mode) mode a0 a1
  obtain ⟨z0, z4⟩ := ad04r
  have HT := Lib.hid hT
  clear hT
  have B : Hid (Below w.heap.size w w) := Lib.hid (Below.refl w.heap.size w)
  go_enter Tryd.func5, Tryd.ntmps5
  go_wp2_with (first
    | (go_at_call 24; (refine (rank_any _ (by assumption) (by assumption) _).mono ?_); rintro e w' ⟨rfl, rfl⟩)
    | (go_at_call 19; (refine (class_any _ (by assumption) (by assumption) _).mono ?_); rintro e w' ⟨rfl, rfl⟩)
    | (go_at_call 23; (refine (abs_any _ (by assumption) (by assumption) _).mono ?_); rintro e w' ⟨rfl, rfl⟩)
    | (go_at_call 21; (refine (pmul_any _ _ _ (by assumption) (by assumption) (by assumption) (by assumption) _ (HT.out.below (by have := B.out; have := B.out.size; go_grown))).mono ?_); rintro r w1 ⟨rfl, hb⟩; replace B : Hid (Below w.heap.size w w1) := Lib.hid (bl_thru (by have := B.out; have := B.out.size; go_grown) (Nat.le_refl _) hb); clear hb)
    | (go_at_call 22; (refine (qsqrt_any _ _ (by assumption) (by assumption) _ (HT.out.below (by have := B.out; have := B.out.size; go_grown))).mono ?_); rintro r w1 ⟨rfl, hb⟩; replace B : Hid (Below w.heap.size w w1) := Lib.hid (bl_thru (by have := B.out; have := B.out.size; go_grown) (Nat.le_refl _) hb); clear hb)
    | (go_at_call 17; (refine (quotLives_any _ (HT.out.below (by have := B.out; have := B.out.size; go_grown))).mono ?_); rintro r w1 ⟨rfl, hb⟩; replace B : Hid (Below w.heap.size w w1) := Lib.hid (bl_thru (by have := B.out; have := B.out.size; go_grown) (Nat.le_refl _) hb); clear hb)
    | (go_at_call 18; first | ((with_reducible refine (ok_new2 _ _ _ _ (by simp)).mono ?_); rintro e w' ⟨rfl, rfl⟩) | ((with_reducible refine (ok_new4 _ _ _ _ _ _ (by simp)).mono ?_); rintro e w' ⟨rfl, rfl⟩)))
  all_goals (go_ret; refine ⟨?_, by have := B.out; have := B.out.size; go_grown⟩)
  all_goals (clear HT B)
  all_goals first
    | exact rfl
    | (go_tidy; obtain ⟨k0, k1, k2, k3⟩ := L.out (by assumption); clear L; first | (refine ret_bool ?_; grind [ok2, ok4]) | (exfalso; grind [ok2, ok4]))
    | trace_state
end Go.Proofs.YthoejmhpgabgdaaDoor
