/-
  THE WALK of the law ProdOrder.
-/
import Derived.Test.YtdknfdncgmeimaaDoorPe
set_option linter.unusedVariables false
set_option linter.unusedSimpArgs false
namespace Go.Proofs.YtdknfdncgmeimaaDoor
open Go.RowKit Nt Fm Fl

theorem okp5 {a b c d e : Int} (h : ok5 a b c d e = true) : a = 0 ∧ b = 0 ∧ c = 0 ∧ d = 0 ∧ e = 0 := by
  unfold ok5 at h; simp [and_assoc] at h; exact h
theorem okp2 {a b : Int} (h : ok2 a b = true) : a = 0 ∧ b = 0 := by
  unfold ok2 at h; simp at h; exact h
theorem adEp_0 {mode : Int} (h : adE mode = 0) : knownB mode = true := by
  unfold adE at h; cases hk : knownB mode
  · rw [hk] at h; exact absurd h (by decide)
  · rfl
theorem prodOrder_a {x y z mode : Int} (x0 : 0 ≤ x) (x1 : x ≤ 18446744073709551615) (y0 : 0 ≤ y) (y1 : y ≤ 18446744073709551615) (z0 : 0 ≤ z) (z1 : z ≤ 18446744073709551615)
    (h1 : ok5 (frerr x) (frerr y) (frerr z) (adE mode) (adE mode) = true) (h2 : frank x ≤ frank y) (h3 : 0 ≤ frank z) (h4 : ok2 (frerr (muV x z mode)) (frerr (muV y z mode)) = true) : frank (muV x z mode) ≤ frank (muV y z mode) := by
  obtain ⟨a, b, c, d, -⟩ := okp5 h1
  have hk := adEp_0 d
  rw [(muV_yes hk).1, (muV_yes hk).1] at h4 ⊢
  obtain ⟨k1, k2⟩ := okp2 h4
  exact mu_mono mode x0 x1 y0 y1 z0 z1 a b c h2 h3 k1 k2

set_option maxRecDepth 100000 in
set_option maxHeartbeats 8000000 in
theorem walkProdOrder (x : Int) (x0 : 0 ≤ x) (x1 : x ≤ 18446744073709551615) (y : Int) (y0 : 0 ≤ y) (y1 : y ≤ 18446744073709551615) (z : Int) (z0 : 0 ≤ z) (z1 : z ≤ 18446744073709551615) (mode : Int) (mode0 : -9223372036854775808 ≤ mode) (mode1 : mode ≤ 9223372036854775807) (w : World) (hT : Tab w) :
    Calls Tryd.prog 20 #[.int .u64 x, .int .u64 y, .int .u64 z, .int .i64 mode] w fun e w' => e = .returned (.bool true) ∧ Below w.heap.size w w' := by
  have L := Lib.hid (fun h1 h2 h3 h4 => prodOrder_a (mode := mode) x0 x1 y0 y1 z0 z1 h1 h2 h3 h4)
  obtain ⟨a0, a1⟩ := muV_bd x z mode
  obtain ⟨b0, b1⟩ := muV_bd y z mode
  have HT := Lib.hid hT
  clear hT
  have B : Hid (Below w.heap.size w w) := Lib.hid (Below.refl w.heap.size w)
  go_enter Tryd.func20, Tryd.ntmps20
  go_wp2_with (first
    | (go_at_call 47; (refine (rank_any _ (by assumption) (by assumption) _).mono ?_); rintro e w' ⟨rfl, rfl⟩)
    | (go_at_call 53; (refine (pmul_any _ _ _ (by assumption) (by assumption) (by assumption) (by assumption) _ (HT.out.below (by have := B.out; have := B.out.size; go_grown))).mono ?_); rintro r w1 ⟨rfl, hb⟩; replace B : Hid (Below w.heap.size w w1) := Lib.hid (bl_thru (by have := B.out; have := B.out.size; go_grown) (Nat.le_refl _) hb); clear hb)
    | (go_at_call 54; (refine (prodLives_any _ (HT.out.below (by have := B.out; have := B.out.size; go_grown))).mono ?_); rintro r w1 ⟨rfl, hb⟩; replace B : Hid (Below w.heap.size w w1) := Lib.hid (bl_thru (by have := B.out; have := B.out.size; go_grown) (Nat.le_refl _) hb); clear hb)
    | (go_at_call 31; first | ((with_reducible refine (ok_new5 _ _ _ _ _ _ _ (by simp)).mono ?_); rintro e w' ⟨rfl, rfl⟩) | ((with_reducible refine (ok_new2 _ _ _ _ (by simp)).mono ?_); rintro e w' ⟨rfl, rfl⟩)))
  all_goals (go_ret; refine ⟨?_, by have := B.out; have := B.out.size; go_grown⟩)
  all_goals (clear HT B)
  all_goals first
    | exact rfl
    | (have := L.out (by assumption) (by omega) (by omega) (by assumption); exfalso; omega)
    | (have := L.out (by assumption) (by omega) (by omega) (by assumption); refine ret_bool ?_; simp only [Bool.or_eq_true, decide_eq_true_eq]; omega)
end Go.Proofs.YtdknfdncgmeimaaDoor
