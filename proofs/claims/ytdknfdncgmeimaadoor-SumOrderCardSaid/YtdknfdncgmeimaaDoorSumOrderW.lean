/-
  THE WALK of the law SumOrder.
-/
import Derived.Test.YtdknfdncgmeimaaDoorSo
import Derived.Test.YtdknfdncgmeimaaDoorSa
set_option linter.unusedVariables false
set_option linter.unusedSimpArgs false
namespace Go.Proofs.YtdknfdncgmeimaaDoor
open Go.RowKit Nt Fm Fl

theorem ret_bool {a b : Bool} (h : a = b) : Ending.returned (.bool a) = .returned (.bool b) := by rw [h]
theorem adE_0 {mode : Int} (h : adE mode = 0) : knownB mode = true := by
  unfold adE at h; cases hk : knownB mode
  · rw [hk] at h; exact absurd h (by decide)
  · rfl
theorem adV_k {x y mode : Int} (h : knownB mode = true) : adV x y mode = allV [x, y] mode ∧ adC x y mode = allC [x, y] := by
  unfold adV adC; rw [h]; exact ⟨rfl, rfl⟩
theorem adV_bd {x y mode : Int} (x0 : 0 ≤ x) (x1 : x ≤ 18446744073709551615) (y0 : 0 ≤ y) (y1 : y ≤ 18446744073709551615) : 0 ≤ adV x y mode ∧ adV x y mode ≤ 18446744073709551615 := by
  unfold adV; split
  · exact allV_bd _ (by simp; omega) _
  · omega
theorem ok4_0 {a b c d : Int} (h : ok4 a b c d = true) : a = 0 ∧ b = 0 ∧ c = 0 ∧ d = 0 := by
  unfold ok4 at h; simp [and_assoc] at h; exact h
theorem ok2_0 {a b : Int} (h : ok2 a b = true) : a = 0 ∧ b = 0 := by
  unfold ok2 at h; simp at h; exact h
theorem sumOrder_a {x y z mode : Int} (x0 : 0 ≤ x) (x1 : x ≤ 18446744073709551615) (y0 : 0 ≤ y) (y1 : y ≤ 18446744073709551615) (z0 : 0 ≤ z) (z1 : z ≤ 18446744073709551615)
    (h1 : ok4 (frerr x) (frerr y) (adE mode) (adE mode) = true) (h2 : frank x ≤ frank y) :
    (ok2 (frerr (adV x z mode)) (frerr (adV y z mode)) = true → frank (adV x z mode) ≤ frank (adV y z mode)) ∧
    (ok2 (frerr (adV x z mode)) (frerr z) = true → 0 ≤ frank z → frank x ≤ frank (adV x z mode)) := by
  obtain ⟨a, b, c, -⟩ := ok4_0 h1
  have hk := adE_0 c
  rw [(adV_k hk).1, (adV_k hk).1]
  obtain ⟨l1, l2⟩ := sumOrder_law mode x0 x1 y0 y1 z0 z1 a b h2
  exact ⟨fun h => l1 (ok2_0 h).1 (ok2_0 h).2, fun h => l2 (ok2_0 h).1 (ok2_0 h).2⟩

set_option maxRecDepth 100000 in
set_option maxHeartbeats 4000000 in
theorem walkSumOrder (x : Int) (x0 : 0 ≤ x) (x1 : x ≤ 18446744073709551615) (y : Int) (y0 : 0 ≤ y) (y1 : y ≤ 18446744073709551615) (z : Int) (z0 : 0 ≤ z) (z1 : z ≤ 18446744073709551615) (mode : Int) (m0 : -9223372036854775808 ≤ mode) (m1 : mode ≤ 9223372036854775807) (w : World) (hT : Tab w) :
    Calls Tryd.prog 12 #[.int .u64 x, .int .u64 y, .int .u64 z, .int .i64 mode] w fun e w' => e = .returned (.bool true) ∧ Below w.heap.size w w' := by
  have h1 := fun w' h => sadd_any x z mode x0 x1 z0 z1 w' h
  have h2 := fun w' h => sadd_any y z mode y0 y1 z0 z1 w' h
  have L := Lib.hid (fun h1 h2 => sumOrder_a (mode := mode) x0 x1 y0 y1 z0 z1 h1 h2)
  obtain ⟨a0, a1⟩ := adV_bd (mode := mode) x0 x1 z0 z1
  obtain ⟨b0, b1⟩ := adV_bd (mode := mode) y0 y1 z0 z1
  have r1 := frank_bd x
  have r2 := frank_bd y
  have r3 := frank_bd z
  have r4 := frank_bd (adV x z mode)
  have r5 := frank_bd (adV y z mode)
  generalize adV x z mode = a at *
  generalize adV y z mode = b at *
  have RX := Lib.hid (fun w' => rank_any x x0 x1 w')
  have RY := Lib.hid (fun w' => rank_any y y0 y1 w')
  have RZ := Lib.hid (fun w' => rank_any z z0 z1 w')
  have RA := Lib.hid (fun w' => rank_any a a0 a1 w')
  have RB := Lib.hid (fun w' => rank_any b b0 b1 w')
  generalize frank x = fx at *
  generalize frank y = fy at *
  generalize frank z = fz at *
  generalize frank a = fa at *
  generalize frank b = fb at *
  have H1 := Lib.hid h1
  have H2 := Lib.hid h2
  have HT := Lib.hid hT
  clear h1 h2 hT
  have B := Lib.hid (Below.refl w.heap.size w)
  go_enter Tryd.func12, Tryd.ntmps12
  go_wp2_with (first
    | (go_at_call 47; first | (with_reducible refine (RX.out _).mono ?_; rintro e w' ⟨rfl, rfl⟩) | (with_reducible refine (RY.out _).mono ?_; rintro e w' ⟨rfl, rfl⟩) | (with_reducible refine (RZ.out _).mono ?_; rintro e w' ⟨rfl, rfl⟩) | (with_reducible refine (RA.out _).mono ?_; rintro e w' ⟨rfl, rfl⟩) | (with_reducible refine (RB.out _).mono ?_; rintro e w' ⟨rfl, rfl⟩))
    | (go_at_call 31; first | (with_reducible refine (ok_new4 _ _ _ _ _ _ (by simp)).mono ?_; rintro e w' ⟨rfl, rfl⟩) | (with_reducible refine (ok_new2 _ _ _ _ (by simp)).mono ?_; rintro e w' ⟨rfl, rfl⟩))
    | (go_at_call 42; first | ((with_reducible refine (H1.out _ (HT.out.below B.out)).mono ?_); rintro r w1 ⟨rfl, hb⟩; replace B : Hid (Below w.heap.size w w1) := Lib.hid (bl_thru B.out (Nat.le_refl _) hb); clear hb) | ((with_reducible refine (H2.out _ (HT.out.below B.out)).mono ?_); rintro r w1 ⟨rfl, hb⟩; replace B : Hid (Below w.heap.size w w1) := Lib.hid (bl_thru B.out (Nat.le_refl _) hb); clear hb))
    | (go_at_call 43; (refine (sumLives_any _ (HT.out.below (by have := B.out; have := B.out.size; go_grown))).mono ?_); rintro r w1 ⟨rfl, hb⟩; replace B : Hid (Below w.heap.size w w1) := Lib.hid (bl_thru (by have := B.out; have := B.out.size; go_grown) (Nat.le_refl _) hb); clear hb))
  all_goals (go_ret; refine ⟨?_, by have := B.out; have := B.out.size; go_grown⟩)
  all_goals first
    | exact rfl
    | (exfalso; have := (L.out (by assumption) (by assumption)).1 (by assumption); omega)
    | (have := (L.out (by assumption) (by assumption)).2 (by assumption) (by assumption); refine ret_bool ?_; simp only [Bool.or_eq_true, decide_eq_true_eq]; omega)
end Go.Proofs.YtdknfdncgmeimaaDoor
