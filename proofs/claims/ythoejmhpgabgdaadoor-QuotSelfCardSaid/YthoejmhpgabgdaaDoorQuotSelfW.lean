/-
  THE WALK of the law QuotSelf.
-/
import Derived.Test.YthoejmhpgabgdaaDoorQl
set_option linter.unusedVariables false
set_option linter.unusedSimpArgs false
namespace Go.Proofs.YthoejmhpgabgdaaDoor
open Go.RowKit Nt Fm Fl

theorem okq2 {a b : Int} (h : ok2 a b = true) : a = 0 ∧ b = 0 := by
  unfold ok2 at h; simp at h; exact h
theorem adEq_0 {mode : Int} (h : adE mode = 0) : knownB mode = true := by
  unfold adE at h; cases hk : knownB mode
  · rw [hk] at h; exact absurd h (by decide)
  · rfl
theorem known_swapq {mode : Int} (h : knownB mode = true) : knownB (swapM mode) = true := by
  unfold knownB swapM at *; simp at *; omega
theorem quotSelf_a {x y mode : Int} (x0 : 0 ≤ x) (x1 : x ≤ 18446744073709551615) (h : (adE mode != 0) = false) (o : Int) (ho : o = swapM mode) :
    adE o = 0 ∧ adE mode = 0 ∧ dvC (fneg x) y o = dvC x y mode ∧ ((fcls (dvV x y mode) = 5 ∧ dvV (fneg x) y o = 9221120237041090560) ∨ dvV (fneg x) y o = fneg (dvV x y mode)) ∧
    dvC x 4607182418800017408 mode = false ∧ (fcls x = 5 ∨ dvV x 4607182418800017408 mode = x) ∧ ((fcls x ≠ 2 ∧ fcls x ≠ 3) ∨ (dvV x x mode = 4607182418800017408 ∧ dvC x x mode = false)) := by
  have hk := adEq_0 (by simpa using h)
  have hk2 := known_swapq hk
  rw [← ho] at hk2
  rw [(dvV_yes hk).1, (dvV_yes hk).1, (dvV_yes (x := x) (y := x) hk).1, (dvV_yes hk).2.1, (dvV_yes hk).2.1, (dvV_yes (x := x) (y := x) hk).2.1, (dvV_yes hk2).1, (dvV_yes hk2).2.1, (dvV_yes (x := x) (y := y) hk2).2.2, (dvV_yes (x := x) (y := y) hk).2.2, ho]
  obtain ⟨a, b⟩ := dv_turned (y := y) mode x0 x1
  obtain ⟨c, d⟩ := dv_one mode x0 x1
  refine ⟨rfl, rfl, a, ?_, c, d, (Classical.em (fcls x = 2 ∨ fcls x = 3)).elim (fun hc => Or.inr (dv_self mode x0 x1 hc)) (fun hc => Or.inl (by omega))⟩
  rcases b with ⟨b, b'⟩ | b
  · left; rw [b]; exact ⟨by decide, b'⟩
  · exact Or.inr b

set_option maxRecDepth 100000 in
set_option maxHeartbeats 8000000 in
theorem walkQuotSelf (x : Int) (x0 : 0 ≤ x) (x1 : x ≤ 18446744073709551615) (y : Int) (y0 : 0 ≤ y) (y1 : y ≤ 18446744073709551615) (mode : Int) (mode0 : -9223372036854775808 ≤ mode) (mode1 : mode ≤ 9223372036854775807) (w : World) (hT : Tab w) :
    Calls Tryd.prog 4 #[.int .u64 x, .int .u64 y, .int .i64 mode] w fun e w' => e = .returned (.bool true) ∧ Below w.heap.size w w' := by
  have L := Lib.hid (fun h o ho => quotSelf_a (y := y) (mode := mode) x0 x1 h o ho)
  have n01 := fneg_bd x0 x1
  obtain ⟨n0, n1⟩ := n01
  obtain ⟨a0, a1⟩ := dvV_bd x y mode
  have o0 : (0 : Int) ≤ 4607182418800017408 := by decide
  have o1 : (4607182418800017408 : Int) ≤ 18446744073709551615 := by decide
  have hm : (mode = 1) ∨ (mode = 2) ∨ (mode ≠ 1 ∧ mode ≠ 2) := by omega
  rcases hm with rfl | rfl | ⟨q1, q2⟩
  all_goals
    have HT := Lib.hid hT
    clear hT
    first
      | have L := Lib.hid (fun h => L.out h 2 (by decide))
      | have L := Lib.hid (fun h => L.out h 1 (by decide))
      | have L := Lib.hid (fun h => L.out h mode (by unfold swapM; rw [if_neg q1, if_neg q2]))
    have B : Hid (Below w.heap.size w w) := Lib.hid (Below.refl w.heap.size w)
    go_enter Tryd.func4, Tryd.ntmps4
    go_wp2_with (first
      | (go_at_call 19; (refine (class_any _ (by assumption) (by assumption) _).mono ?_); rintro e w' ⟨rfl, rfl⟩)
      | (go_at_call 20; (refine (neg_any _ (by assumption) (by assumption) _).mono ?_); rintro e w' ⟨rfl, rfl⟩)
      | (go_at_call 16; (refine (qdiv_any _ _ _ (by assumption) (by assumption) (by assumption) (by assumption) _ (HT.out.below (by have := B.out; have := B.out.size; go_grown))).mono ?_); rintro r w1 ⟨rfl, hb⟩; replace B : Hid (Below w.heap.size w w1) := Lib.hid (bl_thru (by have := B.out; have := B.out.size; go_grown) (Nat.le_refl _) hb); clear hb)
      | (go_at_call 17; (refine (quotLives_any _ (HT.out.below (by have := B.out; have := B.out.size; go_grown))).mono ?_); rintro r w1 ⟨rfl, hb⟩; replace B : Hid (Below w.heap.size w w1) := Lib.hid (bl_thru (by have := B.out; have := B.out.size; go_grown) (Nat.le_refl _) hb); clear hb)
      | (go_at_call 18; first | ((with_reducible refine (ok_new2 _ _ _ _ (by simp)).mono ?_); rintro e w' ⟨rfl, rfl⟩)))
    all_goals (go_ret; refine ⟨?_, by have := B.out; have := B.out.size; go_grown⟩)
    all_goals (clear HT B)
    all_goals first
      | exact rfl
      | (go_tidy; obtain ⟨k0, k1, k2, k3, k4, k5, k6⟩ := L.out (by assumption); clear L; first | (refine ret_bool ?_; grind [ok2]) | (exfalso; grind [ok2]))
      | trace_state
end Go.Proofs.YthoejmhpgabgdaaDoor
