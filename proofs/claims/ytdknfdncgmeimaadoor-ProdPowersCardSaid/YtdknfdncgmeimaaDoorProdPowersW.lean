/-
  THE WALK of the law ProdPowers.
-/
import Derived.Test.YtdknfdncgmeimaaDoorPe
import Derived.Test.YtdknfdncgmeimaaDoorPo
set_option linter.unusedVariables false
set_option linter.unusedSimpArgs false
namespace Go.Proofs.YtdknfdncgmeimaaDoor
open Go.RowKit Nt Fm Fl

theorem make_any (s : Bool) (e f : Int) (h0 : 0 ≤ e) (h1 : e ≤ 2047) (h2 : 0 ≤ f) (h3 : f ≤ 4503599627370495) (w : World) :
    Calls Tryd.prog 59 #[.bool s, .int .i64 e, .int .u64 f] w fun r w' => r = .returned (.tuple #[.int .u64 (fmk s e f), .int .i64 0]) ∧ w = w' := by
  have e1 := or_frac e f h0 (by omega) h2 (by omega)
  have e2 := or_sign (e * 4503599627370496 + f) (by omega) (by omega)
  cases s
  all_goals
    go_enter Tryd.func59, Tryd.ntmps59
    go_wp2
    go_ret2
    exact ⟨by simp [fmk], rfl⟩
theorem okw3 : ok3 0 0 0 = true := by decide
theorem cls3 {x : Int} (x0 : 0 ≤ x) (x1 : x ≤ 18446744073709551615) (h : fcls x = 3) : 1 ≤ fexp x ∧ fexp x ≤ 2046 := by
  rcases cls_ways x0 x1 with ⟨-, -, c⟩ | ⟨-, -, c⟩ | ⟨-, -, c⟩ | ⟨-, -, c⟩ | ⟨a, b, -⟩
  all_goals omega
theorem prodPowers_a {x k mode : Int} (x0 : 0 ≤ x) (x1 : x ≤ 18446744073709551615) (hc : 1 ≤ fexp x ∧ fexp x ≤ 2046) (k0 : -1022 ≤ k) (k1 : k ≤ 1023) (m0 : 0 ≤ mode) (m1 : mode ≤ 4) (h3 : 1 ≤ fexp x + k) (h4 : fexp x + k ≤ 2046) :
    muV x (fmk false (1023 + k) 0) mode = fmk (fng x) (fexp x + k) (ffr x) ∧ muC x (fmk false (1023 + k) 0) mode = false ∧ adE mode = 0 := by
  have hk : knownB mode = true := by unfold knownB; rw [decide_eq_true_eq]; exact ⟨m0, m1⟩
  obtain ⟨h1, h2⟩ := hc
  obtain ⟨a, b⟩ := mu_power mode x0 x1 h1 h2 k0 k1 h3 h4
  rw [(muV_yes hk).1, (muV_yes hk).2.1, (muV_yes (x := x) (y := x) hk).2.2, a, b]; exact ⟨rfl, rfl, rfl⟩

set_option maxRecDepth 100000 in
set_option maxHeartbeats 8000000 in
theorem walkProdPowers (x : Int) (x0 : 0 ≤ x) (x1 : x ≤ 18446744073709551615) (k : Int) (k0 : -9223372036854775808 ≤ k) (k1 : k ≤ 9223372036854775807) (mode : Int) (mode0 : -9223372036854775808 ≤ mode) (mode1 : mode ≤ 9223372036854775807) (w : World) (hT : Tab w) :
    Calls Tryd.prog 19 #[.int .u64 x, .int .i64 k, .int .i64 mode] w fun e w' => e = .returned (.bool true) ∧ Below w.heap.size w w' := by
  have L := Lib.hid (fun hc k0 k1 m0 m1 h3 h4 => prodPowers_a (k := k) (mode := mode) x0 x1 hc k0 k1 m0 m1 h3 h4)
  have C3 := Lib.hid (fun h => cls3 x0 x1 h)
  obtain ⟨b0, b1⟩ := fexp_bd x
  obtain ⟨g0, g1⟩ := ffr_bd x
  have q3 := okw3
  have HT := Lib.hid hT
  clear hT
  have B : Hid (Below w.heap.size w w) := Lib.hid (Below.refl w.heap.size w)
  go_enter Tryd.func19, Tryd.ntmps19
  go_wp2_with (first
    | (go_at_call 44; (refine (class_any _ (by assumption) (by assumption) _).mono ?_); rintro e w' ⟨rfl, rfl⟩)
    | (go_at_call 58; (refine (parts_any _ (by assumption) (by assumption) _).mono ?_); rintro e w' ⟨rfl, rfl⟩)
    | (go_at_call 59; (refine (make_any _ _ _ (by omega) (by omega) (by omega) (by omega) _).mono ?_); rintro e w' ⟨rfl, rfl⟩)
    | (go_at_call 53; (refine (pmul_any _ _ _ x0 x1 (fmk_facts (by omega) (by omega) (by omega) (by omega)).2.2.1 (fmk_facts (by omega) (by omega) (by omega) (by omega)).2.2.2 _ (HT.out.below (by have := B.out; have := B.out.size; go_grown))).mono ?_); rintro r w1 ⟨rfl, hb⟩; replace B : Hid (Below w.heap.size w w1) := Lib.hid (bl_thru (by have := B.out; have := B.out.size; go_grown) (Nat.le_refl _) hb); clear hb)
    | (go_at_call 54; (refine (prodLives_any _ (HT.out.below (by have := B.out; have := B.out.size; go_grown))).mono ?_); rintro r w1 ⟨rfl, hb⟩; replace B : Hid (Below w.heap.size w w1) := Lib.hid (bl_thru (by have := B.out; have := B.out.size; go_grown) (Nat.le_refl _) hb); clear hb)
    | (go_at_call 31; first | ((with_reducible refine (ok_new3 _ _ _ _ _ (by simp)).mono ?_); rintro e w' ⟨rfl, rfl⟩)))
  all_goals (go_ret; refine ⟨?_, by have := B.out; have := B.out.size; go_grown⟩)
  all_goals (clear HT B)
  all_goals first
    | exact rfl
    | (obtain ⟨k1, k2, k3⟩ := L.out (C3.out (by assumption)) (by omega) (by omega) (by omega) (by omega) (by omega) (by omega); first | (exfalso; simp_all; done) | (refine ret_bool ?_; simp_all))
    | trace_state
end Go.Proofs.YtdknfdncgmeimaaDoor
