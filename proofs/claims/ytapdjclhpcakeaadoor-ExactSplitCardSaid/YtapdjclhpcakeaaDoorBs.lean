/-
  THE WALKS of ulpkeep.bothSame (where it says true), far.
-/
import Derived.Test.YtapdjclhpcakeaaDoorXs
import Derived.Test.YtapdjclhpcakeaaDoorVl
set_option linter.unusedVariables false
set_option linter.unusedSimpArgs false
namespace Go.Proofs.YtapdjclhpcakeaaDoor
open Go.RowKit Nt Fm Fl

theorem Box.new4 (w : World) (o p q : Obj) (x y z : Value) (T : TypeId) : Box ((((w.alloc o).alloc p).alloc q).alloc (.cells #[x, y, z] T)) (w.heap.size + 1 + 1 + 1) T x y z := by
  have := Box.new3 (w.alloc o) p q x y z T
  rwa [size_alloc] at this
/-- the operation of two that fit, whose sum fits -/
theorem add_fit (v1 v2 : Value) (d1 d2 S : D) (w : World) (hT : Tab w) (h1 : RD w v1 0 d1) (h2 : RD w v2 0 d2) (hS : plus d1 d2 = S) (hf : Fit S) :
    Calls Tryd.prog 105 #[v1, v2] w (RetR w 0 S) := by
  have := add_any v1 v2 0 0 d1 d2 w hT h1 h2
  rw [hS, (opE_zero S).1, (opE_zero S).2, fitE_of hf, if_pos rfl] at this
  exact this
theorem same_self (v1 v2 : Value) (d : D) (w : World) (h1 : DV w v1 d) (h2 : DV w v2 d) :
    Calls Tryd.prog 62 #[v1, v2] w fun r w' => r = .returned (.bool true) ∧ Below w.heap.size w w' := by
  have := same_any v1 v2 d d w h1 h2
  rw [sameB_refl] at this; exact this
set_option maxRecDepth 100000 in
set_option maxHeartbeats 16000000 in
theorem bothSame_any (va vb vc vd : Value) (a b c d : D) (w : World) (hT : Tab w) (ra : RD w va 0 a) (rb : RD w vb 0 b) (rc : RD w vc 0 c) (rd : RD w vd 0 d) (hs : plus a b = plus c d) (hf : Fit (plus a b)) :
    Calls Tryd.prog 50 #[va, vb, vc, vd] w fun e w' => e = .returned (.bool true) ∧ Below w.heap.size w w' := by
  obtain ⟨D_s, hD_s⟩ : ∃ D, D = plus a b := ⟨_, rfl⟩
  obtain ⟨D_t, hD_t⟩ : ∃ D, D = plus c d := ⟨_, rfl⟩
  rw [← hD_s, ← hD_t] at hs
  rw [← hD_s] at hf
  have hf2 : Fit D_t := by rw [← hs]; exact hf
  have HA := Lib.hid (fun v1 v2 w' h0 h1 h2 => add_fit v1 v2 a b D_s w' h0 h1 h2 hD_s.symm hf)
  have HB := Lib.hid (fun v1 v2 w' h0 h1 h2 => add_fit v1 v2 c d D_t w' h0 h1 h2 hD_t.symm hf2)
  have F_s := Lib.hid hf
  have F_t := Lib.hid hf2
  have HS : Hid (∀ v1 v2 w', DV w' v1 D_s → DV w' v2 D_t → Calls Tryd.prog 62 #[v1, v2] w' fun r w'' => r = .returned (.bool true) ∧ Below w'.heap.size w' w'') := Lib.hid (fun v1 v2 w' h1 h2 => same_self v1 v2 D_s w' h1 (by rw [hs]; exact h2))
  clear hs hf hf2 hD_s hD_t
  have R_a := Lib.hid ra
  have R_b := Lib.hid rb
  have R_c := Lib.hid rc
  have R_d := Lib.hid rd
  have HT := Lib.hid hT
  clear hT
  obtain ⟨ga, aa, na, pa, xa, rfl, -⟩ := ra
  obtain ⟨gb, ab, nb, pb, xb, rfl, -⟩ := rb
  obtain ⟨gc, ac, nc, pc, xc, rfl, -⟩ := rc
  obtain ⟨gd, ad, nd, pd, xd, rfl, -⟩ := rd
  go_enter Tryd.func50, Tryd.ntmps50
  go_wp2_with fail
  refine (HA.out _ _ _ (HT.out.below (by go_grown)) (R_a.out.below (by go_grown)) (R_b.out.below (by go_grown))).mono ?_
  rintro r w1 ⟨a_s, n_s, k_s, rfl, hv, hb⟩
  have S : Below w.heap.size w w1 := bl_thru (by go_grown) (Nat.le_refl _) hb
  have B := Lib.hid S
  have X_c := Lib.hid (((Box.new3 w _ _ _ _ _ _).alloc _).below hb)
  have X_d := Lib.hid ((Box.new4 w _ _ _ _ _ _ _).below hb)
  clear R_a
  clear R_b
  replace R_c := Lib.hid (R_c.out.below S)
  replace R_d := Lib.hid (R_d.out.below S)
  have R_s := Lib.hid (rd_of (d := D_s) hv F_s.out)
  clear hb S hv
  obtain ⟨c0_c, c1_c, c2_c, d0_c, d1_c, d2_c⟩ := X_c.out.cells
  have l_c := X_c.out.lt
  obtain ⟨c0_d, c1_d, c2_d, d0_d, d1_d, d2_d⟩ := X_d.out.cells
  have l_d := X_d.out.lt
  go_wp2_with fail
  refine (HB.out _ _ _ (HT.out.below (by have := B.out; have := B.out.size; go_grown)) (R_c.out.below (by go_grown)) (R_d.out.below (by go_grown))).mono ?_
  rintro r w2 ⟨a_t, n_t, k_t, rfl, hv, hb⟩
  have S : Below w1.heap.size w1 w2 := bl_thru (by go_grown) (Nat.le_refl _) hb
  replace B := Lib.hid (bl_thru B.out (Nat.le_refl _) S)
  clear X_c
  clear X_d
  have X_s := Lib.hid ((Box.new w1 _ _ _ _).below hb)
  clear R_c
  clear R_d
  replace R_s := Lib.hid (R_s.out.below S)
  have R_t := Lib.hid (rd_of (d := D_t) hv F_t.out)
  clear hb S hv c0_c c1_c c2_c d0_c d1_c d2_c l_c c0_d c1_d c2_d d0_d d1_d d2_d l_d
  obtain ⟨c0_s, c1_s, c2_s, d0_s, d1_s, d2_s⟩ := X_s.out.cells
  have l_s := X_s.out.lt
  go_wp2_with (go_at_call 28; refine (ok_new2 _ _  _ _ (by simp)).mono ?_; rintro e w' ⟨rfl, rfl⟩)
  refine (HS.out _ _ _ (R_s.out.below (by go_grown)).dv (R_t.out.below (by go_grown)).dv).mono ?_
  rintro r w3 ⟨rfl, hb⟩
  have S : Below w2.heap.size w2 w3 := bl_thru (by go_grown) (Nat.le_refl _) hb
  replace B := Lib.hid (bl_thru B.out (Nat.le_refl _) S)
  clear X_s
  clear R_s
  clear R_t
  clear hb S c0_s c1_s c2_s d0_s d1_s d2_s l_s
  go_wp2
  go_ret
  exact ⟨rfl, B.out⟩
/-- is one of them far? -/
def farB (l : List Int) : Bool := l.any fun x => decide (1923 ≤ fexp x)
theorem far_take (l : List Int) (k : Nat) (h : k < l.length) (hk : farB (l.take k) = false) : farB (l.take (k + 1)) = decide (1923 ≤ fexp l[k]) := by
  unfold farB at *
  rw [List.take_succ_eq_append_getElem h, List.any_append, hk]; simp
theorem far_yes (l : List Int) (k : Nat) (h : k < l.length) (hk : 1923 ≤ fexp l[k]) : farB l = true := by
  unfold farB
  rw [List.any_eq_true]; exact ⟨_, List.getElem_mem h, by simpa using hk⟩
theorem far_exp {x : Int} (h0 : 0 ≤ x) (h1 : x ≤ 18446744073709551615) : IntKind.u64.wrap (x * 2) / 9007199254740992 = fexp x := by
  unfold fexp IntKind.wrap; simp [IntKind.bits, IntKind.signed]; omega
set_option maxHeartbeats 2000000 in
theorem far_any (v : Value) (l : List Int) (w : World) (hv : LU w v l) :
    Calls Tryd.prog 56 #[v] w fun e w' => e = .returned (.bool (farB l)) ∧ w = w' := by
  obtain ⟨hu, ao, cap, rfl, hcap, hmx, hc⟩ := hv
  unfold maxLen at hmx
  have HU := Lib.hid hu
  have HC := Lib.hid hc
  clear hu hc
  go_enter Tryd.func56, Tryd.ntmps56
  go_wp2
  go_loop [7] (fun i => ∃ k : Nat, k ≤ l.length ∧ i = .int .i64 k ∧ Hid (farB (l.take k) = false)) (fun i => l.length - (intOf i).toNat)
  case atStart => exact ⟨0, Nat.zero_le _, rfl, Lib.hid (by simp [farB])⟩
  case round =>
    obtain ⟨k, hk, rfl, HF⟩ := hrel
    by_cases hlt : k < l.length
    · obtain ⟨b, off, rfl, hbw, hc⟩ : ∃ b off, ao = some ⟨b, off, none⟩ ∧ b < w.heap.size ∧ w.cell? ⟨b, off + k, none⟩ = some (.int .u64 l[k]) := by
        rcases HC.out with h | ⟨b, off, h1, h2, h3⟩
        · omega
        · refine ⟨b, off, h1, h2, ?_⟩
          have := h3 k hlt
          rw [show l.getD k 0 = l[k] by simp [List.getD, hlt]] at this; exact this
      obtain ⟨x0, x1⟩ := HU.out _ (List.getElem_mem hlt)
      have hfe := far_exp x0 x1
      have hts := far_take l k hlt HF.out
      have hye := far_yes l k hlt
      generalize l[k] = x at *
      have kb : (k : Int) < (l.length : Int) := by omega
      by_cases hz : 1923 ≤ fexp x
      · have HZ := Lib.hid (hye hz)
        clear hye hts
        go_wp2
        go_ret
        exact ⟨by rw [HZ.out]; rfl, rfl⟩
      · rw [decide_eq_false hz] at hts
        have HT := Lib.hid hts
        clear hye hts
        go_wp2
        go_round
        case rel => exact ⟨k + 1, by omega, by go_num, HT⟩
        case measure => simp [intOf]; omega
    · have hk2 : k = l.length := by omega
      have ht := HF.out
      rw [hk2, List.take_length] at ht
      have HT := Lib.hid ht
      clear hk2 ht HF
      go_wp2
      go_ret
      exact ⟨by rw [HT.out]; rfl, rfl⟩
end Go.Proofs.YtapdjclhpcakeaaDoor
