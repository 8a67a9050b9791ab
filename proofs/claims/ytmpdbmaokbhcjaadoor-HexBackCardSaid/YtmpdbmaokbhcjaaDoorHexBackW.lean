/-
  THE WALK of the law HexBack.
-/
import Derived.Test.YtmpdbmaokbhcjaaDoorHg
set_option linter.unusedVariables false
set_option linter.unusedSimpArgs false
namespace Go.Proofs.YtmpdbmaokbhcjaaDoor
open Go.RowKit Nt Fm Fl

set_option maxRecDepth 100000 in
set_option maxHeartbeats 8000000 in
theorem walkHexBack (x : Int) (x0 : 0 ≤ x) (x1 : x ≤ 18446744073709551615) (mode : Int) (mode0 : -9223372036854775808 ≤ mode) (mode1 : mode ≤ 9223372036854775807) (w : World) (hT : Tab w) (hT10 : Tab10 w) :
    Calls Tryd.prog 10 #[.int .u64 x, .int .i64 mode] w fun e w' => e = .returned (.bool true) ∧ Below w.heap.size w w' := by
  have CL := Lib.hid (fun w' => class_any x x0 x1 w')
  have LV := Lib.hid (fun w' h1 h2 => hexLives_any w' h1 h2)
  have HT := Lib.hid hT
  have H10 := Lib.hid hT10
  have B : Hid (Below w.heap.size w w) := Lib.hid (Below.refl w.heap.size w)
  clear hT hT10
  by_cases hg : ¬ 4 ≤ fcls x ∧ 0 ≤ mode ∧ mode ≤ 4
  · obtain ⟨hc, m0, m1⟩ := hg
    have hx := hex_fin hc
    obtain ⟨f1, f2, f3, f4, f5⟩ := valD_facts x x0 x1
    have hb53 : blen (valD x).m ≤ 53 := blen_le_of f2
    have TX := Lib.hid (fun w' h1 h2 => htext_any x x0 x1 w' h1 h2)
    have hv : hasV x = true := by unfold hasV; rw [decide_eq_true_eq]; exact hx
    have e1 : hxT x = hxW x (valD x) (hxq (valD x)) := by unfold hxT; rw [if_neg (by omega), if_neg (by omega)]
    have FX := Lib.hid (fun w' h1 h2 => hfixed_any x 13 mode x0 x1 w' h1 h2)
    have e2 : hfE x 13 mode = 0 := by unfold hfE; rw [if_pos hv, if_pos ⟨⟨m0, m1⟩, by omega, by omega⟩]
    have hpl : hxp (valD x) - 4 * ((Int.toNat 13 : Nat) : Int) ≤ (valD x).e := by unfold hxp; omega
    have e3 : hfD x (Int.toNat 13) mode = valD x := by
      unfold hfD mulD; rw [if_pos (Or.inl hpl)]; exact hb_norm_self f1
    have e4 : hfC x 13 mode = false := by
      unfold hfC hfC0 mulC; rw [if_pos (Or.inl hpl), Bool.and_false]
    have e5 : hfS x 13 mode = hxW x (valD x) 13 := by unfold hfS; rw [if_pos e2, e3]; rfl
    obtain ⟨TS, hTS⟩ : ∃ T : ByteArray, T = ⟨(hxW x (valD x) (hxq (valD x))).toArray⟩ := ⟨_, rfl⟩
    obtain ⟨FT, hFT⟩ : ∃ T : ByteArray, T = ⟨(hxW x (valD x) 13).toArray⟩ := ⟨_, rfl⟩
    have N1 := Lib.hid (fun w' => back_any x0 x1 hx (hxq (valD x)) (by unfold hxq; omega) (by unfold hxq; omega) TS hTS mode m0 m1 w')
    have N2 := Lib.hid (fun w' => back_any x0 x1 hx 13 (by omega) (by omega) FT hFT mode m0 m1 w')
    unfold RetT at TX
    unfold RetSBE at FX
    unfold RetUBE at N1 N2
    rw [e1, ← hTS] at TX
    rw [e2, e4, e5, ← hFT] at FX
    have i1 : ¬ 4 ≤ fcls x := hc
    generalize fcls x = c at *
    clear hx f1 f2 f3 f4 f5 hb53 hv e1 e2 hpl e3 e4 e5 hTS hFT hc
    go_enter Tryd.func10, Tryd.ntmps10
    go_wp2_with (first
      | (go_at_call 16; refine (CL.out _).mono ?_; rintro e w1 ⟨rfl, rfl⟩)
      | (go_at_call 34; refine (TX.out _ HT.out H10.out).mono ?_; rintro r w1 ⟨rfl, hb⟩; replace HT := Lib.hid (HT.out.below hb); replace H10 := Lib.hid (H10.out.below hb); replace B := Lib.hid (bl_thru B.out (Nat.le_refl _) hb); clear hb)
      | (go_at_call 35; refine (FX.out _ HT.out H10.out).mono ?_; rintro r w1 ⟨rfl, hb⟩; replace HT := Lib.hid (HT.out.below hb); replace H10 := Lib.hid (H10.out.below hb); replace B := Lib.hid (bl_thru B.out (Nat.le_refl _) hb); clear hb)
      | (go_at_call 33; ((with_reducible refine (N1.out _).mono ?_); rintro r w1 ⟨rfl, hb⟩; replace HT := Lib.hid (HT.out.below hb); replace H10 := Lib.hid (H10.out.below hb); replace B := Lib.hid (bl_thru B.out (Nat.le_refl _) hb); clear hb))
      | (go_at_call 33; ((with_reducible refine (N2.out _).mono ?_); rintro r w1 ⟨rfl, hb⟩; replace HT := Lib.hid (HT.out.below hb); replace H10 := Lib.hid (H10.out.below hb); replace B := Lib.hid (bl_thru B.out (Nat.le_refl _) hb); clear hb))
      | (go_at_call 18; ((with_reducible refine (ok_new3 _ _ _ _ _ (by simp)).mono ?_); rintro e w' ⟨rfl, rfl⟩))
      | (go_at_call 32; refine (LV.out _ HT.out H10.out).mono ?_; rintro r w1 ⟨rfl, hb⟩; replace HT := Lib.hid (HT.out.below hb); replace H10 := Lib.hid (H10.out.below hb); replace B := Lib.hid (bl_thru B.out (Nat.le_refl _) hb); clear hb))
    all_goals first
      | (go_ret; refine ⟨rfl, B.out⟩; done)
      | (go_ret; refine ⟨rfl, B.out.alloc B.out.size _⟩; done)
      | (go_ret; refine ⟨?_, B.out.alloc B.out.size _⟩; simp_all [ok3]; done)
      | (exfalso; simp_all [ok3]; done)
      | trace_state
  · clear CL
    have CL := Lib.hid (fun w' => class_any x x0 x1 w')
    generalize fcls x = c at *
    by_cases h1 : 4 ≤ c
    · clear hg
      go_enter Tryd.func10, Tryd.ntmps10
      go_wp2_with (first
        | (go_at_call 16; refine (CL.out _).mono ?_; rintro e w1 ⟨rfl, rfl⟩)
        | (go_at_call 32; refine (LV.out _ HT.out H10.out).mono ?_; rintro r w1 ⟨rfl, hb⟩; replace HT := Lib.hid (HT.out.below hb); replace H10 := Lib.hid (H10.out.below hb); replace B := Lib.hid (bl_thru B.out (Nat.le_refl _) hb); clear hb))
      all_goals first
        | (go_ret; refine ⟨rfl, B.out⟩; done)
        | (exfalso; simp_all; done)
        | trace_state
    · by_cases h2 : mode < 0
      · clear hg
        go_enter Tryd.func10, Tryd.ntmps10
        go_wp2_with (first
          | (go_at_call 16; refine (CL.out _).mono ?_; rintro e w1 ⟨rfl, rfl⟩)
          | (go_at_call 32; refine (LV.out _ HT.out H10.out).mono ?_; rintro r w1 ⟨rfl, hb⟩; replace HT := Lib.hid (HT.out.below hb); replace H10 := Lib.hid (H10.out.below hb); replace B := Lib.hid (bl_thru B.out (Nat.le_refl _) hb); clear hb))
        all_goals first
          | (go_ret; refine ⟨rfl, B.out⟩; done)
          | (exfalso; simp_all; done)
          | trace_state
      · have h3 : 4 < mode := by
          rcases Int.lt_or_le 4 mode with h | h
          · exact h
          · exact absurd ⟨h1, by omega, h⟩ hg
        clear hg
        go_enter Tryd.func10, Tryd.ntmps10
        go_wp2_with (first
          | (go_at_call 16; refine (CL.out _).mono ?_; rintro e w1 ⟨rfl, rfl⟩)
          | (go_at_call 32; refine (LV.out _ HT.out H10.out).mono ?_; rintro r w1 ⟨rfl, hb⟩; replace HT := Lib.hid (HT.out.below hb); replace H10 := Lib.hid (H10.out.below hb); replace B := Lib.hid (bl_thru B.out (Nat.le_refl _) hb); clear hb))
        all_goals first
          | (go_ret; refine ⟨rfl, B.out⟩; done)
          | (exfalso; simp_all; done)
          | trace_state
end Go.Proofs.YtmpdbmaokbhcjaaDoor
