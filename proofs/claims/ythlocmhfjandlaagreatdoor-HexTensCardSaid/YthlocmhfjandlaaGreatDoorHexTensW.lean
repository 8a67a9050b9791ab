/-
  THE WALK of the law HexTens.
-/
import Derived.Test.YthlocmhfjandlaaGreatDoorZu
import Derived.Test.YthlocmhfjandlaaGreatDoorYjk
import Derived.Test.YthlocmhfjandlaaGreatDoorHg
set_option linter.unusedVariables false
set_option linter.unusedSimpArgs false
namespace Go.Proofs.YthlocmhfjandlaaGreatDoor
open Go.RowKit Nt Fm Fl

set_option maxRecDepth 100000 in
set_option maxHeartbeats 4000000 in
theorem walkHexTens (x : Int) (x0 : 0 ≤ x) (x1 : x ≤ 18446744073709551615) (w : World) (hT : Tab w) (hT10 : Tab10 w) :
    Calls Tryz.prog 16 #[.int .u64 x] w fun e w' => e = .returned (.bool true) ∧ Below w.heap.size w w' := by
  have CL := Lib.hid (fun w' => class_any x x0 x1 w')
  have LV := Lib.hid (fun w' h1 h2 => hexLives_any w' h1 h2)
  have SX := Lib.hid (fun w' h1 h2 => stext_any x x0 x1 w' h1 h2)
  have HT := Lib.hid hT
  have H10 := Lib.hid hT10
  have B : Hid (Below w.heap.size w w) := Lib.hid (Below.refl w.heap.size w)
  clear hT hT10
  by_cases hc : 4 ≤ fcls x
  · generalize fcls x = c at *
    clear SX
    go_enter Tryz.func16, Tryz.ntmps16
    go_wp2_with (first
      | (go_at_call 24; refine (CL.out _).mono ?_; rintro e w1 ⟨rfl, rfl⟩)
      | (go_at_call 32; refine (LV.out _ HT.out H10.out).mono ?_; rintro r w1 ⟨rfl, hb⟩; replace HT := Lib.hid (HT.out.below hb); replace H10 := Lib.hid (H10.out.below hb); replace B := Lib.hid (bl_thru B.out (Nat.le_refl _) hb); clear hb))
    all_goals first
      | (go_ret; refine ⟨rfl, B.out⟩; done)
      | (exfalso; simp_all; done)
      | trace_state
  · have hx := hex_fin hc
    obtain ⟨f1, f2, f3, f4, f5⟩ := valD_facts x x0 x1
    have hb53 : blen (valD x).m ≤ 53 := blen_le_of f2
    have TX := Lib.hid (fun w' h1 h2 => htext_any x x0 x1 w' h1 h2)
    have e1 : hxT x = hxW x (valD x) (hxq (valD x)) := by unfold hxT; rw [if_neg (by omega), if_neg (by omega)]
    obtain ⟨TS, hTS⟩ : ∃ T : ByteArray, T = ⟨(hxW x (valD x) (hxq (valD x))).toArray⟩ := ⟨_, rfl⟩
    have N1 := Lib.hid (fun w' => back_any x0 x1 hx (hxq (valD x)) (by unfold hxq; omega) (by unfold hxq; omega) TS hTS 0 (by omega) (by omega) w')
    unfold RetT at TX
    unfold RetUBE at N1
    rw [e1, ← hTS] at TX
    obtain ⟨r1, r2, r3⟩ := short_read x0 x1 (by omega)
    obtain ⟨T, hTT⟩ : ∃ T : ByteArray, T = ⟨(stT x).toArray⟩ := ⟨_, rfl⟩
    have RN := Lib.hid (fun w' h => rnumber_any (stT x) T hTT 0 w' h)
    rw [r1, r2] at RN
    rw [← hTT] at SX
    unfold RetUBE at RN
    clear hTT r1 r2 r3 hTS e1 hx f1 f2 f3 f4 f5 hb53
    generalize readC (stT x) 0 = lost at *
    generalize fcls x = c at *
    go_enter Tryz.func16, Tryz.ntmps16
    go_wp2_with (first
      | (go_at_call 24; refine (CL.out _).mono ?_; rintro e w1 ⟨rfl, rfl⟩)
      | (go_at_call 53; refine (TX.out _ HT.out H10.out).mono ?_; rintro r w1 ⟨rfl, hb⟩; replace HT := Lib.hid (HT.out.below hb); replace H10 := Lib.hid (H10.out.below hb); replace B := Lib.hid (bl_thru B.out (Nat.le_refl _) hb); clear hb)
      | (go_at_call 40; refine (SX.out _ HT.out H10.out).mono ?_; rintro r w1 ⟨rfl, hb⟩; replace HT := Lib.hid (HT.out.below hb); replace H10 := Lib.hid (H10.out.below hb); replace B := Lib.hid (bl_thru B.out (Nat.le_refl _) hb); clear hb)
      | (go_at_call 50; refine (RN.out _ HT.out).mono ?_; rintro r w1 ⟨rfl, hb⟩; replace HT := Lib.hid (HT.out.below hb); replace H10 := Lib.hid (H10.out.below hb); replace B := Lib.hid (bl_thru B.out (Nat.le_refl _) hb); clear hb)
      | (go_at_call 42; refine (N1.out _).mono ?_; rintro r w1 ⟨rfl, hb⟩; replace HT := Lib.hid (HT.out.below hb); replace H10 := Lib.hid (H10.out.below hb); replace B := Lib.hid (bl_thru B.out (Nat.le_refl _) hb); clear hb)
      | (go_at_call 47; ((with_reducible refine (ok_new2 _ _ _ _ (by simp)).mono ?_); rintro e w' ⟨rfl, rfl⟩))
      | (go_at_call 32; refine (LV.out _ HT.out H10.out).mono ?_; rintro r w1 ⟨rfl, hb⟩; replace HT := Lib.hid (HT.out.below hb); replace H10 := Lib.hid (H10.out.below hb); replace B := Lib.hid (bl_thru B.out (Nat.le_refl _) hb); clear hb))
    all_goals first
      | (go_ret; refine ⟨rfl, B.out.alloc B.out.size _⟩; done)
      | (go_ret; refine ⟨?_, B.out.alloc B.out.size _⟩; simp_all [ok2]; done)
      | (go_ret; refine ⟨rfl, ?_⟩; have := B.out; have := B.out.size; go_grown; done)
      | (exfalso; simp_all [ok2]; done)
      | trace_state
end Go.Proofs.YthlocmhfjandlaaGreatDoor
