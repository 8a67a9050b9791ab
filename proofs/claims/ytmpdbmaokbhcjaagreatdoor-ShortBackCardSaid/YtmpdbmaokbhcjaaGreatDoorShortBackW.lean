/-
  THE WALK of the law ShortBack.
-/
import Derived.Test.YtmpdbmaokbhcjaaGreatDoorZu
import Derived.Test.YtmpdbmaokbhcjaaGreatDoorYjk
set_option linter.unusedVariables false
set_option linter.unusedSimpArgs false
namespace Go.Proofs.YtmpdbmaokbhcjaaGreatDoor
open Go.RowKit Nt Fm Fl

theorem sb_nan : readE [110, 97, 110] 0 = 0 ∧ readV [110, 97, 110] 0 = 9221120237041090560 ∧ readC [110, 97, 110] 0 = false := by
  refine ⟨?_, ?_, ?_⟩ <;> kernel_rfl
set_option maxRecDepth 100000 in
set_option maxHeartbeats 4000000 in
theorem walkShortBack (x : Int) (x0 : 0 ≤ x) (x1 : x ≤ 18446744073709551615) (w : World) (hT : Tab w) (hT10 : Tab10 w) :
    Calls Tryz.prog 5 #[.int .u64 x] w fun e w' => e = .returned (.bool true) ∧ Below w.heap.size w w' := by
  have CL := Lib.hid (fun w' => class_any x x0 x1 w')
  have LV := Lib.hid (fun w' h1 h2 => shortLives_any w' h1 h2)
  have TX := Lib.hid (fun w' h1 h2 => stext_any x x0 x1 w' h1 h2)
  have HT := Lib.hid hT
  have H10 := Lib.hid hT10
  have B : Hid (Below w.heap.size w w) := Lib.hid (Below.refl w.heap.size w)
  clear hT hT10
  by_cases hn : fcls x = 5
  · have e1 : stT x = [110, 97, 110] := by unfold stT; rw [if_pos hn]
    rw [e1] at TX
    have RN := Lib.hid (fun w' h => rnumber_any [110, 97, 110] ⟨#[110, 97, 110]⟩ rfl 0 w' h)
    rw [sb_nan.1, sb_nan.2.1, sb_nan.2.2] at RN
    unfold RetUBE at RN
    rw [hn] at CL
    clear hn e1
    go_enter Tryz.func5, Tryz.ntmps5
    go_wp2_with (first
      | (go_at_call 24; refine (CL.out _).mono ?_; rintro e w1 ⟨rfl, rfl⟩)
      | (go_at_call 25; refine (TX.out _ HT.out H10.out).mono ?_; rintro r w1 ⟨rfl, hb⟩; replace HT := Lib.hid (HT.out.below hb); replace H10 := Lib.hid (H10.out.below hb); replace B := Lib.hid (bl_thru B.out (Nat.le_refl _) hb); clear hb)
      | (go_at_call 19; refine (RN.out _ HT.out).mono ?_; rintro r w1 ⟨rfl, hb⟩; replace HT := Lib.hid (HT.out.below hb); replace H10 := Lib.hid (H10.out.below hb); replace B := Lib.hid (bl_thru B.out (Nat.le_refl _) hb); clear hb)
      | (go_at_call 26; refine (LV.out _ HT.out H10.out).mono ?_; rintro r w1 ⟨rfl, hb⟩; replace HT := Lib.hid (HT.out.below hb); replace H10 := Lib.hid (H10.out.below hb); replace B := Lib.hid (bl_thru B.out (Nat.le_refl _) hb); clear hb))
    all_goals first
      | (go_ret; refine ⟨rfl, B.out⟩; done)
      | (go_ret; refine ⟨?_, B.out⟩; simp_all; done)
      | (exfalso; simp_all; done)
      | trace_state
  · obtain ⟨r1, r2, r3⟩ := short_read x0 x1 hn
    obtain ⟨T, hTT⟩ : ∃ T : ByteArray, T = ⟨(stT x).toArray⟩ := ⟨_, rfl⟩
    have RN := Lib.hid (fun w' h => rnumber_any (stT x) T hTT 0 w' h)
    rw [r1, r2] at RN
    rw [← hTT] at TX
    unfold RetUBE at RN
    clear hTT r1 r2 r3 CL hn
    generalize readC (stT x) 0 = lost at *
    go_enter Tryz.func5, Tryz.ntmps5
    go_wp2_with (first
      | (go_at_call 25; refine (TX.out _ HT.out H10.out).mono ?_; rintro r w1 ⟨rfl, hb⟩; replace HT := Lib.hid (HT.out.below hb); replace H10 := Lib.hid (H10.out.below hb); replace B := Lib.hid (bl_thru B.out (Nat.le_refl _) hb); clear hb)
      | (go_at_call 19; refine (RN.out _ HT.out).mono ?_; rintro r w1 ⟨rfl, hb⟩; replace HT := Lib.hid (HT.out.below hb); replace H10 := Lib.hid (H10.out.below hb); replace B := Lib.hid (bl_thru B.out (Nat.le_refl _) hb); clear hb)
      | (go_at_call 26; refine (LV.out _ HT.out H10.out).mono ?_; rintro r w1 ⟨rfl, hb⟩; replace HT := Lib.hid (HT.out.below hb); replace H10 := Lib.hid (H10.out.below hb); replace B := Lib.hid (bl_thru B.out (Nat.le_refl _) hb); clear hb))
    all_goals first
      | (go_ret; refine ⟨rfl, B.out⟩; done)
      | (go_ret; refine ⟨?_, B.out⟩; simp_all; done)
      | (exfalso; simp_all; done)
      | trace_state
end Go.Proofs.YtmpdbmaokbhcjaaGreatDoor
