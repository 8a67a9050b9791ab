/-
  THE WALK of the law ReadExact.
-/
import Derived.Test.YthlocmhfjandlaaGreatDoorZu
import Derived.Test.YthlocmhfjandlaaGreatDoorFx
set_option linter.unusedVariables false
set_option linter.unusedSimpArgs false
namespace Go.Proofs.YthlocmhfjandlaaGreatDoor
open Go.RowKit Nt Fm Fl

set_option maxRecDepth 100000 in
set_option maxHeartbeats 4000000 in
theorem walkReadExact (x : Int) (x0 : 0 ≤ x) (x1 : x ≤ 18446744073709551615) (mode : Int) (mode0 : -9223372036854775808 ≤ mode) (mode1 : mode ≤ 9223372036854775807) (w : World) (hT : Tab w) (hT10 : Tab10 w) :
    Calls Tryz.prog 11 #[.int .u64 x, .int .i64 mode] w fun e w' => e = .returned (.bool true) ∧ Below w.heap.size w w' := by
  have LV := Lib.hid (fun w' h => readLives_any w' h)
  have EX := Lib.hid (fun w' h1 h2 => exact_any x x0 x1 w' h1 h2)
  unfold RetSE at EX
  have HT := Lib.hid hT
  have H10 := Lib.hid hT10
  have B : Hid (Below w.heap.size w w) := Lib.hid (Below.refl w.heap.size w)
  clear hT hT10
  obtain ⟨T, hTT⟩ : ∃ T : ByteArray, T = ⟨(exS x).toArray⟩ := ⟨_, rfl⟩
  have zT : T.size = (exS x).length := by rw [hTT]; rfl
  rw [← hTT] at EX
  by_cases hg : hasV x = true ∧ (exS x).length ≤ 1000 ∧ 0 ≤ mode ∧ mode ≤ 4
  · obtain ⟨hv, hl, m0, m1⟩ := hg
    have hk : knownB mode = true := by unfold knownB; rw [decide_eq_true_eq]; exact ⟨m0, m1⟩
    obtain ⟨r1, r2, r3⟩ := exS_read x0 x1 hv hl mode hk
    have RN := Lib.hid (fun w' h => rnumber_any (exS x) T hTT mode w' h)
    rw [r1, r2, r3] at RN
    unfold RetUBE at RN
    have hE : exE x = 0 := by unfold exE; rw [if_pos hv]
    rw [hE] at EX
    have hz : ((T.size : Nat) : Int) ≤ 1000 := by omega
    clear hTT zT hv hl hk r1 r2 r3 hE
    go_enter Tryz.func11, Tryz.ntmps11
    go_wp2_with (first
      | (go_at_call 48; refine (EX.out _ HT.out H10.out).mono ?_; rintro r w1 ⟨rfl, hb⟩; replace HT := Lib.hid (HT.out.below hb); replace H10 := Lib.hid (H10.out.below hb); replace B := Lib.hid (bl_thru B.out (Nat.le_refl _) hb); clear hb)
      | (go_at_call 50; refine (RN.out _ HT.out).mono ?_; rintro r w1 ⟨rfl, hb⟩; replace HT := Lib.hid (HT.out.below hb); replace B := Lib.hid (bl_thru B.out (Nat.le_refl _) hb); clear hb)
      | (go_at_call 49; refine (LV.out _ HT.out).mono ?_; rintro r w1 ⟨rfl, hb⟩; replace HT := Lib.hid (HT.out.below hb); replace B := Lib.hid (bl_thru B.out (Nat.le_refl _) hb); clear hb))
    all_goals first
      | (go_ret; refine ⟨rfl, B.out⟩; done)
      | (go_ret; refine ⟨?_, B.out⟩; simp_all; done)
      | (exfalso; simp_all; done)
      | trace_state
  · have hbad : exE x ≠ 0 ∨ (1000 : Int) < ((T.size : Nat) : Int) ∨ mode < 0 ∨ 4 < mode := by
      by_cases hv : hasV x = true
      · right
        by_cases hl : (exS x).length ≤ 1000
        · right
          by_cases hm : mode < 0
          · exact Or.inl hm
          · exact Or.inr (Int.not_le.1 fun h => hg ⟨hv, hl, by omega, h⟩)
        · left; omega
      · left; unfold exE; rw [if_neg hv]; decide
    generalize exE x = er at *
    clear hTT zT hg
    go_enter Tryz.func11, Tryz.ntmps11
    go_wp2_with (first
      | (go_at_call 48; refine (EX.out _ HT.out H10.out).mono ?_; rintro r w1 ⟨rfl, hb⟩; replace HT := Lib.hid (HT.out.below hb); replace H10 := Lib.hid (H10.out.below hb); replace B := Lib.hid (bl_thru B.out (Nat.le_refl _) hb); clear hb)
      | (go_at_call 50; exfalso; simp_all; omega)
      | (go_at_call 49; refine (LV.out _ HT.out).mono ?_; rintro r w1 ⟨rfl, hb⟩; replace HT := Lib.hid (HT.out.below hb); replace B := Lib.hid (bl_thru B.out (Nat.le_refl _) hb); clear hb))
    all_goals first
      | (go_ret; refine ⟨rfl, B.out⟩; done)
      | (exfalso; simp_all; done)
      | trace_state
end Go.Proofs.YthlocmhfjandlaaGreatDoor
