/-
  THE WALK of the law DecimalTurned.
-/
import Derived.Test.YthlocmhfjandlaaDoorLk
set_option linter.unusedVariables false
set_option linter.unusedSimpArgs false
namespace Go.Proofs.YthlocmhfjandlaaDoor
open Go.RowKit Nt Fm Fl

theorem fxE_fneg {x : Int} (x0 : 0 ≤ x) (x1 : x ≤ 18446744073709551615) (places mode other : Int) (h : (mode = 1 ∧ other = 2) ∨ (mode = 2 ∧ other = 1) ∨ (mode ≠ 1 ∧ mode ≠ 2 ∧ other = mode)) : fxE (fneg x) places other = fxE x places mode := by
  unfold fxE
  rw [dHasV_fneg x0 x1]
  have : (0 ≤ other ∧ other ≤ 4) ↔ (0 ≤ mode ∧ mode ≤ 4) := by omega
  simp only [this]
theorem fxC_fneg {x : Int} (x0 : 0 ≤ x) (x1 : x ≤ 18446744073709551615) (places mode other : Int) (h : (mode = 1 ∧ other = 2) ∨ (mode = 2 ∧ other = 1) ∨ (mode ≠ 1 ∧ mode ≠ 2 ∧ other = mode)) : fxC (fneg x) places other = fxC x places mode := by
  unfold fxC
  rw [fxE_fneg x0 x1 places mode other h, dVal_fneg x0 x1, dC_opp]
theorem fxS_fneg {x : Int} (x0 : 0 ≤ x) (x1 : x ≤ 18446744073709551615) (places mode other : Int) (h : (mode = 1 ∧ other = 2) ∨ (mode = 2 ∧ other = 1) ∨ (mode ≠ 1 ∧ mode ≠ 2 ∧ other = mode)) (hE : fxE x places mode = 0) :
    (9223372036854775808 ≤ x → fxS x places mode = [45] ++ fxS (fneg x) places other) ∧ (¬ 9223372036854775808 ≤ x → fxS (fneg x) places other = [45] ++ fxS x places mode) := by
  unfold fxS
  rw [fxE_fneg x0 x1 places mode other h, if_pos hE, if_pos hE, dVal_fneg x0 x1, dQ_opp _ _ _ _ h]
  unfold sgS
  constructor
  · intro hs
    have : ¬ 9223372036854775808 ≤ fneg x := by unfold fneg; rw [if_pos hs]; omega
    rw [if_pos hs, if_neg this]; simp
  · intro hs
    have : 9223372036854775808 ≤ fneg x := by unfold fneg; rw [if_neg hs]; omega
    rw [if_pos this, if_neg hs]; simp
theorem fxS_len {x : Int} (x0 : 0 ≤ x) (x1 : x ≤ 18446744073709551615) (places mode : Int) : (fxS x places mode).length ≤ 100000 := by
  unfold fxS
  by_cases hE : fxE x places mode = 0
  · rw [if_pos hE]
    rcases fxE_cases x places mode with ⟨-, h⟩ | ⟨-, -, h⟩ | ⟨-, ⟨-, p0, p1⟩, -⟩
    · omega
    · omega
    · obtain ⟨K0, hK0, hK1⟩ : ∃ K0, 9000 ≤ K0 ∧ K0 ≤ 9000 := ⟨9000, by omega, by omega⟩
      obtain ⟨b1, b2⟩ := vd_bd x0 x1 (t := places) (by omega) (by omega) hK0
      have hq := dQ_lt (valD x) places mode b1
      have hql := dec_len_two (by omega) hq
      have hpl := pt_len_le (dQ (valD x) places mode) places.toNat (K0 + 1) hql
      have hsl := sgS_len x
      rw [List.length_append]; omega
  · rw [if_neg hE]; simp

set_option maxRecDepth 100000 in
set_option maxHeartbeats 8000000 in
theorem walkDecimalTurned (x : Int) (x0 : 0 ≤ x) (x1 : x ≤ 18446744073709551615) (places : Int) (places0 : -9223372036854775808 ≤ places) (places1 : places ≤ 9223372036854775807) (mode : Int) (mode0 : -9223372036854775808 ≤ mode) (mode1 : mode ≤ 9223372036854775807) (w : World) (hT : Tab w) (hT10 : Tab10 w) :
    Calls Tryd.prog 8 #[.int .u64 x, .int .i64 places, .int .i64 mode] w fun e w' => e = .returned (.bool true) ∧ Below w.heap.size w w' := by
  obtain ⟨n0, n1⟩ := fneg_bd x0 x1
  obtain ⟨other, hot⟩ : ∃ other, (mode = 1 ∧ other = 2) ∨ (mode = 2 ∧ other = 1) ∨ (mode ≠ 1 ∧ mode ≠ 2 ∧ other = mode) := by
    by_cases h1 : mode = 1
    · exact ⟨2, Or.inl ⟨h1, rfl⟩⟩
    · by_cases h2 : mode = 2
      · exact ⟨1, Or.inr (Or.inl ⟨h2, rfl⟩)⟩
      · exact ⟨mode, Or.inr (Or.inr ⟨h1, h2, rfl⟩)⟩
  have F1 := Lib.hid (fun w' h1 h2 => fixed_any x places mode x0 x1 w' h1 h2)
  have F2 := Lib.hid (fun w' h1 h2 => fixed_any (fneg x) places other n0 n1 w' h1 h2)
  rw [fxE_fneg x0 x1 places mode other hot, fxC_fneg x0 x1 places mode other hot] at F2
  have SL := fxS_fneg x0 x1 places mode other hot
  have l1 := fxS_len x0 x1 places mode
  have l2 := fxS_len n0 n1 places other
  have NG := Lib.hid (fun w' => neg_any x x0 x1 w')
  unfold RetSBE at F1 F2
  generalize fxS x places mode = s1 at *
  generalize fxS (fneg x) places other = s2 at *
  generalize fxE x places mode = E at *
  generalize fxC x places mode = C at *
  generalize fneg x = y at *
  obtain ⟨S1, h1⟩ : ∃ S : ByteArray, S = ⟨s1.toArray⟩ := ⟨_, rfl⟩
  obtain ⟨S2, h2⟩ : ∃ S : ByteArray, S = ⟨s2.toArray⟩ := ⟨_, rfl⟩
  have z1 : S1.size ≤ 100000 := by
    have : S1.size = s1.length := by rw [h1]; rfl
    omega
  have z2 : S2.size ≤ 100000 := by
    have : S2.size = s2.length := by rw [h2]; rfl
    omega
  rw [← h1] at F1
  rw [← h2] at F2
  have LL : Hid (E = 0 → (9223372036854775808 ≤ x → S1 = ⟨#[45]⟩ ++ S2) ∧ (¬ 9223372036854775808 ≤ x → S2 = ⟨#[45]⟩ ++ S1)) := Lib.hid (fun hE => by
    obtain ⟨k1, k2⟩ := SL hE
    refine ⟨fun h => ?_, fun h => ?_⟩
    · rw [h1, h2, k1 h]; exact (ba_app [45] s2 rfl rfl).symm
    · rw [h1, h2, k2 h]; exact (ba_app [45] s1 rfl rfl).symm)
  have HT := Lib.hid hT
  have H10 := Lib.hid hT10
  have B : Hid (Below w.heap.size w w) := Lib.hid (Below.refl w.heap.size w)
  clear hT hT10 SL l1 l2 h1 h2 n0 n1
  by_cases hE : E = 0
  · subst hE
    by_cases hx : 9223372036854775808 ≤ x
    · have e := (LL.out rfl).1 hx
      have HE := Lib.hid e
      have heq : (S1.toList == (⟨#[45]⟩ ++ S2).toList) = true := by rw [e]; simp
      clear e
      rcases hot with ⟨rfl, rfl⟩ | ⟨rfl, rfl⟩ | ⟨m1, m2, rfl⟩
      all_goals
        go_enter Tryd.func8, Tryd.ntmps8
        go_wp2_with (first
          | (go_at_call 24; ((with_reducible refine (F1.out _ HT.out H10.out).mono ?_); rintro r w1 ⟨rfl, hb⟩; replace HT := Lib.hid (HT.out.below hb); replace H10 := Lib.hid (H10.out.below hb); replace B := Lib.hid (bl_thru B.out (Nat.le_refl _) hb); clear hb))
          | (go_at_call 24; ((with_reducible refine (F2.out _ HT.out H10.out).mono ?_); rintro r w1 ⟨rfl, hb⟩; replace HT := Lib.hid (HT.out.below hb); replace H10 := Lib.hid (H10.out.below hb); replace B := Lib.hid (bl_thru B.out (Nat.le_refl _) hb); clear hb))
          | (go_at_call 27; (refine (NG.out _).mono ?_); rintro e w' ⟨rfl, rfl⟩)
          | (go_at_call 25; (refine (decimalLives_any _ HT.out H10.out).mono ?_); rintro r w1 ⟨rfl, hb⟩; replace HT := Lib.hid (HT.out.below hb); replace H10 := Lib.hid (H10.out.below hb); replace B := Lib.hid (bl_thru B.out (Nat.le_refl _) hb); clear hb))
      all_goals first
        | (go_ret; refine ⟨?_, B.out⟩; simp_all; done)
        | (exfalso; simp_all; done)
        | trace_state
    · have e := (LL.out rfl).2 hx
      have HE := Lib.hid e
      have heq : (S2.toList == (⟨#[45]⟩ ++ S1).toList) = true := by rw [e]; simp
      clear e
      rcases hot with ⟨rfl, rfl⟩ | ⟨rfl, rfl⟩ | ⟨m1, m2, rfl⟩
      all_goals
        go_enter Tryd.func8, Tryd.ntmps8
        go_wp2_with (first
          | (go_at_call 24; ((with_reducible refine (F1.out _ HT.out H10.out).mono ?_); rintro r w1 ⟨rfl, hb⟩; replace HT := Lib.hid (HT.out.below hb); replace H10 := Lib.hid (H10.out.below hb); replace B := Lib.hid (bl_thru B.out (Nat.le_refl _) hb); clear hb))
          | (go_at_call 24; ((with_reducible refine (F2.out _ HT.out H10.out).mono ?_); rintro r w1 ⟨rfl, hb⟩; replace HT := Lib.hid (HT.out.below hb); replace H10 := Lib.hid (H10.out.below hb); replace B := Lib.hid (bl_thru B.out (Nat.le_refl _) hb); clear hb))
          | (go_at_call 27; (refine (NG.out _).mono ?_); rintro e w' ⟨rfl, rfl⟩)
          | (go_at_call 25; (refine (decimalLives_any _ HT.out H10.out).mono ?_); rintro r w1 ⟨rfl, hb⟩; replace HT := Lib.hid (HT.out.below hb); replace H10 := Lib.hid (H10.out.below hb); replace B := Lib.hid (bl_thru B.out (Nat.le_refl _) hb); clear hb))
      all_goals first
        | (go_ret; refine ⟨?_, B.out⟩; simp_all; done)
        | (exfalso; simp_all; done)
        | trace_state
  · have hEb : (E != 0) = true := by rw [bne_iff_ne]; exact hE
    clear LL
    rcases hot with ⟨rfl, rfl⟩ | ⟨rfl, rfl⟩ | ⟨m1, m2, rfl⟩
    all_goals
      go_enter Tryd.func8, Tryd.ntmps8
      go_wp2_with (first
        | (go_at_call 24; ((with_reducible refine (F1.out _ HT.out H10.out).mono ?_); rintro r w1 ⟨rfl, hb⟩; replace HT := Lib.hid (HT.out.below hb); replace H10 := Lib.hid (H10.out.below hb); replace B := Lib.hid (bl_thru B.out (Nat.le_refl _) hb); clear hb))
        | (go_at_call 24; ((with_reducible refine (F2.out _ HT.out H10.out).mono ?_); rintro r w1 ⟨rfl, hb⟩; replace HT := Lib.hid (HT.out.below hb); replace H10 := Lib.hid (H10.out.below hb); replace B := Lib.hid (bl_thru B.out (Nat.le_refl _) hb); clear hb))
        | (go_at_call 27; (refine (NG.out _).mono ?_); rintro e w' ⟨rfl, rfl⟩)
        | (go_at_call 25; (refine (decimalLives_any _ HT.out H10.out).mono ?_); rintro r w1 ⟨rfl, hb⟩; replace HT := Lib.hid (HT.out.below hb); replace H10 := Lib.hid (H10.out.below hb); replace B := Lib.hid (bl_thru B.out (Nat.le_refl _) hb); clear hb))
    all_goals first
      | (go_ret; refine ⟨?_, B.out⟩; simp_all; done)
      | (exfalso; simp_all; done)
      | trace_state
end Go.Proofs.YthlocmhfjandlaaDoor
