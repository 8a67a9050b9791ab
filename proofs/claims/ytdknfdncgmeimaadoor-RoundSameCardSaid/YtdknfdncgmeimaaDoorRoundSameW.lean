/-
  THE WALK of the law RoundSame.
-/
import Derived.Test.YtdknfdncgmeimaaDoorRoundLives
import Derived.Test.YtdknfdncgmeimaaDoorValP
set_option linter.unusedVariables false
set_option linter.unusedSimpArgs false
namespace Go.Proofs.YtdknfdncgmeimaaDoor
open Go.RowKit Nt Fm Fl

set_option maxHeartbeats 8000000 in
theorem walkRoundSame (x : Int) (h0 : 0 ≤ x) (h1 : x ≤ 18446744073709551615) (mode : Int) (m0 : -9223372036854775808 ≤ mode) (m1 : mode ≤ 9223372036854775807) (w : World) (hT : Tab w) :
    Calls Tryd.prog 3 #[.int .u64 x, .int .i64 mode] w fun e w' => e = .returned (.bool true) ∧ Below w.heap.size w w' := by
  have hT' := Lib.hid hT
  clear hT
  have hof := of_any x h0 h1 w hT'.out
  by_cases hok : hasV x = true ∧ 0 ≤ mode ∧ mode ≤ 4
  · obtain ⟨hv, hm0, hm4⟩ := hok
    have hv2 : fabs x < 9218868437227405312 := by unfold hasV at hv; simpa using hv
    obtain ⟨n1, n2⟩ := valD_num x h0 h1 hv2 mode
    obtain ⟨f1, f2, f3, f4, -⟩ := valD_facts x h0 h1
    have e1 : ofE x = 0 := by unfold ofE; rw [if_pos hv]
    have e2 : ofD x = valD x := by unfold ofD; rw [if_pos hv]
    have hto := fun v w1 (h : DV w1 v (valD x)) => to_dv v (valD x) mode w1 h f1 (by decide : 53 ≤ 12768) f2 (by omega) (by omega) hm0 hm4
    rw [n1] at hto
    rw [e1, e2] at hof
    generalize numR (valD x) mode = y at *
    generalize valD x = d at *
    have HOF := Lib.hid hof
    have HTO := Lib.hid hto
    clear hof hto f1 f2 f3 f4 e1 e2 n1 hv hv2
    have hcase : y = x ∨ ((y == x) = false ∧ x = 9223372036854775808 ∧ y = 0) := by
      by_cases h : y = x
      · exact Or.inl h
      · right
        rcases n2 with h2 | ⟨h2, h3⟩
        · exact absurd h2 h
        · exact ⟨by rw [beq_eq_false_iff_ne]; exact h, h2, h3⟩
    clear n2
    rcases hcase with rfl | ⟨g1, rfl, rfl⟩
    all_goals
      go_enter Tryd.func3, Tryd.ntmps3
      go_wp2_with fail
      refine HOF.out.mono ?_
      rintro r w1 ⟨v, rfl, ⟨s, rfl, hv⟩, hb⟩
      obtain ⟨ao, n, c, rfl⟩ := hv.shape
      have HV := Lib.hid hv
      have HB := Lib.hid hb
      clear hv hb
      go_wp2_with fail
      refine (roundLives_any _).mono ?_
      rintro r w2 ⟨rfl, hb⟩
      have hsz : w1.heap.size ≤ (w1.alloc (.cells #[.bool d.neg, .slice ao n c, .int .i64 d.e] 25)).heap.size := by simp
      have HV2 := Lib.hid ((HV.out.alloc (.cells #[.bool d.neg, .slice ao n c, .int .i64 d.e] 25)).below hb)
      obtain ⟨q0, q1, q2, f0, f1, f2⟩ := cells3 hb
      have HB2 := Lib.hid (HB.out.trans ((((Below.refl _ _).alloc (Nat.le_refl _) _).trans (hb.mono hsz)).mono HB.out.size))
      clear hb
      go_wp2_with fail
      refine (HTO.out _ _ ⟨_, rfl, HV2.out⟩).mono ?_
      rintro r w3 ⟨rfl, hb⟩
      have HB3 := Lib.hid (HB2.out.trans (hb.mono HB2.out.size))
      clear hb
      go_wp2
      go_ret
      exact ⟨rfl, HB3.out⟩
  · have hcase : (ofE x = 4) ∨ (ofE x = 0 ∧ mode < 0) ∨ (ofE x = 0 ∧ 0 ≤ mode ∧ 4 < mode) := by
      unfold ofE
      by_cases hv : hasV x = true
      · rw [if_pos hv]
        have : ¬ (0 ≤ mode ∧ mode ≤ 4) := fun h => hok ⟨hv, h⟩
        omega
      · rw [if_neg hv]; left; rfl
    have hof2 := hof
    generalize ofE x = E at *
    generalize ofD x = d at *
    have HOF := Lib.hid hof
    clear hof hof2 hok
    rcases hcase with rfl | ⟨rfl, g⟩ | ⟨rfl, g0, g⟩
    all_goals
      go_enter Tryd.func3, Tryd.ntmps3
      go_wp2_with fail
      refine HOF.out.mono ?_
      rintro r w1 ⟨v, rfl, ⟨s, rfl, hv⟩, hb⟩
      obtain ⟨ao, n, c, rfl⟩ := hv.shape
      have HB := Lib.hid hb
      clear hv hb
      go_wp2_with fail
      refine (roundLives_any _).mono ?_
      rintro r w2 ⟨rfl, hb⟩
      have hsz : w1.heap.size ≤ (w1.alloc (.cells #[.bool d.neg, .slice ao n c, .int .i64 d.e] 25)).heap.size := by simp
      have HB2 := Lib.hid (HB.out.trans ((((Below.refl _ _).alloc (Nat.le_refl _) _).trans (hb.mono hsz)).mono HB.out.size))
      clear hb
      go_wp2_with fail
      refine (roundLives_any _).mono ?_
      rintro r w3 ⟨rfl, hb⟩
      have HB3 := Lib.hid (HB2.out.trans (hb.mono HB2.out.size))
      clear hb
      go_wp2_with fail
      go_ret
      exact ⟨rfl, HB3.out⟩
end Go.Proofs.YtdknfdncgmeimaaDoor
