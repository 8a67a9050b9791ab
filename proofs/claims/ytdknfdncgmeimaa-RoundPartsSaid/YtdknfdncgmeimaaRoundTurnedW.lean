/-
  THE WALK of the law RoundTurned.
-/
import Derived.Test.YtdknfdncgmeimaaRoundLives
import Derived.Test.YtdknfdncgmeimaaFloatB
set_option linter.unusedVariables false
set_option linter.unusedSimpArgs false
namespace Go.Proofs.Ytdknfdncgmeimaa
open Go.RowKit Nt Fm Fl

def swapM (mode : Int) : Int := if mode = 1 then 2 else if mode = 2 then 1 else mode
theorem numR_bd (d : D) (mode : Int) : 0 ≤ numR d mode ∧ numR d mode ≤ 18446744073709551615 := by
  have := numk_le_MR (kd d.neg mode) d.m d.e
  have hMR : MR = 9218868437227405312 := rfl
  unfold numR; split <;> omega
theorem numR_turned (neg : Bool) (m : Nat) (e mode : Int) : numR ⟨!neg, m, e⟩ (swapM mode) = fneg (numR ⟨neg, m, e⟩ mode) := by
  have hk := kd_not neg mode
  have := numk_le_MR (kd neg mode) m e
  have hMR : MR = 9218868437227405312 := rfl
  unfold numR swapM fneg
  simp only
  rw [hk]
  cases neg <;> simp <;> omega
theorem chkE_turned (neg : Bool) {l : List Nat} (e : Int) (hl : 1 ≤ l.length) : chkE (!neg) l e = chkE neg l e := by
  unfold chkE
  rw [if_neg (show ¬ l.length = 0 by omega), if_neg (show ¬ l.length = 0 by omega)]
/-- round.To, where it is in order -/
theorem to_fine (v : Value) (neg : Bool) (l : List Nat) (e mode : Int) (w : World) (h : SV w v neg l e) (hc : chkE neg l e = 0) (m0 : 0 ≤ mode) (m1 : mode ≤ 4) :
    Calls Try.prog 6 #[v, .int .i64 mode] w fun r w' => r = .returned (.tuple #[.int .u64 (numR ⟨neg, val l, e⟩ mode), .bool (numC ⟨neg, val l, e⟩), .int .i64 0]) ∧ Below w.heap.size w w' := by
  have := to_any v neg l e mode w h (by omega) (by omega)
  have hE : roE 0 mode = 0 := by unfold roE; rw [if_pos rfl, if_neg (by omega)]
  rw [hc] at this
  unfold roV roC at this
  rw [hE, if_pos rfl, if_pos rfl] at this
  exact this

set_option maxHeartbeats 8000000 in
theorem walkRoundTurned (v : Value) (neg : Bool) (l : List Nat) (e mode : Int) (m0 : -9223372036854775808 ≤ mode) (m1 : mode ≤ 9223372036854775807) (w : World) (h : SV w v neg l e) :
    Calls Try.prog 3 #[v, .int .i64 mode] w fun e w' => e = .returned (.bool true) ∧ Below w.heap.size w w' := by
  have h' := h
  obtain ⟨s, rfl, hlims, ao, cap, rfl, hcap, hm, hc⟩ := h
  unfold maxLen at hm
  clear hc
  by_cases hE : roE (chkE neg l e) mode = 0
  · have hE2 : chkE neg l e = 0 ∧ 0 ≤ mode ∧ mode ≤ 4 := by
      unfold roE at hE; split at hE
      · split at hE
        · omega
        · exact ⟨by assumption, by omega, by omega⟩
      · omega
    obtain ⟨hc, hm0, hm4⟩ := hE2
    have hto := fun w1 h1 => to_fine (.agg #[.bool neg, .slice ao l.length cap, .int .i64 e]) neg l e mode w1 h1 hc hm0 hm4
    have hbd := numR_bd ⟨neg, val l, e⟩ mode
    by_cases hl : l.length ≤ 0
    · generalize numR ⟨neg, val l, e⟩ mode = R at *
      generalize numC ⟨neg, val l, e⟩ = C at *
      have HTO := Lib.hid hto
      have H := Lib.hid h'
      have hl0 : ((l.length : Int) == 0) = true := by rw [beq_iff_eq]; omega
      clear hto hE hc h'
      go_enter Try.func3, Try.ntmps3
      go_wp2_with fail
      refine (HTO.out _ (H.out.below ((Below.refl _ _).alloc (Nat.le_refl _) _))).mono ?_
      rintro r w1 ⟨rfl, hb⟩
      have HB := Lib.hid hb
      obtain ⟨q0, q1, q2, f0, f1, f2⟩ := cells3 hb
      clear hb
      go_wp2_with fail
      refine (roundLives_any _).mono ?_
      rintro r w2 ⟨rfl, hb⟩
      have HB2 := Lib.hid (hb.mono (HB.out.size))
      obtain ⟨q0, q1, q2, f0, f1, f2⟩ := cells3 (HB.out.trans (HB2.out))
      clear hb
      go_wp2_with fail
      refine (roundLives_any _).mono ?_
      rintro r w3 ⟨rfl, hb⟩
      have HB3 := Lib.hid (hb.mono (Nat.le_trans HB.out.size HB2.out.size))
      clear hb
      go_wp2_with fail
      go_ret
      exact ⟨rfl, (((Below.refl _ _).alloc (Nat.le_refl _) _).trans ((HB.out.trans (HB2.out.trans HB3.out)).mono (by simp)))⟩
    · have hct := (chkE_turned neg e (by omega : 1 ≤ l.length)).trans hc
      have hto2 := fun w1 h1 => to_fine (.agg #[.bool (!neg), .slice ao l.length cap, .int .i64 e]) (!neg) l e (swapM mode) w1 h1 hct (by unfold swapM; split <;> (try split) <;> omega) (by unfold swapM; split <;> (try split) <;> omega)
      have hC : numC ⟨!neg, val l, e⟩ = numC ⟨neg, val l, e⟩ := rfl
      rw [numR_turned, hC] at hto2
      have h2' : ∀ w1, Below w.heap.size w w1 → SV w1 (.agg #[.bool (!neg), .slice ao l.length cap, .int .i64 e]) (!neg) l e := by
        intro w1 hb
        obtain ⟨s, h1, h2⟩ := h'
        simp only [Value.agg.injEq, Array.mk.injEq, List.cons.injEq, true_and, and_true] at h1
        rw [h1]
        exact ⟨s, rfl, h2.below hb⟩
      generalize numR ⟨neg, val l, e⟩ mode = R at *
      generalize numC ⟨neg, val l, e⟩ = C at *
      have HTO := Lib.hid hto
      have HTO2 := Lib.hid hto2
      have H := Lib.hid h'
      have H2 := Lib.hid h2'
      obtain ⟨r0, r1⟩ := hbd
      have hl0 : ((l.length : Int) == 0) = false := by rw [beq_eq_false_iff_ne]; omega
      have hmode : (mode = 1 ∧ swapM mode = 2) ∨ (mode = 2 ∧ swapM mode = 1) ∨ ((mode == 1) = false ∧ (mode == 2) = false ∧ swapM mode = mode) := by
        by_cases g1 : mode = 1
        · left; exact ⟨g1, by rw [g1]; rfl⟩
        · by_cases g2 : mode = 2
          · right; left; exact ⟨g2, by rw [g2]; rfl⟩
          · right; right; exact ⟨by rw [beq_eq_false_iff_ne]; exact g1, by rw [beq_eq_false_iff_ne]; exact g2, by unfold swapM; rw [if_neg g1, if_neg g2]⟩
      clear hto hto2 hE hc h' h2' hct hC
      rcases hmode with ⟨rfl, g3⟩ | ⟨rfl, g3⟩ | ⟨g1, g2, g3⟩
      all_goals
        rw [g3] at HTO2
        go_enter Try.func3, Try.ntmps3
        go_wp2_with fail
        refine (HTO.out _ (H.out.below ((Below.refl _ _).alloc (Nat.le_refl _) _))).mono ?_
        rintro r w1 ⟨rfl, hb⟩
        have HB := Lib.hid hb
        obtain ⟨q0, q1, q2, f0, f1, f2⟩ := cells3 hb
        clear hb
        go_wp2_with fail
        refine (roundLives_any _).mono ?_
        rintro r w2 ⟨rfl, hb⟩
        have HB2 := Lib.hid ((((Below.refl _ _).alloc (Nat.le_refl _) _).trans ((HB.out.trans (hb.mono HB.out.size)).mono (by simp))))
        obtain ⟨q0, q1, q2, f0, f1, f2⟩ := cells3 (HB.out.trans (hb.mono HB.out.size))
        clear hb
        go_wp2_with fail
        refine (HTO2.out _ (H2.out _ (HB2.out.alloc (HB2.out.size) _))).mono ?_
        rintro r w3 ⟨rfl, hb⟩
        have HB3 := Lib.hid hb
        clear hb
        go_wp2_with (go_at_call 8; refine (neg_any _ (by omega) (by omega) _).mono ?_; rintro e w' ⟨rfl, rfl⟩)
        go_ret
        exact ⟨rfl, (HB2.out.alloc (HB2.out.size) _).trans (HB3.out.mono (by have := HB2.out.size; simp; omega))⟩
  · have hto := fun w1 h1 => to_any (.agg #[.bool neg, .slice ao l.length cap, .int .i64 e]) neg l e mode w1 h1 m0 m1
    generalize roE (chkE neg l e) mode = E at *
    have hE0 : (E != 0) = true := by rw [bne_iff_ne]; exact hE
    have HTO := Lib.hid hto
    have H := Lib.hid h'
    clear hto h'
    go_enter Try.func3, Try.ntmps3
    go_wp2_with fail
    refine (HTO.out _ (H.out.below ((Below.refl _ _).alloc (Nat.le_refl _) _))).mono ?_
    rintro r w1 ⟨rfl, hb⟩
    have HB := Lib.hid hb
    obtain ⟨q0, q1, q2, f0, f1, f2⟩ := cells3 hb
    clear hb
    go_wp2_with fail
    refine (roundLives_any _).mono ?_
    rintro r w2 ⟨rfl, hb⟩
    have HB2 := Lib.hid (hb.mono (HB.out.size))
    clear hb
    go_wp2_with fail
    refine (roundLives_any _).mono ?_
    rintro r w3 ⟨rfl, hb⟩
    have HB3 := Lib.hid (hb.mono (Nat.le_trans HB.out.size HB2.out.size))
    clear hb
    go_wp2_with fail
    go_ret
    exact ⟨rfl, (((Below.refl _ _).alloc (Nat.le_refl _) _).trans ((HB.out.trans (HB2.out.trans HB3.out)).mono (by simp)))⟩
end Go.Proofs.Ytdknfdncgmeimaa
