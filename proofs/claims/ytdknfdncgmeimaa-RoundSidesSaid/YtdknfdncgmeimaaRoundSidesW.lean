/-
  THE WALK of the law RoundSides.
-/
import Derived.Test.YtdknfdncgmeimaaRoundTurnedW
set_option linter.unusedVariables false
set_option linter.unusedSimpArgs false
namespace Go.Proofs.Ytdknfdncgmeimaa
open Go.RowKit Nt Fm Fl

/-- three roundings of one number: down, up, in a mode -/
def sidesP (neg : Bool) (c : Bool) (lo hi x mode : Int) : Prop :=
  0 ≤ lo ∧ lo ≤ 18446744073709551615 ∧ 0 ≤ hi ∧ hi ≤ 18446744073709551615 ∧ frerr lo = 0 ∧ frerr hi = 0 ∧ (x = lo ∨ x = hi) ∧ (c = false → lo = hi) ∧ (c = true → frank hi = frank lo + 1) ∧ (mode = 3 → x = if neg then hi else lo)

theorem frank_pos {n : Nat} (h : n ≤ MR) : frank (n : Int) = n ∧ frerr (n : Int) = 0 := by
  have hMR : MR = 9218868437227405312 := rfl
  unfold frank frerr fabs; omega
theorem frank_neg {n : Nat} (h : n ≤ MR) : frank ((n : Int) + 9223372036854775808) = -n ∧ frerr ((n : Int) + 9223372036854775808) = 0 := by
  have hMR : MR = 9218868437227405312 := rfl
  unfold frank frerr fabs; omega
theorem frank_numR (d : D) (mode : Int) : frank (numR d mode) = rg d.neg mode d.m d.e ∧ frerr (numR d mode) = 0 := by
  have h := numk_le_MR (kd d.neg mode) d.m d.e
  unfold numR rg
  cases d.neg
  · have := frank_pos (numk_le_MR (kd false mode) d.m d.e)
    simpa using this
  · have := frank_neg (numk_le_MR (kd true mode) d.m d.e)
    simpa using this

theorem sides_num (d : D) (mode : Int) (h0 : 0 ≤ mode) (h1 : mode ≤ 4) : sidesP d.neg (numC d) (numR d 2) (numR d 1) (numR d mode) mode := by
  obtain ⟨neg, m, e⟩ := d
  have b1 := numR_bd ⟨neg, m, e⟩ 2
  have b2 := numR_bd ⟨neg, m, e⟩ 1
  refine ⟨b1.1, b1.2, b2.1, b2.2, (frank_numR _ _).2, (frank_numR _ _).2, ?_, ?_, ?_, ?_⟩
  · have hs := (numk_sides (m := m) (e := e) (kd neg mode)).2
    unfold numR
    cases neg
    · have k1 : kd false 2 = 0 := by decide
      have k2 : kd false 1 = 1 := by decide
      simp only [k1, k2]
      rcases hs with hs | hs <;> rw [hs] <;> simp
    · have k1 : kd true 2 = 1 := by decide
      have k2 : kd true 1 = 0 := by decide
      simp only [k1, k2]
      rcases hs with hs | hs <;> rw [hs] <;> simp
  · intro hc
    have h : ∀ k, numk k m e = numk 0 m e := fun k => by
      have ht : (0 : Int) ≤ e + 1074 + ((-(e + 1074)).toNat : Nat) := by omega
      obtain ⟨a1, a2⟩ := chg_exact ht 0 hc
      exact numk_exact ht k _ a1 a2
    unfold numR
    simp only
    rw [h, h (kd neg 1)]
  · intro hc
    rw [(frank_numR _ _).1, (frank_numR _ _).1]
    have hs := (numk_sides (m := m) (e := e) 0).1 hc
    unfold rg
    cases neg
    · have k1 : kd false 2 = 0 := by decide
      have k2 : kd false 1 = 1 := by decide
      simp only [k1, k2, Bool.false_eq_true, if_false]
      omega
    · have k1 : kd true 2 = 1 := by decide
      have k2 : kd true 1 = 0 := by decide
      simp only [k1, k2, if_true]
      omega
  · rintro rfl
    unfold numR
    cases neg
    · have k1 : kd false 2 = 0 := by decide
      have k2 : kd false 3 = 0 := by decide
      simp only [k1, k2, Bool.false_eq_true, if_false]
    · have k1 : kd true 3 = 0 := by decide
      have k2 : kd true 1 = 0 := by decide
      simp only [k1, k2, if_true]

theorem sides_ways {neg c : Bool} {lo hi x mode : Int} (h : sidesP neg c lo hi x mode) :
    (0 ≤ lo ∧ lo ≤ 18446744073709551615 ∧ 0 ≤ hi ∧ hi ≤ 18446744073709551615 ∧ frerr lo = 0 ∧ frerr hi = 0) ∧ (neg = false ∨ neg = true) ∧
    ((c = false ∧ hi = lo ∧ x = lo ∧ (mode = 3 ∨ (mode != 3) = true)) ∨
     (c = true ∧ frank hi = frank lo + 1 ∧ (hi != lo) = true ∧ (lo != hi) = true ∧ ((mode = 3 ∧ neg = false ∧ x = lo) ∨ (mode = 3 ∧ neg = true ∧ x = hi) ∨ ((mode != 3) = true ∧ x = lo) ∨ ((mode != 3) = true ∧ x = hi)))) := by
  obtain ⟨a1, a2, a3, a4, a5, a6, a7, a8, a9, a10⟩ := h
  refine ⟨⟨a1, a2, a3, a4, a5, a6⟩, by cases neg <;> simp, ?_⟩
  have hm : mode = 3 ∨ (mode != 3) = true := by
    by_cases h : mode = 3
    · exact Or.inl h
    · right; rw [bne_iff_ne]; exact h
  cases c
  · left
    have := a8 rfl
    refine ⟨rfl, this.symm, ?_, hm⟩
    rcases a7 with h | h
    · exact h
    · rw [h, this]
  · right
    have h9 := a9 rfl
    have hne : hi ≠ lo := by rintro rfl; omega
    refine ⟨rfl, h9, by rw [bne_iff_ne]; exact hne, by rw [bne_iff_ne]; exact hne.symm, ?_⟩
    rcases hm with h | h
    · have := a10 h
      cases neg
      · left; exact ⟨h, rfl, this⟩
      · right; left; exact ⟨h, rfl, this⟩
    · rcases a7 with h7 | h7
      · right; right; left; exact ⟨h, h7⟩
      · right; right; right; exact ⟨h, h7⟩

set_option maxHeartbeats 16000000 in
theorem walkRoundSides (v : Value) (neg : Bool) (l : List Nat) (e mode : Int) (m0 : -9223372036854775808 ≤ mode) (m1 : mode ≤ 9223372036854775807) (w : World) (h : SV w v neg l e) :
    Calls Try.prog 4 #[v, .int .i64 mode] w fun e w' => e = .returned (.bool true) ∧ Below w.heap.size w w' := by
  have h' := h
  obtain ⟨s, rfl, hlims, ao, cap, rfl, hcap, hm, hc⟩ := h
  unfold maxLen at hm
  clear hc
  have hto := fun mode m0 m1 w1 h1 => to_any (.agg #[.bool neg, .slice ao l.length cap, .int .i64 e]) neg l e mode w1 h1 m0 m1
  have H := Lib.hid h'
  by_cases hE : chkE neg l e = 0
  · rw [hE] at hto
    have e2 : roE 0 2 = 0 := by decide
    have e1 : roE 0 1 = 0 := by decide
    have v2 : roV 0 2 ⟨neg, val l, e⟩ = numR ⟨neg, val l, e⟩ 2 := by unfold roV; rw [if_pos e2]
    have v1 : roV 0 1 ⟨neg, val l, e⟩ = numR ⟨neg, val l, e⟩ 1 := by unfold roV; rw [if_pos e1]
    have c2 : roC 0 2 ⟨neg, val l, e⟩ = numC ⟨neg, val l, e⟩ := by unfold roC; rw [if_pos e2]
    have c1 : roC 0 1 ⟨neg, val l, e⟩ = numC ⟨neg, val l, e⟩ := by unfold roC; rw [if_pos e1]
    have t2 := hto 2 (by decide) (by decide)
    have t1 := hto 1 (by decide) (by decide)
    rw [e2, v2, c2] at t2
    rw [e1, v1, c1] at t1
    have t0 := hto mode m0 m1
    by_cases hM : roE 0 mode = 0
    · have hmode : 0 ≤ mode ∧ mode ≤ 4 := by
        unfold roE at hM; rw [if_pos rfl] at hM; split at hM <;> omega
      have v0 : roV 0 mode ⟨neg, val l, e⟩ = numR ⟨neg, val l, e⟩ mode := by unfold roV; rw [if_pos hM]
      have c0 : roC 0 mode ⟨neg, val l, e⟩ = numC ⟨neg, val l, e⟩ := by unfold roC; rw [if_pos hM]
      rw [hM, v0, c0] at t0
      have hs := sides_num ⟨neg, val l, e⟩ mode hmode.1 hmode.2
      simp only at hs
      have hs2 := sides_ways hs
      generalize numR ⟨neg, val l, e⟩ mode = x at *
      generalize numR ⟨neg, val l, e⟩ 2 = lo at *
      generalize numR ⟨neg, val l, e⟩ 1 = hi at *
      generalize numC ⟨neg, val l, e⟩ = C at *
      have T0 := Lib.hid t0
      have T1 := Lib.hid t1
      have T2 := Lib.hid t2
      have k1 := ok3_mk
      have k2 := ok2_mk
      have fb := frank_bd lo
      clear hs t0 t1 t2 v0 v1 v2 c0 c1 c2 e1 e2 hto hM hE h' hmode
      obtain ⟨⟨b1, b2, b3, b4, b5, b6⟩, hneg, hs2⟩ := hs2
      rcases hs2 with ⟨rfl, rfl, rfl, rfl | hm3⟩ | ⟨rfl, hf, hx1, hx2, ⟨rfl, rfl, rfl⟩ | ⟨rfl, rfl, rfl⟩ | ⟨hm3, rfl⟩ | ⟨hm3, rfl⟩⟩
      all_goals
        rcases hneg with hneg | hneg
        all_goals first | (exfalso; cases hneg; done) | skip
        all_goals
          try subst hneg
          go_enter Try.func4, Try.ntmps4
          go_wp2_with fail
          refine (T2.out _ (H.out.below ((Below.refl _ _).alloc (Nat.le_refl _) _))).mono ?_
          rintro r w1 ⟨rfl, hb⟩
          have B1 := Lib.hid hb
          obtain ⟨q0, q1, q2, f0, f1, f2⟩ := cells3 hb
          clear hb
          go_wp2_with fail
          refine (T1.out _ (H.out.below (((Below.refl _ _).alloc (Nat.le_refl _) _).trans (B1.out.mono (by simp))))).mono ?_
          rintro r w2 ⟨rfl, hb⟩
          have B2 := Lib.hid (B1.out.trans (hb.mono B1.out.size))
          obtain ⟨q0, q1, q2, f0, f1, f2⟩ := cells3 B2.out
          clear hb
          go_wp2_with fail
          refine (T0.out _ (H.out.below (((Below.refl _ _).alloc (Nat.le_refl _) _).trans (B2.out.mono (by simp))))).mono ?_
          rintro r w3 ⟨rfl, hb⟩
          have B3 := Lib.hid (B2.out.trans (hb.mono B2.out.size))
          clear hb
          go_wp2_with fail
          refine (roundLives_any _).mono ?_
          rintro r w4 ⟨rfl, hb⟩
          have B4 := Lib.hid (B3.out.trans (hb.mono B3.out.size))
          obtain ⟨q0, q1, q2, f0, f1, f2⟩ := cells3 B4.out
          have hlt : w.heap.size < w4.heap.size := by have := B4.out.size; simp at this; omega
          clear hb
          go_wp2_with (go_at_call 9; refine (ok_new3 _ _ _ _ _ rfl).mono ?_; rintro e w' ⟨rfl, rfl⟩)
          go_wp2_with (go_at_call 10; refine (rank_any _ (by omega) (by omega) _).mono ?_; rintro e w' ⟨rfl, rfl⟩)
          go_wp2_with (go_at_call 9; refine (ok_new2 _ _ _ _ (by simp)).mono ?_; rintro e w' ⟨rfl, rfl⟩)
          go_ret
          have B5 := B4.out.size
          refine ⟨rfl, Below.alloc (Below.alloc (((Below.refl _ _).alloc (Nat.le_refl _) _).trans (B4.out.mono (by simp))) ?_ _) ?_ _⟩
          · simp at B5; omega
          · simp at B5 ⊢; omega
    · skip
      generalize roE 0 mode = E at *
      have hE0 : (E != 0) = true := by rw [bne_iff_ne]; exact hM
      have k1 : ok3 0 0 E = false := by unfold ok3; have : (E == 0) = false := by rw [beq_eq_false_iff_ne]; exact hM
                                        rw [this]; rfl
      generalize numR ⟨neg, val l, e⟩ 2 = lo at *
      generalize numR ⟨neg, val l, e⟩ 1 = hi at *
      generalize numC ⟨neg, val l, e⟩ = C at *
      generalize roV 0 mode ⟨neg, val l, e⟩ = x at *
      generalize roC 0 mode ⟨neg, val l, e⟩ = C0 at *
      have T0 := Lib.hid t0
      have T1 := Lib.hid t1
      have T2 := Lib.hid t2
      clear t0 t1 t2 v1 v2 c1 c2 e1 e2 hto hE h'
      go_enter Try.func4, Try.ntmps4
      go_wp2_with fail
      refine (T2.out _ (H.out.below ((Below.refl _ _).alloc (Nat.le_refl _) _))).mono ?_
      rintro r w1 ⟨rfl, hb⟩
      have B1 := Lib.hid hb
      obtain ⟨q0, q1, q2, f0, f1, f2⟩ := cells3 hb
      clear hb
      go_wp2_with fail
      refine (T1.out _ (H.out.below (((Below.refl _ _).alloc (Nat.le_refl _) _).trans (B1.out.mono (by simp))))).mono ?_
      rintro r w2 ⟨rfl, hb⟩
      have B2 := Lib.hid (B1.out.trans (hb.mono B1.out.size))
      obtain ⟨q0, q1, q2, f0, f1, f2⟩ := cells3 B2.out
      clear hb
      go_wp2_with fail
      refine (T0.out _ (H.out.below (((Below.refl _ _).alloc (Nat.le_refl _) _).trans (B2.out.mono (by simp))))).mono ?_
      rintro r w3 ⟨rfl, hb⟩
      have B3 := Lib.hid (B2.out.trans (hb.mono B2.out.size))
      clear hb
      go_wp2_with fail
      refine (roundLives_any _).mono ?_
      rintro r w4 ⟨rfl, hb⟩
      have B4 := Lib.hid (B3.out.trans (hb.mono B3.out.size))
      obtain ⟨q0, q1, q2, f0, f1, f2⟩ := cells3 B4.out
      clear hb
      go_wp2_with (go_at_call 9; refine (ok_new3 _ _ _ _ _ rfl).mono ?_; rintro e w' ⟨rfl, rfl⟩)
      refine (roundLives_any _).mono ?_
      rintro r w5 ⟨rfl, hb⟩
      have B5 := Lib.hid hb
      clear hb
      go_wp2_with fail
      go_ret
      have B6 := B4.out.size
      refine ⟨rfl, Below.trans (Below.alloc (((Below.refl _ _).alloc (Nat.le_refl _) _).trans (B4.out.mono (by simp))) ?_ _) (B5.out.mono ?_)⟩
      · simp at B6; omega
      · simp at B6 ⊢; omega
  · have hE0 : (chkE neg l e == 0) = false := by rw [beq_eq_false_iff_ne]; exact hE
    have e0 : ∀ mode, roE (chkE neg l e) mode = chkE neg l e := fun mode => by unfold roE; rw [if_neg hE]
    have k1 : ok3 (chkE neg l e) (chkE neg l e) (chkE neg l e) = false := by unfold ok3; rw [hE0]; rfl
    have t2 := hto 2 (by decide) (by decide)
    have t1 := hto 1 (by decide) (by decide)
    have t0 := hto mode m0 m1
    rw [e0] at t2 t1 t0
    generalize roV (chkE neg l e) 2 ⟨neg, val l, e⟩ = lo at *
    generalize roV (chkE neg l e) 1 ⟨neg, val l, e⟩ = hi at *
    generalize roV (chkE neg l e) mode ⟨neg, val l, e⟩ = x at *
    generalize roC (chkE neg l e) 2 ⟨neg, val l, e⟩ = C2 at *
    generalize roC (chkE neg l e) 1 ⟨neg, val l, e⟩ = C1 at *
    generalize roC (chkE neg l e) mode ⟨neg, val l, e⟩ = C0 at *
    clear hto e0
    generalize chkE neg l e = E at *
    have T0 := Lib.hid t0
    have T1 := Lib.hid t1
    have T2 := Lib.hid t2
    clear t0 t1 t2 h' hE
    go_enter Try.func4, Try.ntmps4
    go_wp2_with fail
    refine (T2.out _ (H.out.below ((Below.refl _ _).alloc (Nat.le_refl _) _))).mono ?_
    rintro r w1 ⟨rfl, hb⟩
    have B1 := Lib.hid hb
    obtain ⟨q0, q1, q2, f0, f1, f2⟩ := cells3 hb
    clear hb
    go_wp2_with fail
    refine (T1.out _ (H.out.below (((Below.refl _ _).alloc (Nat.le_refl _) _).trans (B1.out.mono (by simp))))).mono ?_
    rintro r w2 ⟨rfl, hb⟩
    have B2 := Lib.hid (B1.out.trans (hb.mono B1.out.size))
    obtain ⟨q0, q1, q2, f0, f1, f2⟩ := cells3 B2.out
    clear hb
    go_wp2_with fail
    refine (T0.out _ (H.out.below (((Below.refl _ _).alloc (Nat.le_refl _) _).trans (B2.out.mono (by simp))))).mono ?_
    rintro r w3 ⟨rfl, hb⟩
    have B3 := Lib.hid (B2.out.trans (hb.mono B2.out.size))
    clear hb
    go_wp2_with fail
    refine (roundLives_any _).mono ?_
    rintro r w4 ⟨rfl, hb⟩
    have B4 := Lib.hid (B3.out.trans (hb.mono B3.out.size))
    obtain ⟨q0, q1, q2, f0, f1, f2⟩ := cells3 B4.out
    clear hb
    go_wp2_with (go_at_call 9; refine (ok_new3 _ _ _ _ _ rfl).mono ?_; rintro e w' ⟨rfl, rfl⟩)
    refine (roundLives_any _).mono ?_
    rintro r w5 ⟨rfl, hb⟩
    have B5 := Lib.hid hb
    clear hb
    go_wp2_with fail
    go_ret
    have B6 := B4.out.size
    refine ⟨rfl, Below.trans (Below.alloc (((Below.refl _ _).alloc (Nat.le_refl _) _).trans (B4.out.mono (by simp))) ?_ _) (B5.out.mono ?_)⟩
    · simp at B6; omega
    · simp at B6 ⊢; omega
end Go.Proofs.Ytdknfdncgmeimaa
