/-
  THE WALK of the law RoundParts.
-/
import Derived.Test.YtdknfdncgmeimaaRoundTurnedW
import Derived.Test.YtdknfdncgmeimaaPart
import Derived.Test.YtdknfdncgmeimaaFrk
set_option linter.unusedVariables false
set_option linter.unusedSimpArgs false
namespace Go.Proofs.Ytdknfdncgmeimaa
open Go.RowKit Nt Fm Fl

/-- a number with a part less, as it is, with a part more, rounded -/
theorem parts_num (d : D) (hn : d.Nf) (mode : Int) :
    besD d 0 = d ∧ numC (besD d 1) = true ∧ numC (besD d (-1)) = true ∧ frank (numR (besD d (-1)) mode) ≤ frank (numR d mode) ∧ frank (numR d mode) ≤ frank (numR (besD d 1) mode) ∧ frank (numR (besD d 1) mode) - frank (numR (besD d (-1)) mode) ≤ 2 := by
  have e0 : besD d 0 = d := by unfold besD; rw [if_pos rfl]
  refine ⟨e0, ?_⟩
  rw [(rank_numR _ _).1, (rank_numR _ _).1, (rank_numR _ _).1]
  by_cases hz : d.m = 0
  · have hd : d = nz := by
      rcases hn with h | h
      · exact h
      · omega
    subst hd
    have e1 : besD nz 1 = ⟨false, 1, -2000⟩ := by unfold besD; rw [if_neg (by decide)]; rfl
    have e2 : besD nz (-1) = ⟨true, 1, -2000⟩ := by unfold besD; rw [if_neg (by decide)]; rfl
    rw [e1, e2]
    have t1 := tiny_le (kd false mode)
    have t2 := tiny_le (kd true mode)
    have z : numk (kd false mode) 0 0 = 0 := by unfold numk; rw [if_pos rfl]
    refine ⟨tiny_lost, tiny_lost, ?_, ?_, ?_⟩ <;> (unfold rg; (try unfold nz); simp only [Bool.false_eq_true, if_false, if_true]; omega)
  · have hb := beside_up d.neg d.m d.e mode hz
    obtain ⟨neg, m, e⟩ := d
    simp only at hb hz
    have e1 : besD ⟨neg, m, e⟩ 1 = ⟨neg, if neg then m * 2 ^ 64 - 1 else m * 2 ^ 64 + 1, e - 64⟩ := by unfold besD; rw [if_neg (by decide), if_neg hz]; cases neg <;> simp [besM]
    have e2 : besD ⟨neg, m, e⟩ (-1) = ⟨neg, if neg then m * 2 ^ 64 + 1 else m * 2 ^ 64 - 1, e - 64⟩ := by unfold besD; rw [if_neg (by decide), if_neg hz]; cases neg <;> simp [besM]
    rw [e1, e2]
    have l1 : chg (m * 2 ^ 64 + 1) (e - 64) = true := odd_lost (by omega) (by omega)
    have l2 : chg (m * 2 ^ 64 - 1) (e - 64) = true := odd_lost (by omega) (by omega)
    unfold numC
    cases neg
    · obtain ⟨b1, b2, b3⟩ := hb.1 rfl
      simp only [Bool.false_eq_true, if_false]
      exact ⟨l1, l2, b1, b2, b3⟩
    · obtain ⟨b1, b2, b3⟩ := hb.2 rfl
      simp only [if_true]
      exact ⟨l2, l1, b1, b2, b3⟩

theorem one_lim (w : World) (T : TypeId) : Lim (w.alloc (.cells #[.int .u32 1] T)) (.slice (some ⟨w.heap.size, 0, none⟩) 1 1) [1] := by
  refine ⟨Lims.cons (by decide) Lims.nil, some ⟨w.heap.size, 0, none⟩, 1, rfl, by decide, by decide, Or.inr ⟨w.heap.size, 0, rfl, by simp, ?_⟩⟩
  intro i hi
  match i, hi with
  | 0, _ => simp [go_sem]
theorem nil_lim (w : World) : Lim w (.slice none 0 0) [] := ⟨Lims.nil, none, 0, rfl, Nat.zero_le _, Nat.zero_le _, Or.inl (by simp)⟩

set_option maxHeartbeats 8000000 in
theorem walkRoundParts (v : Value) (neg : Bool) (l : List Nat) (e mode : Int) (m0 : -9223372036854775808 ≤ mode) (m1 : mode ≤ 9223372036854775807) (w : World) (h : SV w v neg l e) :
    Calls Try.prog 5 #[v, .int .i64 mode] w fun e w' => e = .returned (.bool true) ∧ Below w.heap.size w w' := by
  have h' := h
  obtain ⟨s, rfl, hlims, ao, cap, rfl, hcap, hm, hc⟩ := h
  unfold maxLen at hm
  clear hc
  have hto := fun w1 h1 => to_any (.agg #[.bool neg, .slice ao l.length cap, .int .i64 e]) neg l e mode w1 h1 m0 m1
  have hp0 := fun w1 h1 => part_any (.agg #[.bool neg, .slice ao l.length cap, .int .i64 e]) neg l e (.agg #[.bool false, .slice none 0 0, .int .i64 0]) false [] mode w1 h1 ⟨_, rfl, nil_lim w1⟩ (Or.inl ⟨rfl, rfl⟩) m0 m1 0 (by decide) _ _ rfl rfl
  have hp1 := fun b w1 h1 hl => part_any (.agg #[.bool neg, .slice ao l.length cap, .int .i64 e]) neg l e (.agg #[.bool false, .slice (some ⟨b, 0, none⟩) 1 1, .int .i64 0]) false [1] mode w1 h1 ⟨_, rfl, hl⟩ (Or.inr rfl) m0 m1 1 (by decide) _ _ rfl rfl
  have hp2 := fun b w1 h1 hl => part_any (.agg #[.bool neg, .slice ao l.length cap, .int .i64 e]) neg l e (.agg #[.bool true, .slice (some ⟨b, 0, none⟩) 1 1, .int .i64 0]) true [1] mode w1 h1 ⟨_, rfl, hl⟩ (Or.inr rfl) m0 m1 (-1) (by decide) _ _ rfl rfl
  have H := Lib.hid h'
  by_cases hE : paE (chkE neg l e) l.length mode = 0
  · have hE2 : chkE neg l e = 0 ∧ 0 ≤ mode ∧ mode ≤ 4 := by
      unfold paE at hE; split at hE
      · split at hE
        · omega
        · exact ⟨by assumption, by omega, by omega⟩
      · omega
    obtain ⟨hz, hm0, hm4⟩ := hE2
    have hform := chkE_form hlims hz
    obtain ⟨n0, n1, n2, n3, n4, n5⟩ := parts_num ⟨neg, val l, e⟩ hform.2.2.2.2.1 mode
    have r0 : roE (chkE neg l e) mode = 0 := by rw [hz]; unfold roE; rw [if_pos rfl, if_neg (by omega)]
    unfold roV roC at hto
    simp only [r0, if_true] at hto
    simp only [hE, if_true, n0] at hp0
    simp only [hE, if_true, n1] at hp1
    simp only [hE, if_true, n2] at hp2
    have b0 := numR_bd ⟨neg, val l, e⟩ mode
    have b1 := numR_bd (besD ⟨neg, val l, e⟩ 1) mode
    have b2 := numR_bd (besD ⟨neg, val l, e⟩ (-1)) mode
    have f0 := (rank_numR ⟨neg, val l, e⟩ mode).2
    have f1 := (rank_numR (besD ⟨neg, val l, e⟩ 1) mode).2
    have f2 := (rank_numR (besD ⟨neg, val l, e⟩ (-1)) mode).2
    generalize numR (besD ⟨neg, val l, e⟩ 1) mode = hi at *
    generalize numR (besD ⟨neg, val l, e⟩ (-1)) mode = lo at *
    generalize numR ⟨neg, val l, e⟩ mode = x at *
    generalize numC ⟨neg, val l, e⟩ = C at *
    have HTO := Lib.hid hto
    have HP0 := Lib.hid hp0
    have HP1 := Lib.hid hp1
    have HP2 := Lib.hid hp2
    have k1 := ok4_mk
    have k2 := ok3_mk
    obtain ⟨b00, b01⟩ := b0
    obtain ⟨b10, b11⟩ := b1
    obtain ⟨b20, b21⟩ := b2
    have fb0 := frank_bd x
    have fb1 := frank_bd lo
    have fb2 := frank_bd hi
    clear hto hp0 hp1 hp2 hE h' hz hform n0 n1 n2 r0
    go_enter Try.func5, Try.ntmps5
    go_wp2_with fail
    refine (HTO.out _ (H.out.below ((Below.refl _ _).alloc (Nat.le_refl _) _))).mono ?_
    rintro r w1 ⟨rfl, hb⟩
    have B1 := Lib.hid (bl_thru ((Below.refl w.heap.size w).alloc (Nat.le_refl _) _) (Nat.le_refl _) hb)
    have X1 := Lib.hid ((Box.new w _ _ _ _).below hb)
    obtain ⟨q0, q1, q2, g0, g1, g2⟩ := X1.out.cells
    clear hb
    go_wp2_with fail
    refine (HP0.out _ (H.out.below B1.out)).mono ?_
    rintro r w2 ⟨rfl, hb⟩
    have B2 := Lib.hid (bl_thru B1.out (Nat.le_refl _) hb)
    have X2 := Lib.hid (X1.out.below hb)
    obtain ⟨q0, q1, q2, g0, g1, g2⟩ := X2.out.cells
    clear hb
    go_wp2_with fail
    refine (HP1.out _ _ ((H.out.below B2.out).below ((Below.refl _ _).alloc (Nat.le_refl _) _)) (one_lim _ _)).mono ?_
    rintro r w3 ⟨rfl, hb⟩
    have B3 := Lib.hid (bl_thru (B2.out.alloc (B2.out.size) _) (Nat.le_refl _) hb)
    have X3 := Lib.hid ((X2.out.alloc _).below hb)
    obtain ⟨q0, q1, q2, g0, g1, g2⟩ := X3.out.cells
    clear hb
    go_wp2_with fail
    refine (HP2.out _ _ ((H.out.below B3.out).below ((Below.refl _ _).alloc (Nat.le_refl _) _)) (one_lim _ _)).mono ?_
    rintro r w4 ⟨rfl, hb⟩
    have B4 := Lib.hid (bl_thru (B3.out.alloc (B3.out.size) _) (Nat.le_refl _) hb)
    clear hb
    go_wp2_with fail
    refine (roundLives_any _).mono ?_
    rintro r w5 ⟨rfl, hb⟩
    have B5 := Lib.hid (bl_thru B4.out (Nat.le_refl _) hb)
    clear hb
    go_wp2_with (go_at_call 9; refine (ok_new4 _ _ _ _ _ _ rfl).mono ?_; rintro e w' ⟨rfl, rfl⟩)
    go_wp2_with (go_at_call 10; refine (rank_any _ (by omega) (by omega) _).mono ?_; rintro e w' ⟨rfl, rfl⟩)
    go_wp2_with (go_at_call 9; refine (ok_new3 _ _ _ _ _ (by simp)).mono ?_; rintro e w' ⟨rfl, rfl⟩)
    go_ret
    have B6 := B5.out.size
    exact ⟨rfl, (B5.out.alloc B6 _).alloc (by simp; omega) _⟩
  · have k1 : ∀ e0, ok4 e0 (paE (chkE neg l e) l.length mode) (paE (chkE neg l e) l.length mode) (paE (chkE neg l e) l.length mode) = false := fun e0 => by
      unfold ok4
      have : (paE (chkE neg l e) l.length mode == 0) = false := by rw [beq_eq_false_iff_ne]; exact hE
      rw [this]; simp
    simp only [if_neg hE] at hp0 hp1 hp2
    generalize paE (chkE neg l e) l.length mode = E at *
    generalize roE (chkE neg l e) mode = E0 at *
    generalize roV (chkE neg l e) mode ⟨neg, val l, e⟩ = x at *
    generalize roC (chkE neg l e) mode ⟨neg, val l, e⟩ = C at *
    have k1 := k1 E0
    have HTO := Lib.hid hto
    have HP0 := Lib.hid hp0
    have HP1 := Lib.hid hp1
    have HP2 := Lib.hid hp2
    clear hto hp0 hp1 hp2 hE h'
    go_enter Try.func5, Try.ntmps5
    go_wp2_with fail
    refine (HTO.out _ (H.out.below ((Below.refl _ _).alloc (Nat.le_refl _) _))).mono ?_
    rintro r w1 ⟨rfl, hb⟩
    have B1 := Lib.hid (bl_thru ((Below.refl w.heap.size w).alloc (Nat.le_refl _) _) (Nat.le_refl _) hb)
    have X1 := Lib.hid ((Box.new w _ _ _ _).below hb)
    obtain ⟨q0, q1, q2, g0, g1, g2⟩ := X1.out.cells
    clear hb
    go_wp2_with fail
    refine (HP0.out _ (H.out.below B1.out)).mono ?_
    rintro r w2 ⟨rfl, hb⟩
    have B2 := Lib.hid (bl_thru B1.out (Nat.le_refl _) hb)
    have X2 := Lib.hid (X1.out.below hb)
    obtain ⟨q0, q1, q2, g0, g1, g2⟩ := X2.out.cells
    clear hb
    go_wp2_with fail
    refine (HP1.out _ _ ((H.out.below B2.out).below ((Below.refl _ _).alloc (Nat.le_refl _) _)) (one_lim _ _)).mono ?_
    rintro r w3 ⟨rfl, hb⟩
    have B3 := Lib.hid (bl_thru (B2.out.alloc (B2.out.size) _) (Nat.le_refl _) hb)
    have X3 := Lib.hid ((X2.out.alloc _).below hb)
    obtain ⟨q0, q1, q2, g0, g1, g2⟩ := X3.out.cells
    clear hb
    go_wp2_with fail
    refine (HP2.out _ _ ((H.out.below B3.out).below ((Below.refl _ _).alloc (Nat.le_refl _) _)) (one_lim _ _)).mono ?_
    rintro r w4 ⟨rfl, hb⟩
    have B4 := Lib.hid (bl_thru (B3.out.alloc (B3.out.size) _) (Nat.le_refl _) hb)
    clear hb
    go_wp2_with fail
    refine (roundLives_any _).mono ?_
    rintro r w5 ⟨rfl, hb⟩
    have B5 := Lib.hid (bl_thru B4.out (Nat.le_refl _) hb)
    clear hb
    go_wp2_with (go_at_call 9; refine (ok_new4 _ _ _ _ _ _ rfl).mono ?_; rintro e w' ⟨rfl, rfl⟩)
    refine (roundLives_any _).mono ?_
    rintro r w6 ⟨rfl, hb⟩
    have B6 := Lib.hid (bl_thru (B5.out.alloc (B5.out.size) _) (Nat.le_refl _) hb)
    clear hb
    go_wp2
    go_ret
    exact ⟨rfl, B6.out⟩
end Go.Proofs.Ytdknfdncgmeimaa
