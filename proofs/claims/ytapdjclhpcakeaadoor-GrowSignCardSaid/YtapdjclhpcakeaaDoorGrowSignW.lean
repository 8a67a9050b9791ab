/-
  THE WALK of the law GrowSign.
-/
import Derived.Test.YtapdjclhpcakeaaDoorGx
import Derived.Test.YtapdjclhpcakeaaDoorGt
set_option linter.unusedVariables false
set_option linter.unusedSimpArgs false
namespace Go.Proofs.YtapdjclhpcakeaaDoor
open Go.RowKit Nt Fm Fl

theorem sumD_fit {l : List Int} (hu : ∀ x ∈ l, 0 ≤ x ∧ x ≤ 18446744073709551615) (hl : l.length ≤ 1000) : Fit (sumD l) := by
  have h := sumD_sml l hu l.length (Nat.le_refl _)
  rw [List.take_length] at h
  obtain ⟨⟨q, hq, hm⟩, e0, e1⟩ := h.bds (by omega)
  exact fit_of h.1 (by omega) hm (by omega) (by omega)
theorem gvD_fit {l : List Int} (hu : ∀ x ∈ l, 0 ≤ x ∧ x ≤ 18446744073709551615) : Fit (gvD l) := by
  unfold gvD; split
  · rename_i h; exact sumD_fit hu (by have := gcE_len' h; omega)
  · exact Fit.nz
theorem cmp_nz (d : D) : cmp d nz = sign d := by
  obtain ⟨T, h1, h2⟩ := exT d.e nz.e
  rw [cmp_vl _ _ T h1 h2, vl_zero (d := nz) rfl, Int.sub_zero, sign_vl d T]
theorem sign_zero {l : List Int} (hu : ∀ x ∈ l, 0 ≤ x ∧ x ≤ 18446744073709551615) (hg : gcE l = 0) : sign (sumD l) = 0 ↔ l.length = 0 := by
  have hn := nov_of_good hu hg
  obtain ⟨a, b⟩ := sumD_ss l hu (fun i hi => (hn.val i hi).1) l.length (Nat.le_refl _)
  rw [List.take_length] at a
  rw [sign_vl _ 1074, a]
  constructor
  · intro h
    have h2 := Int.sign_eq_zero_iff_zero.1 h
    rcases Nat.eq_zero_or_pos l.length with h0 | h0
    · exact h0
    · exact absurd h2 (hn.ne_zero h0)
  · intro h
    rw [List.length_eq_zero_iff.1 h]; rfl
set_option maxRecDepth 100000 in
set_option maxHeartbeats 16000000 in
theorem walkGrowSign (v : Value) (l : List Int) (w : World) (hT : Tab w) (hv : LU w v l) (hr : l.length * 8 ≤ 140737488351232) :
    Calls Tryd.prog 12 #[v] w fun e w' => e = .returned (.bool true) ∧ Below w.heap.size w w' := by
  have HS := Lib.hid (fun w' h0 hb => gSign_any v l w' h0 (hv.below hb))
  have HV := Lib.hid (fun w' h0 hb => gValue_any v l w' h0 (hv.below hb))
  have hu := hv.1
  have F_v := Lib.hid (gvD_fit hu)
  have hsz := @sign_zero l hu
  obtain ⟨-, ao, cap, rfl, hcap, hmx, -⟩ := hv
  unfold maxLen at hmx
  have HT := Lib.hid hT
  clear hT hu hr
  by_cases hg : gcE l = 0
  · have e1 : gsV l = sign (sumD l) := by unfold gsV; rw [if_pos hg]
    have e2 : gvD l = sumD l := by unfold gvD; rw [if_pos hg]
    have e3 : cmp (sumD l) nz = sign (sumD l) := cmp_nz _
    have hcase : ((sign (sumD l) == 0) = true ∧ ((l.length : Int) == 0) = true) ∨ ((sign (sumD l) == 0) = false ∧ ((l.length : Int) == 0) = false) := by
      have := hsz hg
      by_cases h0 : l.length = 0
      · left; exact ⟨by rw [beq_iff_eq]; exact this.2 h0, by rw [beq_iff_eq]; omega⟩
      · right; exact ⟨by rw [beq_eq_false_iff_ne]; exact fun h => h0 (this.1 h), by rw [beq_eq_false_iff_ne]; omega⟩
    rw [e1, hg] at HS
    rw [e2, hg] at HV
    rw [e2] at F_v
    obtain ⟨D_v, hD⟩ : ∃ D, D = sumD l := ⟨_, rfl⟩
    rw [← hD] at HS HV F_v e3 hcase
    have HC : Hid (∀ v1 v2 w', Tab w' → RD w' v1 0 D_v → RD w' v2 0 nz → Calls Tryd.prog 54 #[v1, v2] w' fun r w'' => r = .returned (.tuple #[.int .i64 (sign D_v), .int .i64 0]) ∧ Below w'.heap.size w' w'') := Lib.hid (fun v1 v2 w' h0 h1 h2 => by
      have := cmp_any v1 v2 0 0 D_v nz w' h0 h1 h2
      have e1 : cmE 0 0 D_v nz = cmp D_v nz := by unfold cmE; rw [if_pos (by rfl)]
      have e2 : ck2 0 0 = 0 := rfl
      rw [e1, e2, e3] at this; exact this)
    have ok2m := ok2_mk
    clear e1 e2 e3 hD hg hsz
    generalize sign D_v = sg at *
    rcases hcase with ⟨c1, c2⟩ | ⟨c1, c2⟩
    all_goals
      go_enter Tryd.func12, Tryd.ntmps12
      go_wp2_with fail
      refine (HS.out _ HT.out (Below.refl _ _)).mono ?_
      rintro r w1 ⟨rfl, hb⟩
      have S : Below w.heap.size w w1 := hb
      have B := Lib.hid S
      clear hb S
      go_wp2_with fail
      refine (HV.out _ (HT.out.below B.out) B.out).mono ?_
      rintro r w2 ⟨a_v, n_v, k_v, rfl, hv, hb⟩
      have S : Below w1.heap.size w1 w2 := hb
      replace B := Lib.hid (bl_thru B.out (Nat.le_refl _) S)
      have R_v := Lib.hid (rd_of (d := D_v) hv F_v.out)
      clear hb S hv
      go_wp2_with fail
      refine (growLives_any _ (HT.out.below (by have := B.out; have := B.out.size; go_grown))).mono ?_
      rintro r w3 ⟨rfl, hb⟩
      have S : Below w2.heap.size w2 w3 := bl_thru (by go_grown) (Nat.le_refl _) hb
      replace B := Lib.hid (bl_thru B.out (Nat.le_refl _) S)
      have X_v := Lib.hid ((Box.new w2 _ _ _ _).below hb)
      replace R_v := Lib.hid (R_v.out.below S)
      clear hb S
      obtain ⟨c0_v, c1_v, c2_v, d0_v, d1_v, d2_v⟩ := X_v.out.cells
      have l_v := X_v.out.lt
      go_wp2_with fail
      refine (HC.out _ _ _ (HT.out.below B.out) R_v.out (RD.zero _)).mono ?_
      rintro r w4 ⟨rfl, hb⟩
      have S : Below w3.heap.size w3 w4 := hb
      replace B := Lib.hid (bl_thru B.out (Nat.le_refl _) S)
      clear X_v
      clear R_v
      clear hb S c0_v c1_v c2_v d0_v d1_v d2_v l_v
      go_wp2_with (go_at_call 28; refine (ok_new2 _ _  _ _ rfl).mono ?_; rintro e w' ⟨rfl, rfl⟩)
      go_ret
      exact ⟨rfl, (by have := B.out; have := B.out.size; go_grown)⟩
  · have e1 : gsV l = 0 := by unfold gsV; rw [if_neg hg]
    have e2 : gvD l = nz := by unfold gvD; rw [if_neg hg]
    have hgb : (gcE l != 0) = true := by rw [bne_iff_ne]; exact hg
    rw [e1] at HS
    obtain ⟨D_v, hD⟩ : ∃ D, D = gvD l := ⟨_, rfl⟩
    rw [← hD] at HV F_v
    generalize gcE l = E at *
    clear e1 e2 hD hg hsz
    go_enter Tryd.func12, Tryd.ntmps12
    go_wp2_with fail
    refine (HS.out _ HT.out (Below.refl _ _)).mono ?_
    rintro r w1 ⟨rfl, hb⟩
    have S : Below w.heap.size w w1 := hb
    have B := Lib.hid S
    clear hb S
    go_wp2_with fail
    refine (HV.out _ (HT.out.below B.out) B.out).mono ?_
    rintro r w2 ⟨a_v, n_v, k_v, rfl, hv, hb⟩
    have S : Below w1.heap.size w1 w2 := hb
    replace B := Lib.hid (bl_thru B.out (Nat.le_refl _) S)
    have R_v := Lib.hid (rd_of (d := D_v) hv F_v.out)
    clear hb S hv
    go_wp2_with fail
    refine (growLives_any _ (HT.out.below (by have := B.out; have := B.out.size; go_grown))).mono ?_
    rintro r w3 ⟨rfl, hb⟩
    have S : Below w2.heap.size w2 w3 := bl_thru (by go_grown) (Nat.le_refl _) hb
    replace B := Lib.hid (bl_thru B.out (Nat.le_refl _) S)
    have X_v := Lib.hid ((Box.new w2 _ _ _ _).below hb)
    replace R_v := Lib.hid (R_v.out.below S)
    clear hb S
    go_wp2_with fail
    refine (growLives_any _ (HT.out.below B.out)).mono ?_
    rintro r w4 ⟨rfl, hb⟩
    have S : Below w3.heap.size w3 w4 := hb
    replace B := Lib.hid (bl_thru B.out (Nat.le_refl _) S)
    replace X_v := Lib.hid (X_v.out.below S)
    replace R_v := Lib.hid (R_v.out.below S)
    clear hb S
    go_wp2
    go_ret
    exact ⟨rfl, B.out⟩
end Go.Proofs.YtapdjclhpcakeaaDoor
