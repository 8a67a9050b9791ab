/-
  THE WALKS of grow.value, Value, Sign.
-/
import Derived.Test.YtapdjclhpcakeaaDoorGv
import Derived.Test.YtapdjclhpcakeaaDoorBp
import Derived.Test.YtapdjclhpcakeaaDoorBf
import Derived.Deep.RegionWith
set_option linter.unusedVariables false
set_option linter.unusedSimpArgs false
namespace Go.Proofs.YtapdjclhpcakeaaDoor
open Go.RowKit Nt Fm Fl

theorem sumD_snoc (l : List Int) (x : Int) : sumD (l ++ [x]) = plus (sumD l) (valD x) := by unfold sumD; rw [List.foldl_append]; rfl
theorem sumD_take {l : List Int} {k : Nat} (h : k < l.length) : sumD (l.take (k + 1)) = plus (sumD (l.take k)) (valD (l.getD k 0)) := by
  rw [List.take_succ_eq_append_getElem h, sumD_snoc]; congr 2; simp [List.getD, h]
theorem sumD_sml (l : List Int) (hu : ∀ x ∈ l, 0 ≤ x ∧ x ≤ 18446744073709551615) : ∀ k, k ≤ l.length → Sml k (sumD (l.take k))
  | 0, _ => by simpa [sumD] using Sml.zero 0
  | k + 1, hk => by
    rw [sumD_take (by omega)]
    have e : l.getD k 0 = l[k]'(by omega) := by simp [List.getD, show k < l.length by omega]
    have hm := hu _ (List.getElem_mem (show k < l.length by omega))
    rw [e]
    exact (sumD_sml l hu k (by omega)).plus (valD_sml _ hm.1 hm.2)
/-- the state of the loop: the sum in the second struct, the result still empty -/
def GAcc (w : World) (d : D) (wr : World) : Prop := ∃ a n c, Box wr (w.heap.size + 1) 59 (.bool d.neg) (.slice a n c) (.int .i64 d.e) ∧ NV wr (.slice a n c) d.m ∧ Box wr w.heap.size 59 (.bool false) (.slice none 0 0) (.int .i64 0) ∧ Below w.heap.size w wr
set_option maxRecDepth 100000 in
set_option maxHeartbeats 16000000 in
theorem gvalue_any (v : Value) (l : List Int) (w : World) (hT : Tab w) (hv : LU w v l) (hl : l.length ≤ 1000) :
    Calls Tryd.prog 108 #[v] w (RetD w (sumD l)) := by
  obtain ⟨hu, ao, cap, rfl, hcap, hmx, hc⟩ := hv
  unfold maxLen at hmx
  have HSML := Lib.hid (sumD_sml l hu)
  have HU := Lib.hid hu
  have HC := Lib.hid hc
  have HT := Lib.hid hT
  clear hu hc hT
  go_enter Tryd.func108, Tryd.ntmps108
  go_wp2
  go_loopw [8] (fun i wr => ∃ (k : Nat) (s : D), k ≤ l.length ∧ i = .int .i64 k ∧ Hid (s = sumD (l.take k)) ∧ Hid (GAcc w s wr)) (fun i _ => l.length - (intOf i).toNat)
  case atStart => exact ⟨0, nz, Nat.zero_le _, rfl, Lib.hid (by simp [sumD]), Lib.hid ⟨none, 0, 0, Box.new2 w _ _ _ _ _, NV.nil _, (Box.new w _ _ _ _).alloc _, bl_alloc2 _ _ _⟩⟩
  case round =>
    obtain ⟨k, s, hk, rfl, HST, HAC⟩ := hrel
    have hs1 := HSML.out k hk
    rw [← HST.out] at hs1
    by_cases hlt : k < l.length
    · obtain ⟨x, hx⟩ : ∃ x, x = l.getD k 0 := ⟨_, rfl⟩
      have hxm : 0 ≤ x ∧ x ≤ 18446744073709551615 := by
        have e : l.getD k 0 = l[k] := by simp [List.getD, hlt]
        rw [hx, e]; exact HU.out _ (List.getElem_mem hlt)
      obtain ⟨x0, x1⟩ := hxm
      obtain ⟨A, N, C, hbox, hnv, hbox0, hbel⟩ := HAC.out
      have hcx : ∃ b off, ao = some ⟨b, off, none⟩ ∧ wr.cell? ⟨b, off + k, none⟩ = some (.int .u64 x) := by
        rcases HC.out with h | ⟨b, off, h1, h2, h3⟩
        · omega
        · exact ⟨b, off, h1, by rw [hx]; exact (hbel.cell (p := ⟨b, off + k, none⟩) h2).trans (h3 k hlt)⟩
      obtain ⟨b, off, rfl, hcx⟩ := hcx
      have hst2 := sumD_take hlt
      rw [← HST.out, ← hx] at hst2
      obtain ⟨⟨q, hq, hm⟩, e0, e1⟩ := hs1.bds (by omega)
      obtain ⟨f1, f2, f3, f4, -⟩ := valD_facts x x0 x1
      have hpl := fun vo w' h0 h1 h2 => dplus_any (.agg #[.bool s.neg, .slice A N C, .int .i64 s.e]) vo s (valD x) (q + 53) w' h0 h1 h2 (lt_pow hm (by omega)) (lt_pow f2 (by omega)) (by omega) (by omega) (by omega) (by omega) (by omega)
      have hval := fun w' h => value_any x x0 x1 w' h
      have kb : (k : Int) < (l.length : Int) := by omega
      generalize plus s (valD x) = S2 at *
      generalize valD x = vx at *
      have HBX := Lib.hid hbox
      have HB0 := Lib.hid hbox0
      have HNV := Lib.hid hnv
      have HBL := Lib.hid hbel
      have ST2 := Lib.hid hst2
      have HPL := Lib.hid hpl
      have HVA := Lib.hid hval
      have B0 := Lib.hid HBL.out.drew
      obtain ⟨q0, q1, q2, g0, g1, g2⟩ := HBX.out.cells
      clear hbox hbox0 hnv hbel hst2 hx hs1 hm hpl hval f1 f2 f3 f4 e0 e1 HST HAC
      go_wp2_with fail
      go_region_with (first
        | (go_at_call 81; refine (HVA.out _ (HT.out.below B0.out)).mono ?_; rintro r w2 ⟨v2, rfl, ⟨s2, rfl, hv⟩, hb⟩; obtain ⟨a2, n2, c2, rfl⟩ := hv.shape; have HV2 := Lib.hid hv; have B2 := Lib.hid (bl_thru B0.out (Nat.le_refl _) hb); have X2 := Lib.hid (HBX.out.drew.below hb); have Y2 := Lib.hid (HB0.out.drew.below hb); have NV2 := Lib.hid (HNV.out.drew.below hb); obtain ⟨q0, q1, q2, g0, g1, g2⟩ := X2.out.cells; clear hv hb)
        | (go_at_call 74; refine (HPL.out _ _ (HT.out.below B2.out) ⟨_, rfl, NV2.out⟩ ⟨_, rfl, HV2.out⟩).mono ?_; rintro r w3 ⟨v3, rfl, ⟨s3, rfl, hv⟩, hb⟩; obtain ⟨a3, n3, c3, rfl⟩ := hv.shape; have HV3 := Lib.hid hv; have B3 := Lib.hid (bl_thru B2.out (Nat.le_refl _) hb); have X3 := Lib.hid (X2.out.below hb); have Y3 := Lib.hid (Y2.out.below hb); obtain ⟨p0, p1, p2, h0', h1', h2'⟩ := X3.out.cells; clear hv hb))
      all_goals
        go_wp2
        go_roundw
        case rel => exact ⟨k + 1, S2, by omega, by go_num, Lib.hid ST2.out.symm, Lib.hid ⟨a3, n3, c3, X3.out.set3 _ _ _, HV3.out.setD X3.out, ((Y3.out.set (by omega) _).set (by omega) _).set (by omega) _, bl_set3 B3.out (by omega) _ _ _⟩⟩
        case measure => simp [intOf]; omega
    · have hst : s = sumD l := by have := HST.out; rw [show k = l.length by omega, List.take_length] at this; exact this
      subst hst
      obtain ⟨A, N, C, hbox, hnv, hbox0, hbel⟩ := HAC.out
      have HBX := Lib.hid hbox
      have HB0 := Lib.hid hbox0
      have HNV := Lib.hid hnv
      have HBL := Lib.hid hbel
      obtain ⟨q0, q1, q2, g0, g1, g2⟩ := HBX.out.cells
      obtain ⟨y0, y1, y2, z0, z1, z2⟩ := HB0.out.cells
      generalize sumD l = S at *
      clear hbox hbox0 hnv hbel HAC HST hs1 HSML
      go_wp2
      refine bodyPost_ret (v := .agg #[.bool S.neg, .slice A N C, .int .i64 S.e]) (by simp [results, Tryd.results108, go_sem, y0, y1, y2]) rfl ?_
      exact ⟨_, rfl, ⟨_, rfl, HNV.out.setD HB0.out⟩, bl_set3 HBL.out (Nat.le_refl _) _ _ _⟩
/-- what Value tells -/
def gvD (l : List Int) : D := if gcE l = 0 then sumD l else nz
theorem gcE_len {l : List Int} (h : gcE l = 0) : l.length ≤ 60 := by
  unfold gcE at h
  split at h
  · omega
  · omega
set_option maxHeartbeats 4000000 in
theorem gValue_any (v : Value) (l : List Int) (w : World) (hT : Tab w) (hv : LU w v l) :
    Calls Tryd.prog 53 #[v] w (RetR w (gcE l) (gvD l)) := by
  have hck := fun w' hb => gcheck_any v l w' (hT.below hb) (hv.below hb)
  have hva := fun w' hb hl => gvalue_any v l w' (hT.below hb) (hv.below hb) hl
  obtain ⟨hu, ao, cap, rfl, hcap, hmx, hc⟩ := hv
  clear hu hc
  by_cases hg : gcE l = 0
  · have e : gvD l = sumD l := by unfold gvD; rw [if_pos hg]
    have hl := gcE_len hg
    rw [e, hg]
    rw [hg] at hck
    have HCK := Lib.hid hck
    have HVA := Lib.hid (fun w' hb => hva w' hb (by omega))
    generalize sumD l = S at *
    clear hck hva e hg hl hT hcap hmx
    go_enter Tryd.func53, Tryd.ntmps53
    go_wp2_with fail
    refine (HCK.out _ ((Below.refl _ _).alloc (Nat.le_refl _) _)).mono ?_
    rintro r w1 ⟨rfl, hb⟩
    have B1 : Hid (Below w.heap.size w w1) := Lib.hid (bl_thru ((Below.refl w.heap.size w).alloc (Nat.le_refl _) _) (Nat.le_refl _) hb)
    have Z1 := Lib.hid ((Box.new w _ _ _ _).below hb)
    clear hb
    go_wp2_with fail
    refine (HVA.out _ B1.out).mono ?_
    rintro r w2 ⟨v2, rfl, ⟨s2, rfl, hv⟩, hb⟩
    obtain ⟨a2, n2, c2, rfl⟩ := hv.shape
    have B2 : Hid (Below w.heap.size w w2) := Lib.hid (bl_thru B1.out (Nat.le_refl _) hb)
    have Z2 := Lib.hid (Z1.out.below hb)
    have HV := Lib.hid hv
    obtain ⟨y0, y1, y2, z0, z1, z2⟩ := Z2.out.cells
    clear hv hb
    go_wp2
    refine bodyPost_ret (v := .tuple #[.agg #[.bool S.neg, .slice a2 n2 c2, .int .i64 S.e], .int .i64 0]) (by simp [results, Tryd.results53, go_sem, y0, y1, y2]) rfl ?_
    exact ⟨a2, n2, c2, rfl, HV.out.setD Z2.out, bl_set3 B2.out (Nat.le_refl _) _ _ _⟩
  · have e : gvD l = nz := by unfold gvD; rw [if_neg hg]
    rw [e]
    have hgb : (gcE l != 0) = true := by rw [bne_iff_ne]; exact hg
    have HCK := Lib.hid hck
    generalize gcE l = E at *
    clear hck hva e hg hT hcap hmx
    go_enter Tryd.func53, Tryd.ntmps53
    go_wp2_with fail
    refine (HCK.out _ ((Below.refl _ _).alloc (Nat.le_refl _) _)).mono ?_
    rintro r w1 ⟨rfl, hb⟩
    have B1 : Hid (Below w.heap.size w w1) := Lib.hid (bl_thru ((Below.refl w.heap.size w).alloc (Nat.le_refl _) _) (Nat.le_refl _) hb)
    have Z1 := Lib.hid ((Box.new w _ _ _ _).below hb)
    obtain ⟨y0, y1, y2, z0, z1, z2⟩ := Z1.out.cells
    clear hb
    go_wp2
    refine bodyPost_ret (v := .tuple #[.agg #[.bool false, .slice none 0 0, .int .i64 0], .int .i64 E]) (by simp [results, Tryd.results53, go_sem, y0, y1, y2]) rfl ?_
    exact ⟨none, 0, 0, rfl, NV.nil _, bl_set3 B1.out (Nat.le_refl _) _ _ _⟩
def gsV (l : List Int) : Int := if gcE l = 0 then sign (sumD l) else 0
set_option maxHeartbeats 4000000 in
theorem gSign_any (v : Value) (l : List Int) (w : World) (hT : Tab w) (hv : LU w v l) :
    Calls Tryd.prog 52 #[v] w fun e w' => e = .returned (.tuple #[.int .i64 (gsV l), .int .i64 (gcE l)]) ∧ Below w.heap.size w w' := by
  have hck := fun w' hb => gcheck_any v l w' (hT.below hb) (hv.below hb)
  have hva := fun w' hb hl => gvalue_any v l w' (hT.below hb) (hv.below hb) hl
  obtain ⟨hu, ao, cap, rfl, hcap, hmx, hc⟩ := hv
  clear hu hc
  by_cases hg : gcE l = 0
  · have e : gsV l = sign (sumD l) := by unfold gsV; rw [if_pos hg]
    have hl := gcE_len hg
    rw [e, hg]
    rw [hg] at hck
    have HCK := Lib.hid hck
    have HVA := Lib.hid (fun w' hb => hva w' hb (by omega))
    have HSG := Lib.hid (fun v w' h => sign_any v (sumD l) w' h)
    generalize sumD l = S at *
    generalize sign S = sg at *
    clear hck hva e hg hl hT hcap hmx
    go_enter Tryd.func52, Tryd.ntmps52
    go_wp2_with fail
    refine (HCK.out _ (Below.refl _ _)).mono ?_
    rintro r w1 ⟨rfl, hb⟩
    have B1 : Hid (Below w.heap.size w w1) := Lib.hid hb
    clear hb
    go_wp2_with fail
    refine (HVA.out _ B1.out).mono ?_
    rintro r w2 ⟨v2, rfl, hdv, hb⟩
    have B2 : Hid (Below w.heap.size w w2) := Lib.hid (bl_thru B1.out (Nat.le_refl _) hb)
    have HDV := Lib.hid hdv
    clear hdv hb
    go_wp2_with fail
    refine (HSG.out _ _ HDV.out).mono ?_
    rintro r w3 ⟨rfl, hb⟩
    have B3 : Hid (Below w.heap.size w w3) := Lib.hid (bl_thru B2.out (Nat.le_refl _) hb)
    clear hb
    go_wp2
    go_ret2
    exact ⟨rfl, B3.out⟩
  · have e : gsV l = 0 := by unfold gsV; rw [if_neg hg]
    rw [e]
    have hgb : (gcE l != 0) = true := by rw [bne_iff_ne]; exact hg
    have HCK := Lib.hid hck
    generalize gcE l = E at *
    clear hck hva e hg hT hcap hmx
    go_enter Tryd.func52, Tryd.ntmps52
    go_wp2_with fail
    refine (HCK.out _ (Below.refl _ _)).mono ?_
    rintro r w1 ⟨rfl, hb⟩
    have B1 : Hid (Below w.heap.size w w1) := Lib.hid hb
    clear hb
    go_wp2
    go_ret2
    exact ⟨rfl, B1.out⟩
end Go.Proofs.YtapdjclhpcakeaaDoor
