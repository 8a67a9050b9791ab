/-
  THE WALK of prod.Dot.
-/
import Derived.Test.YtapdjclhpcakeaaDoorDt
import Derived.Deep.RegionWith
set_option linter.unusedVariables false
set_option linter.unusedSimpArgs false
namespace Go.Proofs.YtapdjclhpcakeaaDoor
open Go.RowKit Nt Fm Fl

set_option maxRecDepth 100000 in
set_option maxHeartbeats 8000000 in
theorem pdot_any (v : Value) (l : List Int) (mode : Int) (w : World) (hT : Tab w) (hv : LU w v l) (hl : l.length ≤ 200) (he : l.length % 2 ≠ 1) (hno : noV l = false) (m0 : 0 ≤ mode) (m1 : mode ≤ 4) :
    Calls Tryd.prog 22 #[v, .int .i64 mode] w fun e w' => e = .returned (.tuple #[.int .u64 (numR (dotN l (l.length / 2)) mode), .bool (numC (dotN l (l.length / 2))), .int .i64 0]) ∧ Below w.heap.size w w' := by
  have hcon := fun w' => containsf_any v l w'
  have hv' := hv
  obtain ⟨hu, ao, cap, rfl, hcap, hmx, hc⟩ := hv
  unfold maxLen at hmx
  have hk : knownB mode = true := by unfold knownB; rw [decide_eq_true_eq]; exact ⟨m0, m1⟩
  have hsml := dotN_sml l hu
  rw [hno] at hcon
  have HCON := Lib.hid hcon
  have HSML := Lib.hid hsml
  have HU := Lib.hid hu
  have HC := Lib.hid hc
  have HT := Lib.hid hT
  have HV := Lib.hid hv'
  have HK : Hid (knownB mode = true) := Lib.hid hk
  have hrem : ((l.length : Int) % 2 == 1) = false := by rw [beq_eq_false_iff_ne]; omega
  have hl2 : (l.length : Int) ≤ 200 := by omega
  clear hcon hsml hu hc hT hv' hno
  go_enter Tryd.func22, Tryd.ntmps22
  go_wp2_with (first | (go_at_call 70; refine (known_any _ _).mono ?_; rintro e w' ⟨rfl, rfl⟩) | (go_at_call 71; (with_reducible refine (HCON.out _ HV.out).mono ?_); rintro e w' ⟨rfl, rfl⟩))
  go_loopw [8] (fun s wr => ∃ (j i : Nat), i ≤ l.length ∧ Hid (i = 2 * j) ∧ s = .int .i64 (i : Int) ∧ Hid (Acc w w.heap.size (dotN l j) wr))
    (fun i _ => l.length - (intOf i).toNat)
  case atStart => exact ⟨0, 0, by omega, Lib.hid rfl, rfl, Lib.hid ⟨none, 0, 0, Box.new w _ _ _ _, NV.nil _, (Below.refl _ _).alloc (Nat.le_refl _) _⟩⟩
  case round =>
    obtain ⟨j, i, hj, HI, rfl, HAC⟩ := hrel
    have hs1 := HSML.out j (by have := HI.out; omega)
    by_cases hlt : i < l.length
    · have hlt1 : i + 1 < l.length := by have := HI.out; omega
      obtain ⟨x, hx⟩ : ∃ x, x = l.getD i 0 := ⟨_, rfl⟩
      obtain ⟨y, hy⟩ : ∃ y, y = l.getD (i + 1) 0 := ⟨_, rfl⟩
      have hst : dotN l (j + 1) = plus (dotN l j) (prD x y) := by rw [hx, hy, HI.out]; rfl
      have g : ∀ i, i < l.length → 0 ≤ l.getD i 0 ∧ l.getD i 0 ≤ 18446744073709551615 := fun i hi => by
        have e : l.getD i 0 = l[i] := by simp [List.getD, hi]
        rw [e]; exact HU.out _ (List.getElem_mem hi)
      have hxm := g _ hlt
      have hym := g _ hlt1
      rw [← hx] at hxm
      rw [← hy] at hym
      obtain ⟨x0, x1⟩ := hxm
      obtain ⟨y0, y1⟩ := hym
      obtain ⟨A, N, C, hbox, hnv, hbel⟩ := HAC.out
      have hcx : ∃ b off, ao = some ⟨b, off, none⟩ ∧ b < w.heap.size ∧ wr.cell? ⟨b, off + i, none⟩ = some (.int .u64 x) ∧ wr.cell? ⟨b, off + (i + 1), none⟩ = some (.int .u64 y) := by
        rcases HC.out with h | ⟨b, off, h1, h2, h3⟩
        · omega
        · exact ⟨b, off, h1, h2, by rw [hx]; exact (hbel.cell (p := ⟨b, off + i, none⟩) h2).trans (h3 _ hlt), by rw [hy]; exact (hbel.cell (p := ⟨b, off + (i + 1), none⟩) h2).trans (h3 _ hlt1)⟩
      obtain ⟨b, off, rfl, hbw, hcx, hcy⟩ := hcx
      have HBX := Lib.hid hbox
      have HNV := Lib.hid hnv
      have HBL := Lib.hid hbel
      have HST := Lib.hid hst
      obtain ⟨⟨q, hq, hm⟩, e0, e1⟩ := hs1.bds (by have := HI.out; omega)
      obtain ⟨f1, f2, f3⟩ := prD_bd x y x0 x1 y0 y1
      have hpl := fun v1 v2 w' h0 h1 h2 => dplus_any v1 v2 (dotN l j) (prD x y) (q + 106) w' h0 h1 h2 (lt_pow hm (by omega)) (lt_pow f1 (by omega)) (by omega) (by omega) (by omega) (by omega) (by omega)
      have hex := fun w' h => exactp_any x y x0 x1 y0 y1 w' h
      clear hs1 hst g hx hy hbox hnv hbel hm e0 e1 f1 f2 f3
      obtain ⟨S2, hS2⟩ : ∃ S2, S2 = dotN l (j + 1) := ⟨_, rfl⟩
      rw [← HST.out, ← hS2] at hpl
      have HS2 := Lib.hid hS2
      clear hS2 HST
      generalize dotN l j = s at *
      generalize prD x y = vx at *
      have HPL := Lib.hid hpl
      have HEX := Lib.hid hex
      have B0 := Lib.hid HBL.out.drew
      obtain ⟨q0, q1, q2, g0, g1, g2⟩ := HBX.out.cells
      have kb : (i : Int) < (l.length : Int) := by omega
      have kb1 : (i : Int) + 1 < (l.length : Int) := by omega
      have w1e : IntKind.i64.wrap ((i : Int) + 1) = (i : Int) + 1 := IntWalk.i64_in _ (by omega)
      have w1p : 0 ≤ (i : Int) + 1 := by omega
      have w1t : ((i : Int) + 1).toNat = i + 1 := by omega
      clear hpl hex HAC
      go_wp2_with fail
      go_region_with (first
        | (go_at_call 75; refine (HEX.out _ (HT.out.below B0.out)).mono ?_; rintro r w2 ⟨v2, rfl, ⟨s2, rfl, hv⟩, hb⟩; obtain ⟨a2, n2, c2, rfl⟩ := hv.shape; have HV2 := Lib.hid hv; have B2 := Lib.hid (bl_thru B0.out (Nat.le_refl _) hb); have X2 := Lib.hid (HBX.out.drew.below hb); have NV2 := Lib.hid (HNV.out.drew.below hb); obtain ⟨q0, q1, q2, g0, g1, g2⟩ := X2.out.cells; clear hv hb)
        | (go_at_call 74; refine (HPL.out _ _ _ (HT.out.below B2.out) ⟨_, rfl, NV2.out⟩ ⟨_, rfl, HV2.out⟩).mono ?_; rintro r w3 ⟨v3, rfl, ⟨s3, rfl, hv⟩, hb⟩; obtain ⟨a3, n3, c3, rfl⟩ := hv.shape; have HV3 := Lib.hid hv; have B3 := Lib.hid (bl_thru B2.out (Nat.le_refl _) hb); have X3 := Lib.hid (X2.out.below hb); obtain ⟨p0, p1, p2, h0', h1', h2'⟩ := X3.out.cells; clear hv hb))
      all_goals
        clear w1e w1p w1t
        go_wp2
        go_roundw
        case rel => exact ⟨j + 1, i + 2, by omega, Lib.hid (by have := HI.out; omega), by go_num, Lib.hid (by rw [← HS2.out]; exact ⟨a3, n3, c3, X3.out.set3 _ _ _, HV3.out.setD X3.out, bl_set3 B3.out (Nat.le_refl _) _ _ _⟩)⟩
        case measure => simp [intOf]; omega
    · have hend : j = l.length / 2 := by have := HI.out; omega
      obtain ⟨A, N, C, hbox, hnv, hbel⟩ := HAC.out
      obtain ⟨⟨q, hq, hm⟩, e0, e1⟩ := hs1.bds (by have := HI.out; omega)
      have hzz := nf_e hs1.1
      have hnum := fun w' h => number_any (.agg #[.bool (dotN l j).neg, .slice A N C, .int .i64 (dotN l j).e]) (dotN l j) q mode w' h hm (by omega) (by omega) (by omega) hzz m0 m1
      subst hend
      have HNUM := Lib.hid hnum
      have HNV := Lib.hid hnv
      have HBL := Lib.hid hbel
      obtain ⟨q0, q1, q2, g0, g1, g2⟩ := hbox.cells
      clear hs1 hnum hnv hbel hbox hm e0 e1 hzz HI HAC
      go_wp2_with fail
      refine (HNUM.out _ ⟨_, rfl, HNV.out⟩).mono ?_
      rintro r w2 ⟨rfl, hb⟩
      have B2 := Lib.hid (bl_thru HBL.out (Nat.le_refl _) hb)
      clear hb
      go_wp2
      go_ret3
      exact ⟨rfl, B2.out⟩
end Go.Proofs.YtapdjclhpcakeaaDoor
