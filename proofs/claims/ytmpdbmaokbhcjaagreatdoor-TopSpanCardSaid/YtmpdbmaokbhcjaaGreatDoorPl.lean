/-
  THE WALK of dyad.Plus.
-/
import Derived.Test.YtmpdbmaokbhcjaaGreatDoorAl
import Derived.Test.YtmpdbmaokbhcjaaGreatDoorTzy
import Derived.Test.YtmpdbmaokbhcjaaGreatDoorBa
import Derived.Test.YtmpdbmaokbhcjaaGreatDoorNa
import Derived.Deep.RegionWith
set_option linter.unusedVariables false
set_option linter.unusedSimpArgs false
namespace Go.Proofs.YtmpdbmaokbhcjaaGreatDoor
open Go.RowKit Nt Fm

theorem shift_lt {m k i j : Nat} (h : m < 2 ^ k) (hi : i ≤ j) : m * 2 ^ i < 2 ^ (k + j) := by
  rw [Nat.pow_add]
  calc m * 2 ^ i < 2 ^ k * 2 ^ i := Nat.mul_lt_mul_of_pos_right h (Nat.two_pow_pos _)
    _ ≤ 2 ^ k * 2 ^ j := Nat.mul_le_mul_left _ (Nat.pow_le_pow_right (by decide) hi)

set_option maxRecDepth 100000 in
set_option maxHeartbeats 8000000 in
theorem dplus_any (vc vd : Value) (c d : D) (k0 : Nat) (w : World) (hT : Tab w) (hc : DV w vc c) (hd : DV w vd d) (hcm : c.m < 2 ^ k0) (hdm : d.m < 2 ^ k0) (hk0 : k0 ≤ 16000000000000) (ec0 : -16000000000000 ≤ c.e) (ec1 : c.e ≤ 16000000000000) (ed0 : -16000000000000 ≤ d.e) (ed1 : d.e ≤ 16000000000000) :
    Calls Tryz.prog 50 #[vc, vd] w (RetD w (plus c d)) := by
  have hal := fun w1 h1 h2 => align_any vc vd c d k0 w1 h1 h2 hcm hdm hk0 ec0 ec1 ed0 ed1
  have hc' := hc
  have hd' := hd
  obtain ⟨k1, hk1, ha, hb, hab⟩ : ∃ k1, k1 ≤ 52000000000000 ∧ c.m * 2 ^ (c.e - min c.e d.e).toNat < 2 ^ k1 ∧ d.m * 2 ^ (d.e - min c.e d.e).toNat < 2 ^ k1 ∧ c.m * 2 ^ (c.e - min c.e d.e).toNat + d.m * 2 ^ (d.e - min c.e d.e).toNat < 2 ^ (k1 + 1) := by
    have a1 := shift_lt hcm (show (c.e - min c.e d.e).toNat ≤ 32000000000000 by omega)
    have a2 := shift_lt hdm (show (d.e - min c.e d.e).toNat ≤ 32000000000000 by omega)
    obtain ⟨q, hq⟩ : ∃ q, q = k0 + 32000000000000 := ⟨_, rfl⟩
    rw [← hq] at a1 a2
    refine ⟨q, by omega, a1, a2, ?_⟩
    rw [Nat.pow_succ]; omega
  have e1 := fun h => @plus_zero_left c d h
  have e2 := fun h => @plus_zero_right c d h
  have e3 := fun h => @plus_same c d _ _ _ rfl rfl rfl h
  have e4 := fun h => @plus_more c d _ _ _ rfl rfl rfl h
  have e5 := fun h => @plus_less c d _ _ _ rfl rfl rfl h
  have hx : -16000000000000 ≤ min c.e d.e ∧ min c.e d.e ≤ 16000000000000 := by omega
  generalize plus c d = S at *
  generalize c.m * 2 ^ (c.e - min c.e d.e).toNat = a at *
  generalize d.m * 2 ^ (d.e - min c.e d.e).toNat = b at *
  generalize min c.e d.e = x at *
  obtain ⟨hx0, hx1⟩ := hx
  obtain ⟨gc, mc, xc⟩ := c
  obtain ⟨gd, md, xd⟩ := d
  obtain ⟨sc, rfl, hsc⟩ := hc
  obtain ⟨sd, rfl, hsd⟩ := hd
  simp only at *
  obtain ⟨ac, nc, cc, rfl, lc1, lc2, lcz⟩ := nv_len hsc
  obtain ⟨ad, nd, cd, rfl, ld1, ld2, ldz⟩ := nv_len hsd
  have HT := Lib.hid hT
  have HSC := Lib.hid hsc
  have HSD := Lib.hid hsd
  have HCM := Lib.hid hcm
  have HDM := Lib.hid hdm
  have HAL := Lib.hid hal
  have HC := Lib.hid hc'
  have HD := Lib.hid hd'
  have HA := Lib.hid ha
  have HB := Lib.hid hb
  have HAB := Lib.hid hab
  clear hT hsc hsd hcm hdm hal hc' hd' ha hb hab
  rcases lcz with ⟨hz, hn⟩ | ⟨hz, hn⟩
  · have E := Lib.hid (e1 hz)
    have hn0 : ((nc : Int) == 0) = true := by rw [beq_iff_eq]; omega
    clear e1 e2 e3 e4 e5 hz ldz
    go_enter Tryz.func50, Tryz.ntmps50
    go_wp2_with fail
    refine (dnorm_any gd _ md k0 xd _ (HT.out.below (bl_alloc3 _ _ _ _)) (HSD.out.below (bl_alloc3 _ _ _ _)) HDM.out (by omega) (by omega) (by omega)).mono ?_
    rintro r w1 ⟨v, rfl, ⟨s, rfl, hv⟩, hb⟩
    obtain ⟨a1, n1, c1, rfl⟩ := hv.shape
    rw [E.out] at hv ⊢
    have HX := Lib.hid ((Box.new3 w _ _ _ _ _ _).below hb)
    have HB1 := Lib.hid (bl_thru (bl_alloc3 w _ _ _) (Nat.le_refl _) hb)
    obtain ⟨q0, q1, q2, f0, f1, f2⟩ := HX.out.cells
    have HV := Lib.hid hv
    clear hv hb
    go_wp2
    refine bodyPost_ret (v := .agg #[.bool S.neg, .slice a1 n1 c1, .int .i64 S.e]) (by simp [results, Tryz.results50, go_sem, q0, q1, q2]) rfl ?_
    exact ⟨_, rfl, ⟨.slice a1 n1 c1, rfl, HV.out.setD HX.out⟩, bl_set3 HB1.out (by omega) _ _ _⟩
  · have hn0 : ((nc : Int) == 0) = false := by rw [beq_eq_false_iff_ne]; omega
    rcases ldz with ⟨hz2, hn2⟩ | ⟨hz2, hn2⟩
    · have hn3 : ((nd : Int) == 0) = true := by rw [beq_iff_eq]; omega
      have E := Lib.hid (e2 hz2)
      clear e1 e2 e3 e4 e5 hz hz2
      go_enter Tryz.func50, Tryz.ntmps50
      go_wp2_with fail
      refine (dnorm_any gc _ mc k0 xc _ (HT.out.below (bl_alloc3 _ _ _ _)) (HSC.out.below (bl_alloc3 _ _ _ _)) HCM.out (by omega) (by omega) (by omega)).mono ?_
      rintro r w1 ⟨v, rfl, ⟨s, rfl, hv⟩, hb⟩
      obtain ⟨a1, n1, c1, rfl⟩ := hv.shape
      rw [E.out] at hv ⊢
      have HX := Lib.hid ((Box.new3 w _ _ _ _ _ _).below hb)
      have HB1 := Lib.hid (bl_thru (bl_alloc3 w _ _ _) (Nat.le_refl _) hb)
      obtain ⟨q0, q1, q2, f0, f1, f2⟩ := HX.out.cells
      have HV := Lib.hid hv
      clear hv hb
      go_wp2
      refine bodyPost_ret (v := .agg #[.bool S.neg, .slice a1 n1 c1, .int .i64 S.e]) (by simp [results, Tryz.results50, go_sem, q0, q1, q2]) rfl ?_
      exact ⟨_, rfl, ⟨.slice a1 n1 c1, rfl, HV.out.setD HX.out⟩, bl_set3 HB1.out (by omega) _ _ _⟩
    · have hn3 : ((nd : Int) == 0) = false := by rw [beq_eq_false_iff_ne]; omega
      by_cases hs : gc = gd
      · have E := Lib.hid (e3 hs)
        clear e1 e2 e3 e4 e5 hz hz2
        subst hs
        have hgg : (gc == gc) = true := by simp
        go_enter Tryz.func50, Tryz.ntmps50
        go_wp2_with fail
        refine (HAL.out _ (HC.out.below (bl_alloc3 _ _ _ _)) (HD.out.below (bl_alloc3 _ _ _ _))).mono ?_
        rintro r w1 ⟨va, vb, rfl, hva, hvb, hb⟩
        obtain ⟨aa, na, ca, rfl⟩ := hva.shape
        obtain ⟨ab, nb, cb, rfl⟩ := hvb.shape
        have B1 := Lib.hid (bl_thru (bl_alloc3 w _ _ _) (Nat.le_refl _) hb)
        have XC := Lib.hid (((Box.new w _ _ _ _).alloc _ |>.alloc _).below hb)
        have XD := Lib.hid (((Box.new2 w _ _ _ _ _).alloc _).below hb)
        have XR := Lib.hid ((Box.new3 w _ _ _ _ _ _).below hb)
        have VA := Lib.hid hva
        have VB := Lib.hid hvb
        obtain ⟨q0, q1, q2, f0, f1, f2⟩ := XC.out.cells
        obtain ⟨r0, r1, r2, k0', k1', k2'⟩ := XD.out.cells
        clear hva hvb hb
        have B1d := Lib.hid B1.out.drew
        go_wp2
        go_region_with (first
          | (go_at_call 75; refine (plus_any _ _ a b k1 _ VA.out.drew VB.out.drew HA.out HB.out (by omega)).mono ?_; rintro r w2 ⟨v2, rfl, hv, hb⟩; obtain ⟨a2, n2, c2, rfl⟩ := hv.shape; have HV2 := Lib.hid hv; have B2 := Lib.hid (bl_thru B1d.out (Nat.le_refl _) hb); have X2 := Lib.hid (XC.out.drew.below hb); have Y2 := Lib.hid (XD.out.drew.below hb); have Z2 := Lib.hid (XR.out.drew.below hb); obtain ⟨q0, q1, q2, f0, f1, f2⟩ := X2.out.cells; obtain ⟨r0, r1, r2, k0', k1', k2'⟩ := Y2.out.cells; clear hv hb)
          | (go_at_call 72; refine (dnorm_any gc _ _ (k1 + 1) x _ (HT.out.below B2.out) HV2.out HAB.out (by omega) (by omega) (by omega)).mono ?_; rintro r w3 ⟨v3, rfl, ⟨s3, rfl, hv⟩, hb⟩; obtain ⟨a3, n3, c3, rfl⟩ := hv.shape; rw [E.out] at hv ⊢; have HV3 := Lib.hid hv; have B3 := Lib.hid (bl_thru B2.out (Nat.le_refl _) hb); have Z3 := Lib.hid (Z2.out.below hb); obtain ⟨p0, p1, p2, g0, g1, g2⟩ := Z3.out.cells; clear hv hb))
        all_goals
          go_wp2
          refine bodyPost_ret (v := .agg #[.bool S.neg, .slice a3 n3 c3, .int .i64 S.e]) (by simp [results, Tryz.results50, go_sem, p0, p1, p2]) rfl ?_
          exact ⟨_, rfl, ⟨.slice a3 n3 c3, rfl, HV3.out.setD Z3.out⟩, bl_set3 B3.out (by omega) _ _ _⟩
      · have hss : (gc = false ∧ gd = true) ∨ (gc = true ∧ gd = false) := by cases gc <;> cases gd <;> simp at hs ⊢
        have hcmp0 := fun va vb w1 h1 h2 => compare_any va vb a b w1 h1 h2
        by_cases hle : b ≤ a
        · obtain ⟨K, hK, hK0⟩ : ∃ K, K = sgn2 (a : Int) (b : Int) ∧ 0 ≤ K := ⟨_, rfl, by unfold sgn2; split <;> (try split) <;> omega⟩
          rw [← hK] at hcmp0
          have HCMP := Lib.hid hcmp0
          have HLE := Lib.hid hle
          have HSUB := Lib.hid (show a - b < 2 ^ k1 by have := HA.out; omega)
          clear hcmp0 hK
          rcases hss with ⟨rfl, rfl⟩ | ⟨rfl, rfl⟩
          all_goals
            have E := Lib.hid (e4 hs HLE.out)
            clear e1 e2 e3 e4 e5 hz hz2 hs hle
            go_enter Tryz.func50, Tryz.ntmps50
            go_wp2_with fail
            refine (HAL.out _ (HC.out.below (bl_alloc3 _ _ _ _)) (HD.out.below (bl_alloc3 _ _ _ _))).mono ?_
            rintro r w1 ⟨va, vb, rfl, hva, hvb, hb⟩
            obtain ⟨aa, na, ca, rfl⟩ := hva.shape
            obtain ⟨ab, nb, cb, rfl⟩ := hvb.shape
            have B1 := Lib.hid (bl_thru (bl_alloc3 w _ _ _) (Nat.le_refl _) hb)
            have XC := Lib.hid (((Box.new w _ _ _ _).alloc _ |>.alloc _).below hb)
            have XD := Lib.hid (((Box.new2 w _ _ _ _ _).alloc _).below hb)
            have XR := Lib.hid ((Box.new3 w _ _ _ _ _ _).below hb)
            have VA := Lib.hid hva
            have VB := Lib.hid hvb
            obtain ⟨q0, q1, q2, f0, f1, f2⟩ := XC.out.cells
            obtain ⟨r0, r1, r2, k0', k1', k2'⟩ := XD.out.cells
            clear hva hvb hb
            go_wp2_with (go_at_call 111; refine (HCMP.out _ _ _ VA.out VB.out).mono ?_; rintro r w' ⟨rfl, nw, rfl⟩)
            have B1e := Lib.hid (Below.drew (below_to_drewN (n := nw) B1.out))
            go_region_with (first
              | (go_at_call 112; refine (minus_any _ _ a b k1 _ (VA.out.drewN nw).drew (VB.out.drewN nw).drew HLE.out HA.out (by omega)).mono ?_; rintro r w2 ⟨v2, rfl, hv, hb⟩; obtain ⟨a2, n2, c2, rfl⟩ := hv.shape; have HV2 := Lib.hid hv; have B2 := Lib.hid (bl_thru B1e.out (Nat.le_refl _) hb); have X2 := Lib.hid ((XC.out.drewN nw).drew.below hb); have Y2 := Lib.hid ((XD.out.drewN nw).drew.below hb); have Z2 := Lib.hid ((XR.out.drewN nw).drew.below hb); obtain ⟨q0, q1, q2, f0, f1, f2⟩ := X2.out.cells; obtain ⟨r0, r1, r2, k0', k1', k2'⟩ := Y2.out.cells; clear hv hb)
              | (go_at_call 72; refine (dnorm_any _ _ _ k1 x _ (HT.out.below B2.out) HV2.out HSUB.out (by omega) (by omega) (by omega)).mono ?_; rintro r w3 ⟨v3, rfl, ⟨s3, rfl, hv⟩, hb⟩; obtain ⟨a3, n3, c3, rfl⟩ := hv.shape; rw [E.out] at hv ⊢; have HV3 := Lib.hid hv; have B3 := Lib.hid (bl_thru B2.out (Nat.le_refl _) hb); have Z3 := Lib.hid (Z2.out.below hb); obtain ⟨p0, p1, p2, g0, g1, g2⟩ := Z3.out.cells; clear hv hb))
            all_goals
              go_wp2
              refine bodyPost_ret (v := .agg #[.bool S.neg, .slice a3 n3 c3, .int .i64 S.e]) (by simp [results, Tryz.results50, go_sem, p0, p1, p2]) rfl ?_
              exact ⟨_, rfl, ⟨.slice a3 n3 c3, rfl, HV3.out.setD Z3.out⟩, bl_set3 B3.out (by omega) _ _ _⟩
        · obtain ⟨K, hK, hK0⟩ : ∃ K, K = sgn2 (a : Int) (b : Int) ∧ K < 0 := ⟨_, rfl, by unfold sgn2; split <;> (try split) <;> omega⟩
          rw [← hK] at hcmp0
          have HCMP := Lib.hid hcmp0
          have HLE := Lib.hid (show a ≤ b by omega)
          have HSUB := Lib.hid (show b - a < 2 ^ k1 by have := HB.out; omega)
          clear hcmp0 hK
          rcases hss with ⟨rfl, rfl⟩ | ⟨rfl, rfl⟩
          all_goals
            have E := Lib.hid (e5 hs HLE.out)
            clear e1 e2 e3 e4 e5 hz hz2 hs hle
            go_enter Tryz.func50, Tryz.ntmps50
            go_wp2_with fail
            refine (HAL.out _ (HC.out.below (bl_alloc3 _ _ _ _)) (HD.out.below (bl_alloc3 _ _ _ _))).mono ?_
            rintro r w1 ⟨va, vb, rfl, hva, hvb, hb⟩
            obtain ⟨aa, na, ca, rfl⟩ := hva.shape
            obtain ⟨ab, nb, cb, rfl⟩ := hvb.shape
            have B1 := Lib.hid (bl_thru (bl_alloc3 w _ _ _) (Nat.le_refl _) hb)
            have XC := Lib.hid (((Box.new w _ _ _ _).alloc _ |>.alloc _).below hb)
            have XD := Lib.hid (((Box.new2 w _ _ _ _ _).alloc _).below hb)
            have XR := Lib.hid ((Box.new3 w _ _ _ _ _ _).below hb)
            have VA := Lib.hid hva
            have VB := Lib.hid hvb
            obtain ⟨q0, q1, q2, f0, f1, f2⟩ := XC.out.cells
            obtain ⟨r0, r1, r2, k0', k1', k2'⟩ := XD.out.cells
            clear hva hvb hb
            go_wp2_with (go_at_call 111; refine (HCMP.out _ _ _ VA.out VB.out).mono ?_; rintro r w' ⟨rfl, nw, rfl⟩)
            have B1e := Lib.hid (Below.drew (below_to_drewN (n := nw) B1.out))
            go_region_with (first
              | (go_at_call 112; refine (minus_any _ _ b a k1 _ (VB.out.drewN nw).drew (VA.out.drewN nw).drew HLE.out HB.out (by omega)).mono ?_; rintro r w2 ⟨v2, rfl, hv, hb⟩; obtain ⟨a2, n2, c2, rfl⟩ := hv.shape; have HV2 := Lib.hid hv; have B2 := Lib.hid (bl_thru B1e.out (Nat.le_refl _) hb); have X2 := Lib.hid ((XC.out.drewN nw).drew.below hb); have Y2 := Lib.hid ((XD.out.drewN nw).drew.below hb); have Z2 := Lib.hid ((XR.out.drewN nw).drew.below hb); obtain ⟨q0, q1, q2, f0, f1, f2⟩ := X2.out.cells; obtain ⟨r0, r1, r2, k0', k1', k2'⟩ := Y2.out.cells; clear hv hb)
              | (go_at_call 72; refine (dnorm_any _ _ _ k1 x _ (HT.out.below B2.out) HV2.out HSUB.out (by omega) (by omega) (by omega)).mono ?_; rintro r w3 ⟨v3, rfl, ⟨s3, rfl, hv⟩, hb⟩; obtain ⟨a3, n3, c3, rfl⟩ := hv.shape; rw [E.out] at hv ⊢; have HV3 := Lib.hid hv; have B3 := Lib.hid (bl_thru B2.out (Nat.le_refl _) hb); have Z3 := Lib.hid (Z2.out.below hb); obtain ⟨p0, p1, p2, g0, g1, g2⟩ := Z3.out.cells; clear hv hb))
            all_goals
              go_wp2
              refine bodyPost_ret (v := .agg #[.bool S.neg, .slice a3 n3 c3, .int .i64 S.e]) (by simp [results, Tryz.results50, go_sem, p0, p1, p2]) rfl ?_
              exact ⟨_, rfl, ⟨.slice a3 n3 c3, rfl, HV3.out.setD Z3.out⟩, bl_set3 B3.out (by omega) _ _ _⟩
end Go.Proofs.YtmpdbmaokbhcjaaGreatDoor
