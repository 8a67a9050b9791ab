/-
  SOME OF MY TEXTS in one: Ra Rb Rc. Each says what it proves.
-/
import Derived.Test.YtofdjfdnckmmmaaGreatDoorPsc
import Derived.Test.YtofdjfdnckmmmaaGreatDoorBd
import Derived.Test.YtofdjfdnckmmmaaGreatDoorBq
import Derived.Deep.RegionHeld3
import Derived.Test.YtofdjfdnckmmmaaGreatDoorNa
set_option linter.unusedVariables false
set_option linter.unusedSimpArgs false
/-
  THE WALK of quot.sticky.
-/
namespace Go.Proofs.YtofdjfdnckmmmaaGreatDoor
open Go.RowKit Nt Fm

set_option maxRecDepth 100000 in
set_option maxHeartbeats 4000000 in
theorem sticky_any (neg lost : Bool) (vq : Value) (q k0 : Nat) (x : Int) (w : World) (hq : NV w vq q) (hkq : q < 2 ^ k0) (hk0 : k0 ≤ 900000) (x0 : -4000000000000000000 ≤ x) (x1 : x ≤ 4000000000000000000) :
    Calls Tryz.prog 108 #[.bool neg, vq, .bool lost, .int .i64 x] w (RetD w ⟨neg, 4 * q + (if lost = true then 1 else 0), x - 2⟩) := by
  obtain ⟨m, hm⟩ : ∃ m, m = 4 * q + (if lost = true then 1 else 0) := ⟨_, rfl⟩
  rw [← hm]
  have HM : Hid (m = 4 * q + (if lost = true then 1 else 0) ∧ True) := Lib.hid ⟨hm, trivial⟩
  clear hm
  obtain ⟨aq, nq, cq, rfl⟩ := hq.shape
  have LE := Lib.hid (fun w' (h : NV w' (.slice aq nq cq) q) => left_any (.slice aq nq cq) q 2 k0 2 w' h rfl hkq (by omega) (by omega))
  have HQ := Lib.hid hq
  have K4 : Hid (q * 2 ^ 2 < 2 ^ (k0 + 2) ∧ True) := Lib.hid ⟨by rw [Nat.pow_add]; exact Nat.mul_lt_mul_of_pos_right hkq (by decide), trivial⟩
  have K1 : Hid (1 < 2 ^ (k0 + 2) ∧ True) := Lib.hid ⟨Nat.one_lt_two_pow (by omega), trivial⟩
  have E4 : Hid (q * 2 ^ 2 = 4 * q ∧ True) := Lib.hid ⟨by omega, trivial⟩
  clear hq hkq
  go_enter Tryz.func108, Tryz.ntmps108
  go_wp2_with fail
  refine (LE.out _ (HQ.out.alloc _)).mono ?_
  rintro r w1 ⟨v1, rfl, h1, hb⟩
  obtain ⟨a1, n1, c1, rfl⟩ := h1.shape
  have Z1 := Lib.hid ((Box.new w (.bool false) (.slice none 0 0) (.int .i64 0) 68).below hb)
  have B1 := Lib.hid (bl_thru ((Below.refl w.heap.size w).alloc (Nat.le_refl _) _) (Nat.le_refl _) hb)
  have V1 := Lib.hid h1
  clear h1 hb
  cases lost
  · obtain ⟨s0, s1, s2, t0, t1, t2⟩ := Z1.out.cells
    have hB := B1.out.size
    go_wp2
    refine bodyPost_ret (v := .agg #[.bool neg, .slice a1 n1 c1, .int .i64 (x - 2)]) (by simp [results, Tryz.results108, go_sem, s0, s1, s2]) rfl ?_
    refine ⟨_, rfl, ⟨_, rfl, ?_⟩, bl_set3 B1.out (Nat.le_refl _) _ _ _⟩
    have := V1.out.setD Z1.out (g' := neg) (ao' := a1) (n' := n1) (c' := c1) (e' := x - 2)
    rw [E4.out.1] at this
    rw [HM.out.1]; simpa using this
  · go_wp2_with fail
    refine (natOf_any 1 (by decide) (by decide) _).mono ?_
    rintro r w2 ⟨v2, rfl, h2, hb⟩
    have V2 := Lib.hid h2
    have V1' := Lib.hid (V1.out.below hb)
    have Z2 := Lib.hid (Z1.out.below hb)
    have B2 := Lib.hid (bl_thru B1.out (Nat.le_refl _) hb)
    clear h2 hb
    go_wp2_with fail
    refine (plus_any _ _ (q * 2 ^ 2) 1 (k0 + 2) _ V1'.out V2.out K4.out.1 K1.out.1 (by omega)).mono ?_
    rintro r w3 ⟨v3, rfl, h3, hb⟩
    obtain ⟨a3, n3, c3, rfl⟩ := h3.shape
    have V3 := Lib.hid h3
    have Z3 := Lib.hid (Z2.out.below hb)
    have B3 := Lib.hid (bl_thru B2.out (Nat.le_refl _) hb)
    clear h3 hb
    obtain ⟨s0, s1, s2, t0, t1, t2⟩ := Z3.out.cells
    have hB := B3.out.size
    go_wp2
    refine bodyPost_ret (v := .agg #[.bool neg, .slice a3 n3 c3, .int .i64 (x - 2)]) (by simp [results, Tryz.results108, go_sem, s0, s1, s2]) rfl ?_
    refine ⟨_, rfl, ⟨_, rfl, ?_⟩, bl_set3 B3.out (Nat.le_refl _) _ _ _⟩
    have := V3.out.setD Z3.out (g' := neg) (ao' := a3) (n' := n3) (c' := c3) (e' := x - 2)
    rw [E4.out.1] at this
    rw [HM.out.1]; simpa using this
end Go.Proofs.YtofdjfdnckmmmaaGreatDoor

/-
  THE WALK of quot.Ratio.
-/
namespace Go.Proofs.YtofdjfdnckmmmaaGreatDoor
open Go.RowKit Nt Fm

set_option maxRecDepth 100000 in
set_option maxHeartbeats 8000000 in
theorem ratio_any (vc vd : Value) (c d : D) (k0 : Nat) (w : World) (hc : DV w vc c) (hd : DV w vd d) (hcm : c.m < 2 ^ k0) (hdm : d.m < 2 ^ k0) (hd0 : d.m ≠ 0) (hk0 : k0 ≤ 100000) (ec0 : -400000 ≤ c.e) (ec1 : c.e ≤ 400000) (ed0 : -400000 ≤ d.e) (ed1 : d.e ≤ 400000) :
    Calls Tryz.prog 66 #[vc, vd] w (RetD w (ratD (c.neg != d.neg) c.m d.m (c.e - d.e))) := by
  obtain ⟨gc, mc, xc⟩ := c
  obtain ⟨gd, md, xd⟩ := d
  obtain ⟨sc, rfl, hsc⟩ := hc
  obtain ⟨sd, rfl, hsd⟩ := hd
  simp only at *
  obtain ⟨ac, nc, cc, rfl⟩ := hsc.shape
  obtain ⟨ad, nd, cd, rfl⟩ := hsd.shape
  obtain ⟨lc, hlc⟩ : ∃ lc, lc = blen mc := ⟨_, rfl⟩
  obtain ⟨ld, hld⟩ : ∃ ld, ld = blen md := ⟨_, rfl⟩
  have blc : lc ≤ k0 := by rw [hlc]; exact blen_le hcm
  have bld : ld ≤ k0 := by rw [hld]; exact blen_le hdm
  obtain ⟨k, hk⟩ : ∃ k, k = qk mc md := ⟨_, rfl⟩
  have ek : k = 80 + ld - lc := by rw [hk, hlc, hld]; rfl
  have EK : Hid (k = 80 + ld - lc ∧ True) := Lib.hid ⟨ek, trivial⟩
  have ek1 : k ≤ 100080 := by omega
  clear ek
  have LC := Lib.hid (fun w' h => natLen_any (.slice ac nc cc) mc k0 w' h hcm (by omega))
  have LD := Lib.hid (fun w' h => natLen_any (.slice ad nd cd) md k0 w' h hdm (by omega))
  rw [← hlc] at LC
  rw [← hld] at LD
  have LE := Lib.hid (fun w' x (h : NV w' (.slice ac nc cc) mc) (hx : x = (k : Int)) => left_any (.slice ac nc cc) mc k k0 x w' h hx hcm (by omega) (by omega))
  have hC : mc * 2 ^ k < 2 ^ (k0 + k) := by rw [Nat.pow_add]; exact Nat.mul_lt_mul_of_pos_right hcm (Nat.two_pow_pos _)
  have OV := Lib.hid (fun va w' (ha : NV w' va (mc * 2 ^ k)) (hb : NV w' (.slice ad nd cd) md) => over_any va _ _ md (k0 + k) w' ha hb (by omega) hC (by omega))
  have ST := Lib.hid (fun neg lost vq x w' (h : NV w' vq (mc * 2 ^ k / md)) => sticky_any neg lost vq _ (k0 + k) x w' h (Nat.lt_of_le_of_lt (Nat.div_le_self _ _) hC) (by omega))
  have ER : Hid (ratD (gc != gd) mc md (xc - xd) = ⟨gc != gd, 4 * (mc * 2 ^ k / md) + Fm.mark (mc * 2 ^ k % md), xc - xd - k - 2⟩ ∧ True) := Lib.hid ⟨by rw [hk]; rfl, trivial⟩
  rw [ER.out.1]
  generalize mc * 2 ^ k / md = q at *
  generalize mc * 2 ^ k % md = r at *
  have HSC := Lib.hid hsc
  have HSD := Lib.hid hsd
  clear ER hsc hsd hC hcm hdm hd0 hlc hld hk
  go_enter Tryz.func66, Tryz.ntmps66
  go_wp2_with fail
  obtain ⟨V, hV⟩ : ∃ V, V = (((w.alloc (.cells #[.bool gc, .slice ac nc cc, .int .i64 xc] 68)).alloc (.cells #[.bool gd, .slice ad nd cd, .int .i64 xd] 68)).alloc (.cells #[.bool false, .slice none 0 0, .int .i64 0] 68)) := ⟨_, rfl⟩
  have XC : Hid (Box V w.heap.size 68 (.bool gc) (.slice ac nc cc) (.int .i64 xc)) := Lib.hid (by rw [hV]; exact ((Box.new w (.bool gc) (.slice ac nc cc) (.int .i64 xc) 68).alloc (.cells #[.bool gd, .slice ad nd cd, .int .i64 xd] 68) |>.alloc (.cells #[.bool false, .slice none 0 0, .int .i64 0] 68)))
  have XD : Hid (Box V (w.heap.size + 1) 68 (.bool gd) (.slice ad nd cd) (.int .i64 xd)) := Lib.hid (by rw [hV]; exact ((Box.new2 w (.cells #[.bool gc, .slice ac nc cc, .int .i64 xc] 68) (.bool gd) (.slice ad nd cd) (.int .i64 xd) 68).alloc (.cells #[.bool false, .slice none 0 0, .int .i64 0] 68)))
  have XR : Hid (Box V (w.heap.size + 1 + 1) 68 (.bool false) (.slice none 0 0) (.int .i64 0)) := Lib.hid (by rw [hV]; exact (Box.new3 w (.cells #[.bool gc, .slice ac nc cc, .int .i64 xc] 68) (.cells #[.bool gd, .slice ad nd cd, .int .i64 xd] 68) (.bool false) (.slice none 0 0) (.int .i64 0) 68))
  have B0 : Hid (Below w.heap.size w V) := Lib.hid (by rw [hV]; exact bl_alloc3 w (.cells #[.bool gc, .slice ac nc cc, .int .i64 xc] 68) (.cells #[.bool gd, .slice ad nd cd, .int .i64 xd] 68) (.cells #[.bool false, .slice none 0 0, .int .i64 0] 68))
  rw [← hV]
  clear hV
  obtain ⟨p0, p1, p2, -, -, -⟩ := XC.out.drew.cells
  obtain ⟨r0, r1, r2, -, -, -⟩ := XD.out.drew.cells
  go_region_held3 (fun w' => w'.cell? ⟨w.heap.size, 0, none⟩ = some (.bool gc) ∧ w'.cell? ⟨w.heap.size, 1, none⟩ = some (.slice ac nc cc) ∧ w'.cell? ⟨w.heap.size, 2, none⟩ = some (.int .i64 xc) ∧ w'.cell? ⟨w.heap.size + 1, 0, none⟩ = some (.bool gd) ∧ w'.cell? ⟨w.heap.size + 1, 1, none⟩ = some (.slice ad nd cd) ∧ w'.cell? ⟨w.heap.size + 1, 2, none⟩ = some (.int .i64 xd))
    (first
      | (go_keep; done)
      | exact ⟨p0, p1, p2, r0, r1, r2⟩)
    (first
    | (go_at_call_of 59 (Value.slice ac nc cc); refine (LC.out _ (HSC.out.below B0.out.drew)).mono ?_; rintro e w' ⟨rfl, rfl⟩)
    | (go_at_call_of 59 (Value.slice ad nd cd); refine (LD.out _ (HSD.out.below B0.out.drew)).mono ?_; rintro e w' ⟨rfl, rfl⟩))
  have ek := EK.out.1
  have ekz : max 0 (IntKind.i64.wrap (IntKind.i64.wrap (80 + (ld : Int)) - (lc : Int))) = (k : Int) := by
    rw [IntWalk.i64_in (80 + (ld : Int)) (by omega), IntWalk.i64_in _ (by omega)]; omega
  rw [ekz]
  clear ekz ek p0 p1 p2 r0 r1 r2
  go_wp2_with fail
  obtain ⟨p0, p1, p2, -, -, -⟩ := XC.out.drew.drew.cells
  obtain ⟨r0, r1, r2, -, -, -⟩ := XD.out.drew.drew.cells
  go_region_held3 (fun w' => w'.cell? ⟨w.heap.size, 0, none⟩ = some (.bool gc) ∧ w'.cell? ⟨w.heap.size, 1, none⟩ = some (.slice ac nc cc) ∧ w'.cell? ⟨w.heap.size, 2, none⟩ = some (.int .i64 xc) ∧ w'.cell? ⟨w.heap.size + 1, 0, none⟩ = some (.bool gd) ∧ w'.cell? ⟨w.heap.size + 1, 1, none⟩ = some (.slice ad nd cd) ∧ w'.cell? ⟨w.heap.size + 1, 2, none⟩ = some (.int .i64 xd))
    (first
      | with_reducible exact ⟨p0, p1, p2, r0, r1, r2⟩
      | (obtain ⟨p0, p1, p2, -, -, -⟩ := (XC.out.drew.drew.below hb1).cells
         obtain ⟨r0, r1, r2, -, -, -⟩ := (XD.out.drew.drew.below hb1).cells
         exact ⟨p0, p1, p2, r0, r1, r2⟩)
      | (obtain ⟨p0, p1, p2, -, -, -⟩ := ((XC.out.drew.drew.below HB1.out).below hb2).cells
         obtain ⟨r0, r1, r2, -, -, -⟩ := ((XD.out.drew.drew.below HB1.out).below hb2).cells
         exact ⟨p0, p1, p2, r0, r1, r2⟩)
      | (go_keep; done))
    (first
    | (go_at_call 98; refine (LE.out _ _ (HSC.out.below B0.out.drew.drew) rfl).mono ?_; rintro r w1 ⟨v1, rfl, hv1, hb1⟩; have HB1 := Lib.hid hb1; have HV1 := Lib.hid hv1; have B1 := Lib.hid (bl_thru B0.out.drew.drew (Nat.le_refl _) hb1))
    | (go_at_call 107; refine (OV.out _ _ HV1.out (HSD.out.below B1.out)).mono ?_; rintro r w2 ⟨v2, v3, rfl, hv2, hv3, hb2⟩; obtain ⟨a3, n3, c3, rfl, l1, l2, lz⟩ := nv_len hv3; have HB2 := Lib.hid hb2; have HV2 := Lib.hid hv2; have HV3 := Lib.hid hv3; have B2 := Lib.hid (bl_thru B1.out (Nat.le_refl _) hb2)))
  clear hv1 hb1 hv2 hv3 hb2 p0 p1 p2 r0 r1 r2
  have C2 := Lib.hid ((XC.out.drew.drew.below HB1.out).below HB2.out)
  have D2 := Lib.hid ((XD.out.drew.drew.below HB1.out).below HB2.out)
  have R2 := Lib.hid ((XR.out.drew.drew.below HB1.out).below HB2.out)
  obtain ⟨p0, p1, p2, -, -, -⟩ := C2.out.cells
  obtain ⟨r0, r1, r2, -, -, -⟩ := D2.out.cells
  have hmk : (r = 0 ∧ decide (0 < n3) = false) ∨ (r ≠ 0 ∧ decide (0 < n3) = true) := by
    rcases lz with ⟨h1, h2⟩ | ⟨h1, h2⟩
    · exact Or.inl ⟨h1, by rw [decide_eq_false_iff_not]; omega⟩
    · exact Or.inr ⟨h1, by rw [decide_eq_true_eq]; omega⟩
  obtain ⟨bz, hbz⟩ : ∃ bz, bz = decide (0 < n3) := ⟨_, rfl⟩
  rw [← hbz] at hmk
  have EM : Hid ((if bz = true then 1 else 0) = Fm.mark r ∧ True) := Lib.hid ⟨by
    unfold Fm.mark
    rcases hmk with ⟨h1, h2⟩ | ⟨h1, h2⟩ <;> rw [h2] <;> simp [h1], trivial⟩
  have ebz : decide (0 < n3) = bz := hbz.symm
  clear lz hmk hbz
  have SX := Lib.hid (fun (gg : Bool) => ST.out gg bz v2 (xc - xd - k) w2 HV2.out (by omega) (by omega))
  rw [EM.out.1] at SX
  go_wp2_with fail
  refine (SX.out (!(gc == gd))).mono ?_
  rintro rr w4 ⟨v4, rfl, ⟨s4, rfl, h4⟩, hb4⟩
  obtain ⟨a4, n4, c4, rfl⟩ := h4.shape
  have R4 := Lib.hid (R2.out.below hb4)
  have H4 := Lib.hid h4
  have B4 := Lib.hid (bl_thru B2.out (Nat.le_refl _) hb4)
  clear h4 hb4 p0 p1 p2 r0 r1 r2
  obtain ⟨s0, s1, s2, t0, t1, t2⟩ := R4.out.cells
  have hB := B4.out.size
  go_wp2
  refine bodyPost_ret (v := .agg #[.bool (!(gc == gd)), .slice a4 n4 c4, .int .i64 (xc - xd - k - 2)]) (by simp [results, Tryz.results66, go_sem, s0, s1, s2]) rfl ?_
  exact ⟨_, rfl, ⟨_, rfl, H4.out.setD R4.out⟩, bl_set3 B4.out (by omega) _ _ _⟩
end Go.Proofs.YtofdjfdnckmmmaaGreatDoor

/-
  THE WALK of quot.Root.
-/
namespace Go.Proofs.YtofdjfdnckmmmaaGreatDoor
open Go.RowKit Nt Fm

theorem root_mark (m : Nat) : Fm.mark (m - isq m * isq m) = if (sgn2 ((isq m * isq m : Nat) : Int) (m : Int) != 0) = true then 1 else 0 := by
  have h := (isq_root m).1
  unfold Fm.mark sgn2
  rcases Nat.lt_or_ge (isq m * isq m) m with h1 | h1
  · rw [if_neg (by omega), if_pos (show ((isq m * isq m : Nat) : Int) < (m : Int) by omega)]; rfl
  · have e : isq m * isq m = m := by omega
    rw [e]; simp
theorem tmod2_even {x : Int} (h : x % 2 = 0) : x.tmod 2 = 0 ∧ x.tdiv 2 = x / 2 := ⟨Int.tmod_eq_zero_of_dvd (Int.dvd_of_emod_eq_zero h), Int.tdiv_eq_ediv_of_dvd (Int.dvd_of_emod_eq_zero h)⟩
theorem tmod2_odd {x : Int} (h : x % 2 ≠ 0) : x.tmod 2 ≠ 0 := fun h2 => h (Int.emod_eq_zero_of_dvd (Int.dvd_of_tmod_eq_zero h2))
set_option maxRecDepth 100000 in
set_option maxHeartbeats 8000000 in
theorem qroot_any (vd : Value) (d : D) (k0 : Nat) (w : World) (hd : DV w vd d) (hdm : d.m < 2 ^ k0) (hk0 : k0 ≤ 100000) (ed0 : -400000 ≤ d.e) (ed1 : d.e ≤ 400000) :
    Calls Tryz.prog 196 #[vd] w (RetD w (rtD (isq (d.m * 2 ^ rk d.e)) d.m d.e)) := by
  obtain ⟨gd, md, xd⟩ := d
  obtain ⟨sd, rfl, hsd⟩ := hd
  simp only at *
  obtain ⟨ad, nd, cd, rfl⟩ := hsd.shape
  obtain ⟨k, hk⟩ : ∃ k, k = rk xd := ⟨_, rfl⟩
  have hk2 : (k = 160 ∧ (Int.tmod (xd - 160) 2 != 0) = false ∧ Int.tdiv (xd - 160) 2 = (xd - k) / 2) ∨ (k = 161 ∧ (Int.tmod (xd - 160) 2 != 0) = true ∧ Int.tdiv (xd - 161) 2 = (xd - k) / 2) := by
    unfold rk at hk
    split at hk
    · rename_i h
      refine Or.inl ⟨hk, ?_, ?_⟩
      · rw [bne_eq_false_iff_eq]; exact (tmod2_even h).1
      · rw [hk, (tmod2_even h).2]; rfl
    · rename_i h
      refine Or.inr ⟨hk, ?_, ?_⟩
      · rw [bne_iff_ne]; exact tmod2_odd h
      · rw [hk, (tmod2_even (show (xd - 161) % 2 = 0 by omega)).2]; rfl
  rw [← hk]
  have hC : md * 2 ^ k < 2 ^ (k0 + k) := by rw [Nat.pow_add]; exact Nat.mul_lt_mul_of_pos_right hdm (Nat.two_pow_pos _)
  have hk161 : k ≤ 161 := by omega
  have ER : Hid (rtD (isq (md * 2 ^ k)) md xd = ⟨false, 4 * isq (md * 2 ^ k) + (if (sgn2 ((isq (md * 2 ^ k) * isq (md * 2 ^ k) : Nat) : Int) ((md * 2 ^ k : Nat) : Int) != 0) = true then 1 else 0), (xd - k) / 2 - 2⟩ ∧ True) := Lib.hid ⟨by
    rw [← root_mark, hk]; rfl, trivial⟩
  rw [ER.out.1]
  have hI : isq (md * 2 ^ k) < 2 ^ (k0 + k) := Nat.lt_of_lt_of_le (isq_pow hC) (Nat.pow_le_pow_right (by decide) (by omega))
  have LE := Lib.hid (fun w' x (h : NV w' (.slice ad nd cd) md) (hx : x = (k : Int)) => left_any (.slice ad nd cd) md k k0 x w' h hx hdm (by omega) (by omega))
  have SQ := Lib.hid (fun va w' (h : NV w' va (md * 2 ^ k)) => nsqrt_any va _ (k0 + k) w' h hC (by omega))
  have TI := Lib.hid (fun va w' (h : NV w' va (isq (md * 2 ^ k))) => times_any va va _ _ (k0 + k) w' h h hI hI (by omega))
  have CM := Lib.hid (fun va vb w' (h : NV w' va (isq (md * 2 ^ k) * isq (md * 2 ^ k))) (h2 : NV w' vb (md * 2 ^ k)) => compare_any va vb _ _ w' h h2)
  have ST := Lib.hid (fun lost vq x w' (h : NV w' vq (isq (md * 2 ^ k))) => sticky_any false lost vq _ (k0 + k) x w' h hI (by omega))
  generalize sgn2 ((isq (md * 2 ^ k) * isq (md * 2 ^ k) : Nat) : Int) ((md * 2 ^ k : Nat) : Int) = sg at *
  generalize isq (md * 2 ^ k) * isq (md * 2 ^ k) = sq at *
  generalize isq (md * 2 ^ k) = r at *
  generalize md * 2 ^ k = C at *
  obtain ⟨X, hX⟩ : ∃ X, X = (xd - k) / 2 := ⟨_, rfl⟩
  have bX : -400000 ≤ X ∧ X ≤ 400000 := by omega
  obtain ⟨bX0, bX1⟩ := bX
  obtain ⟨Mq, hMq⟩ : ∃ Mq, Mq = 4 * r + (if (sg != 0) = true then 1 else 0) := ⟨_, rfl⟩
  have EM : Hid (4 * r + (if (sg != 0) = true then 1 else 0) = Mq ∧ True) := Lib.hid ⟨hMq.symm, trivial⟩
  rw [EM.out.1, ← hX]
  rw [← hX] at hk2
  have SX := Lib.hid (fun vq w' (h : NV w' vq r) => ST.out (sg != 0) vq X w' h (by omega) (by omega))
  rw [EM.out.1] at SX
  have HSD := Lib.hid hsd
  clear ER EM ST hMq hX hI hC hsd hdm hk
  rcases hk2 with ⟨rfl, m1, m2⟩ | ⟨rfl, m1, m2⟩
  all_goals
    go_enter Tryz.func196, Tryz.ntmps196
    go_wp2_with fail
    refine (LE.out _ _ ((HSD.out.alloc _).alloc _) (by first | rfl | omega)).mono ?_
    rintro e w1 ⟨v1, rfl, hv1, hb1⟩
    have D1 := Lib.hid (((Box.new w (.bool gd) (.slice ad nd cd) (.int .i64 xd) 68).alloc (.cells #[.bool false, .slice none 0 0, .int .i64 0] 68)).below hb1)
    have R1 := Lib.hid ((Box.new2 w (.cells #[.bool gd, .slice ad nd cd, .int .i64 xd] 68) (.bool false) (.slice none 0 0) (.int .i64 0) 68).below hb1)
    have B1 := Lib.hid (bl_thru (bl_alloc2 w (.cells #[.bool gd, .slice ad nd cd, .int .i64 xd] 68) (.cells #[.bool false, .slice none 0 0, .int .i64 0] 68)) (Nat.le_refl _) hb1)
    have V1 := Lib.hid hv1
    clear hv1 hb1
    go_wp2_with fail
    refine (SQ.out _ _ V1.out).mono ?_
    rintro e w2 ⟨v2, rfl, hv2, hb2⟩
    have D2 := Lib.hid (D1.out.below hb2)
    have R2 := Lib.hid (R1.out.below hb2)
    have B2 := Lib.hid (bl_thru B1.out (Nat.le_refl _) hb2)
    have V2 := Lib.hid hv2
    have V1' := Lib.hid (V1.out.below hb2)
    clear hv2 hb2
    go_wp2_with fail
    obtain ⟨p0, p1, p2, -, -, -⟩ := D2.out.drew.cells
    have HW1 := Lib.hid (IntWalk.i64_in (xd - 160) (by omega))
    have HW2 := Lib.hid (IntWalk.i64_in (xd - 161) (by omega))
    have HW3 := Lib.hid (IntWalk.i64_in X (by omega))
    have M2 := Lib.hid m2
    clear m1 m2
    go_region_held3 (fun w' => w'.cell? ⟨w.heap.size, 0, none⟩ = some (.bool gd) ∧ w'.cell? ⟨w.heap.size, 1, none⟩ = some (.slice ad nd cd) ∧ w'.cell? ⟨w.heap.size, 2, none⟩ = some (.int .i64 xd))
      (first
        | with_reducible exact ⟨p0, p1, p2⟩
        | (obtain ⟨p0, p1, p2, -, -, -⟩ := (D2.out.drew.below hb3).cells
           exact ⟨p0, p1, p2⟩)
        | (obtain ⟨p0, p1, p2, -, -, -⟩ := ((D2.out.drew.below HB3.out).drewN n4).cells
           exact ⟨p0, p1, p2⟩)
        | (obtain ⟨p0, p1, p2, -, -, -⟩ := (((D2.out.drew.below HB3.out).drewN n4).below hb5).cells
           exact ⟨p0, p1, p2⟩)
        | (obtain ⟨p0, p1, p2, -, -, -⟩ := (((D5.out.set (b' := w.heap.size + 1) (o := 0) (by omega) _).set (b' := w.heap.size + 1) (o := 1) (by omega) _).set (b' := w.heap.size + 1) (o := 2) (by omega) _).cells
           exact ⟨p0, p1, p2⟩)
        | (go_keep; done))
      (first
        | (go_at_call 63; refine (TI.out v2 _ V2.out.drew).mono ?_; rintro r w3 ⟨v3, rfl, hv3, hb3⟩; have HB3 := Lib.hid hb3; have HV3 := Lib.hid hv3; have B3 := Lib.hid (bl_thru B2.out.drew (Nat.le_refl _) hb3); have V1'' := Lib.hid (V1'.out.drew.below hb3); have V2'' := Lib.hid (V2.out.drew.below hb3))
        | (go_at_call 101; refine (CM.out v3 v1 _ HV3.out V1''.out).mono ?_; rintro r w4 ⟨rfl, n4, rfl⟩)
        | (go_at_call 108; (try rw [HW1.out]); (try rw [HW2.out]); (try rw [M2.out]); (try rw [HW3.out])
           refine (SX.out v2 _ (V2''.out.drewN n4)).mono ?_; rintro r w5 ⟨v5, rfl, ⟨s5, rfl, hv5⟩, hb5⟩; obtain ⟨a5, n5, c5, rfl⟩ := hv5.shape; have D5 := Lib.hid (((D2.out.drew.below HB3.out).drewN n4).below hb5); have X5 := Lib.hid (((R2.out.drew.below HB3.out).drewN n4).below hb5); obtain ⟨s0, s1, s2, t0, t1, t2⟩ := X5.out.cells; have HV5 := Lib.hid hv5; have B5 := Lib.hid (bl_thru (below_to_drewN B3.out) (Nat.le_refl _) hb5)))
    clear hv3 hb3 hv5 hb5
    have hB := B5.out.size
    go_wp2
    refine bodyPost_ret (v := .agg #[.bool false, .slice a5 n5 c5, .int .i64 (X - 2)]) (by simp [results, Tryz.results196, go_sem, s0, s1, s2]) rfl ?_
    exact ⟨_, rfl, ⟨_, rfl, HV5.out.setD X5.out⟩, bl_set3 B5.out (by omega) _ _ _⟩
end Go.Proofs.YtofdjfdnckmmmaaGreatDoor
