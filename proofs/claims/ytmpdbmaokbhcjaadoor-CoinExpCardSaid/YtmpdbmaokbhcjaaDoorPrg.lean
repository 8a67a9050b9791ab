/-
  THE WALK of series.atanh.
-/
import Derived.Test.YtmpdbmaokbhcjaaDoorPrd
import Derived.Test.YtmpdbmaokbhcjaaDoorEkm
import Derived.Deep.DeepCutAuto
set_option linter.unusedVariables false
set_option linter.unusedSimpArgs false
namespace Go.Proofs.YtmpdbmaokbhcjaaDoor
open Go.RowKit Nt Fm
open Ea (Pr halfP timesP overP plusP fixedP cdv qP pwP asP atP)

/-- how great what is summed is -/
structure Sa (z : Pr) (p : Nat) : Prop where
  z2 : 2 * z.h ≤ 2 ^ p
  zl : z.l ≤ z.h
  zn : z.h ≤ z.l + 1
  p4 : 4 ≤ p
theorem Sa.sq {z : Pr} {p : Nat} (h : Sa z p) : (timesP z z p).l < 2 ^ (p + 2) ∧ (timesP z z p).h < 2 ^ (p + 2) := by
  have h1 := Ea.sq_half h.z2
  have h2 := Ea.times_l_le z z p h.zl h.zl
  have := Nat.two_pow_pos p
  rw [Nat.pow_add]; omega
theorem Sa.z {z : Pr} {p : Nat} (h : Sa z p) : z.l < 2 ^ (p + 2) ∧ z.h < 2 ^ (p + 2) := by
  have h1 := h.z2
  have h2 := h.zl
  have := Nat.two_pow_pos p
  rw [Nat.pow_add]; omega
theorem Sa.pw {z : Pr} {p : Nat} (h : Sa z p) (k : Nat) : (pwP z p k).l < 2 ^ (p + 2) ∧ (pwP z p k).h < 2 ^ (p + 2) := by
  have h1 := Ea.pw_le h.z2 k
  have h2 := Ea.pw_lh (p := p) h.zl k
  have := Nat.two_pow_pos p
  rw [Nat.pow_add]; omega
theorem Sa.ov {z : Pr} {p : Nat} (h : Sa z p) (k : Nat) {n : Nat} (hn : 0 < n) : (overP (pwP z p k) n).l < 2 ^ (p + 2) ∧ (overP (pwP z p k) n).h < 2 ^ (p + 2) := by
  have h1 := h.pw k
  have h2 := Ea.ov_le (x := pwP z p k) hn
  have h3 := Ea.over_l_le (pwP z p k) hn (Ea.pw_lh (p := p) h.zl k)
  omega
theorem Sa.as {z : Pr} {p : Nat} (h : Sa z p) {k : Nat} (hk : k ≤ p) : (asP z p k).l < 2 ^ (p + 2) ∧ (asP z p k).h < 2 ^ (p + 2) ∧ (asP z p k).h + 4 < 2 ^ (p + 2) := by
  have h1 := Ea.as_size h.z2 k hk
  have h2 := Ea.as_lh (p := p) h.zl k
  have := Nat.two_pow_pos (p - k)
  have : 2 ^ 4 ≤ 2 ^ p := Nat.pow_le_pow_right (by decide) h.p4
  rw [Nat.pow_add]; omega
def asZ (z : Pr) (p k : Nat) : Pr := ⟨(asP z p k).l, (asP z p k).h + 4⟩
/-- what atanh tells: the sum is taken as far as some k -/
def RetA (w : World) (num den p : Nat) (r : Ending) (w' : World) : Prop :=
  ∃ k v, r = .returned v ∧ k ≤ p ∧ (pwP (qP num den p) p k).h ≤ 1 ∧ PV w' v (atP num den p k) ∧ Below w.heap.size w w'
set_option maxRecDepth 100000 in
set_option maxHeartbeats 8000000 in
theorem atanh_any (vn vd : Value) (num den b p : Nat) (P : Int) (w : World) (hvn : NV w vn num) (hvd : NV w vd den) (hP : P = (p : Int)) (hn : num < 2 ^ b) (hd0 : 0 < den) (h3 : 3 * num ≤ den) (hb : b ≤ 20000000) (hp : p ≤ 19000000000000) (hp0 : 4 ≤ p) :
    Calls Tryd.prog 124 #[vn, vd, .int .i64 P] w (RetA w num den p) := by
  subst hP
  obtain ⟨a1, n1, c1, rfl⟩ := hvn.shape
  obtain ⟨a2, n2, c2, rfl⟩ := hvd.shape
  obtain ⟨f1, f2, f3⟩ := Ea.q_size (p := p) hd0 h3 hp0
  have LE := Lib.hid (fun w' hv => left_any (.slice a1 n1 c1) num p b p w' hv rfl hn (by omega) (by omega))
  have hnp : num * 2 ^ p < 2 ^ (b + p) := by rw [Nat.pow_add]; exact Nat.mul_lt_mul_of_pos_right hn (Nat.two_pow_pos p)
  have OVq := Lib.hid (fun va w' ha hb => over_any va (.slice a2 n2 c2) (num * 2 ^ p) den (b + p) w' ha hb hd0 hnp (by omega))
  obtain ⟨z, hz⟩ : ∃ z, z = qP num den p := ⟨_, rfl⟩
  have SA : Hid (Sa z p) := Lib.hid (by rw [hz]; exact ⟨f1, f2, f3, hp0⟩)
  have hzc : (num * 2 ^ p % den = 0 → z = ⟨num * 2 ^ p / den, num * 2 ^ p / den⟩) ∧ (num * 2 ^ p % den ≠ 0 → z = ⟨num * 2 ^ p / den, num * 2 ^ p / den + 1⟩) := by
    rw [hz]; unfold qP
    constructor <;> intro hb <;> rw [cdv_of]
    · rw [if_pos hb]
    · rw [if_neg hb]
  have ZC := Lib.hid hzc
  unfold RetA atP
  rw [← hz]
  generalize num * 2 ^ p = N at *
  generalize N / den = q at *
  generalize N % den = rs at *
  have FALL := Lib.hid (fun k hk => Ea.pw_fall (z := z) (p := p) SA.out.z2 k hk)
  have OF := Lib.hid (fun w' => natOf_any 1 (by omega) (by omega) w')
  have OF4 := Lib.hid (fun w' => natOf_any 4 (by omega) (by omega) w')
  have PLq := Lib.hid (fun va vb w' ha hb (hq : z.h = q + 1) => plus_any va vb q 1 (p + 2) w' ha hb (by have := SA.out.z.2; omega) (by
            have : 2 ^ 2 ≤ 2 ^ (p + 2) := Nat.pow_le_pow_right (by decide) (by omega)
            omega) (by omega))
  have TQ := Lib.hid (fun v u w' hv hu => timesP_any v u z z p (p + 2) p w' hv hu rfl SA.out.z.1 SA.out.z.2 SA.out.z.1 SA.out.z.2 (by omega) (by omega))
  have HVN := Lib.hid hvn
  have HVD := Lib.hid hvd
  clear hn hd0 h3 f1 f2 f3 hvn hvd hnp hz hzc
  go_enter Tryd.func124, Tryd.ntmps124
  go_wp2_with fail
  refine (LE.out _ (HVN.out.alloc _)).mono ?_
  rintro r w1 ⟨v1, rfl, hv1, hb1⟩
  have C1 := Lib.hid (bl_thru ((Below.refl w.heap.size w).alloc (Nat.le_refl _) _) (Nat.le_refl _) hb1)
  have R1 := Lib.hid ((GI.new (x := ⟨0, 0⟩) (NV.nil w) (NV.nil w)).below hb1)
  have HV1 := Lib.hid hv1
  clear hb1 hv1
  go_wp2_with fail
  refine (OVq.out _ _ HV1.out (HVD.out.below C1.out)).mono ?_
  rintro r w2 ⟨v2, v3, rfl, hv2, hv3, hb2⟩
  obtain ⟨d1, d2, d3, rfl⟩ := hv2.shape
  obtain ⟨e1, e2, e3, rfl, l1, l2, lz⟩ := nv_len hv3
  have C2 := bl_thru C1.out (Nat.le_refl _) hb2
  have R2 := R1.out.below hb2
  have hz1 : w.heap.size < w2.heap.size := R2.lt
  have hG0 : ∃ G : Bool, decide (0 < e2) = G ∧ ((G = false ∧ rs = 0) ∨ (G = true ∧ rs ≠ 0)) := by
    rcases lz with ⟨z1, z2⟩ | ⟨z1, z2⟩
    · exact ⟨false, by rw [decide_eq_false_iff_not]; omega, Or.inl ⟨rfl, z1⟩⟩
    · exact ⟨true, by rw [decide_eq_true_eq]; omega, Or.inr ⟨rfl, z1⟩⟩
  obtain ⟨G, hd, hG1⟩ := hG0
  have HG := Lib.hid hG1
  have NQ := Lib.hid hv2
  have CC := Lib.hid C2
  have RR := Lib.hid R2
  clear hv2 hv3 hb2 C2 R2 C1 R1 HV1 lz hG1
  go_upto_if 27 with fail
  obtain ⟨b9, hb9⟩ : ∃ b9, b9 = w2.heap.size := ⟨_, rfl⟩
  obtain ⟨V2, hV2⟩ : ∃ V, V = w2.alloc (.cells #[.slice d1 d2 d3, .slice d1 d2 d3] 111) := ⟨_, rfl⟩
  have BQ : Hid (Bp V2 b9 (.slice d1 d2 d3) (.slice d1 d2 d3)) := Lib.hid (by rw [hV2, hb9]; exact Bp.new w2 _ _)
  have N2 : Hid (NV V2 (.slice d1 d2 d3) q) := Lib.hid (by rw [hV2]; exact NQ.out.alloc _)
  have D2 : Hid (Below w.heap.size w V2) := Lib.hid (by rw [hV2]; exact CC.out.alloc (by omega) _)
  have Q2 : Hid (GI V2 w.heap.size ⟨0, 0⟩) := Lib.hid (by rw [hV2]; exact RR.out.alloc _)
  rw [← hV2, ← hb9]
  rw [← hb9] at hz1
  clear hV2 hb9 NQ CC RR hd
  go_cut [] (fun wx => Hid (GI wx b9 z) ∧ Hid (Below w.heap.size w wx) ∧ Hid (GI wx w.heap.size ⟨0, 0⟩))
  case first =>
    rcases HG.out with ⟨hG, hr⟩ | ⟨hG, hr⟩
    · rw [hG]
      have hzz := ZC.out.1 hr
      have Z2 : Hid (GI V2 b9 z) := Lib.hid ⟨d1, d2, d3, d1, d2, d3, BQ.out, by rw [hzz]; exact N2.out, by rw [hzz]; exact N2.out⟩
      clear HG hr hzz ZC TQ PLq BQ N2
      go_wp2_with fail
      go_meet
      exact ⟨Z2, D2, Q2⟩
    · rw [hG]
      have hzz := ZC.out.2 hr
      have ZL := Lib.hid (show z.l = q ∧ z.h = q + 1 from by rw [hzz]; exact ⟨rfl, rfl⟩)
      clear HG hr hzz ZC
      go_wp2_with fail
      refine (OF.out _).mono ?_
      rintro r u5 ⟨v5, rfl, hv5, hb5⟩
      have D3 := Lib.hid (bl_thru D2.out (Nat.le_refl _) hb5)
      have Q3 := Lib.hid (Q2.out.below hb5)
      have N3 := Lib.hid (N2.out.below hb5)
      have BQ3 := Lib.hid (BQ.out.below hb5)
      have HV5 := Lib.hid hv5
      clear hv5 hb5 BQ D2 Q2 N2
      go_wp2_with fail
      refine (PLq.out _ _ _ N3.out HV5.out ZL.out.2).mono ?_
      rintro r u6 ⟨v6, rfl, hv6, hb6⟩
      obtain ⟨y1, y2, y3, rfl⟩ := hv6.shape
      have D4 := Lib.hid (bl_thru D3.out (Nat.le_refl _) hb6)
      have Q4 := Lib.hid (Q3.out.below hb6)
      have N4 := Lib.hid (N3.out.below hb6)
      have BQ4 := Lib.hid (BQ3.out.below hb6)
      have HV6 := Lib.hid hv6
      obtain ⟨i0, i1, if0, if1⟩ := BQ4.out.cells
      clear hv6 hb6 D3 Q3 N3 BQ3 HV5 PLq TQ
      go_wp2_with fail
      go_meet
      refine ⟨Lib.hid ⟨d1, d2, d3, y1, y2, y3, BQ4.out.set1 _, by rw [ZL.out.1]; exact N4.out.setP BQ4.out 1 _, by rw [ZL.out.2]; exact HV6.out.setP BQ4.out 1 _⟩, Lib.hid (D4.out.setCell (by show _ ≤ b9; omega) _), Lib.hid ?_⟩
      obtain ⟨r1, r2, r3, r4, r5, r6, hR, hRl, hRh⟩ := Q4.out
      exact ⟨r1, r2, r3, r4, r5, r6, hR.set (by omega) _, hRl.setP BQ4.out 1 _, hRh.setP BQ4.out 1 _⟩
  case rest =>
  obtain ⟨Z2, D2', Q2'⟩ := hcut
  clear D2 Q2 BQ N2 HG ZC PLq
  obtain ⟨m1, m2, m3, m4, m5, m6, hM, hMl, hMh⟩ := Z2.out
  obtain ⟨c0, c1, -, -⟩ := hM.cells
  have P2 : Hid (PV wc (.agg #[.slice m1 m2 m3, .slice m4 m5 m6]) z) := Lib.hid ⟨_, _, rfl, hMl, hMh⟩
  clear hM hMl hMh
  go_wp2_with fail
  refine (TQ.out _ _ _ P2.out P2.out).mono ?_
  rintro r w3 ⟨v3, rfl, hp3, hb3⟩
  obtain ⟨x1, x2, x3, x4, x5, x6, rfl, hv4, hv5⟩ := hp3.parts
  have Z3' := Lib.hid (Z2.out.below hb3)
  have Q3' := Lib.hid (Q2'.out.below hb3)
  have D3' := Lib.hid (bl_thru D2'.out (Nat.le_refl _) hb3)
  have hz3 : b9 < w3.heap.size := Z3'.out.lt
  obtain ⟨V3, hV3⟩ : ∃ V3, V3 = w3.alloc (.cells #[.slice x1 x2 x3, .slice x4 x5 x6] 111) := ⟨_, rfl⟩
  have Z3 : Hid (GI V3 b9 z) := Lib.hid (by rw [hV3]; exact Z3'.out.alloc _)
  have Q3 : Hid (GI V3 w.heap.size ⟨0, 0⟩) := Lib.hid (by rw [hV3]; exact Q3'.out.alloc _)
  have S3 : Hid (GI V3 w3.heap.size (timesP z z p)) := Lib.hid (by rw [hV3]; exact GI.new hv4 hv5)
  have D3 : Hid (Below w.heap.size w V3) := Lib.hid (by rw [hV3]; exact D3'.out.alloc (by omega) _)
  have HSZ : V3.heap.size = w3.heap.size + 1 := by rw [hV3, size_alloc]
  clear c0 c1
  obtain ⟨m1, m2, m3, m4, m5, m6, hM, hMl, hMh⟩ := Z3.out
  have HMl := Lib.hid hMl
  have HMh := Lib.hid hMh
  have HM := Lib.hid hM
  go_wp2_with fail
  rw [← hV3]
  clear hV3 hp3 hb3 hv4 hv5 Z3' Q3' D3' Z2 Q2' D2' hMl hMh P2 TQ
  have hlt : b9 < V3.heap.size := hM.lt
  clear hM
  obtain ⟨b10, hb10⟩ : ∃ b10, b10 = w3.heap.size := ⟨_, rfl⟩
  rw [← hb10] at HSZ S3 hz3 ⊢
  clear hb10
  go_cut [11, 12] (fun s11 s12 wx => ∃ BP BS : Nat, s11 = .pointer (some ⟨BP, 0, none⟩) ∧ s12 = .pointer (some ⟨BS, 0, none⟩) ∧ b10 < BP ∧ b10 < BS ∧ BP ≠ BS ∧ Hid (GI wx w.heap.size ⟨0, 0⟩) ∧ Hid (GI wx b10 (timesP z z p)) ∧ Hid (GI wx BP z) ∧ Hid (GI wx BS z) ∧ Hid (Below w.heap.size w wx))
  case first =>
    obtain ⟨c0, c1, -, -⟩ := HM.out.cells
    obtain ⟨c2, c3, -, -⟩ := HM.out.drew.cells
    obtain ⟨V6, hV6⟩ : ∃ V6, V6 = ((V3.alloc (.cells #[.slice m1 m2 m3, .slice m4 m5 m6] 111)).alloc (.cells #[.slice m1 m2 m3, .slice m4 m5 m6] 111)) := ⟨_, rfl⟩
    have A6 : Hid (GI V6 (b10 + 1) z) := Lib.hid (by
      rw [hV6, ← HSZ]
      exact (GI.new (x := z) HMl.out HMh.out).alloc _)
    have B6 : Hid (GI V6 (b10 + 1 + 1) z) := Lib.hid (by
      rw [hV6, ← HSZ, ← size_alloc V3 (.cells #[.slice m1 m2 m3, .slice m4 m5 m6] 111)]
      exact GI.new (x := z) (HMl.out.alloc _) (HMh.out.alloc _))
    have Q6 : Hid (GI V6 w.heap.size ⟨0, 0⟩) := Lib.hid (by rw [hV6]; exact (Q3.out.alloc _).alloc _)
    have S6 : Hid (GI V6 b10 (timesP z z p)) := Lib.hid (by rw [hV6]; exact (S3.out.alloc _).alloc _)
    have D6 : Hid (Below w.heap.size w V6) := Lib.hid (by rw [hV6]; exact (D3.out.alloc (by omega) _).alloc (by simp; omega) _)
    have HV6 : Hid (V6 = ((V3.alloc (.cells #[.slice m1 m2 m3, .slice m4 m5 m6] 111)).alloc (.cells #[.slice m1 m2 m3, .slice m4 m5 m6] 111)) ∧ True) := Lib.hid ⟨hV6, trivial⟩
    clear hV6 HMl HMh
    go_region_held3 (fun w' => w'.cell? ⟨b9, 0, none⟩ = some (.slice m1 m2 m3) ∧ w'.cell? ⟨b9, 1, none⟩ = some (.slice m4 m5 m6))
      (first
        | with_reducible exact ⟨c2, c3⟩
        | (go_keep; done))
      (fail)
    all_goals
      clear c0 c1 c2 c3
      have HQ3 := Lib.hid Q6.out.drew
      have HT3 := Lib.hid S6.out.drew
      have HA3 := Lib.hid A6.out.drew
      have HB3 := Lib.hid B6.out.drew
      have HD3 := Lib.hid D6.out.drew
      rw [HV6.out.1] at HQ3 HT3 HA3 HB3 HD3
      clear HV6 A6 B6 Q6 S6 D6 Q3 S3 D3 Z3 HM hlt HSZ
      go_wp2_with fail
      go_meet
      first
        | exact ⟨_, _, rfl, rfl, by omega, by omega, by omega, HQ3, HT3, HA3, HB3, HD3⟩
        | exact ⟨_, _, rfl, rfl, by omega, by omega, by omega, HQ3, HT3, HB3, HA3, HD3⟩
  case rest =>
  obtain ⟨BP, BS, rfl, rfl, h10P, h10S, hPS, HQ3, HT3, HM3, HS3, HD3⟩ := hcut
  clear HMl HMh HM HSZ hlt Q3 S3 D3 Z3
  have HM3 : Hid (GI wc BP (pwP z p 0)) := HM3
  have HS3 : Hid (GI wc BS (asP z p 0)) := HS3
  have NE : Hid ((w.heap.size ≠ b10 ∧ w.heap.size ≠ BP ∧ w.heap.size ≠ BS ∧ b10 ≠ BP ∧ b10 ≠ BS ∧ BP ≠ BS) ∧ True) := Lib.hid ⟨by omega, trivial⟩
  have GE : Hid ((w.heap.size ≤ BP ∧ w.heap.size ≤ BS) ∧ True) := Lib.hid ⟨by omega, trivial⟩
  clear hz1 hz3
  go_wp2_with fail
  go_loopw [13] (fun i wr => ∃ k : Nat, i = .int .i64 (2 * (k : Int) + 3) ∧ k ≤ p ∧ Hid (GI wr w.heap.size ⟨0, 0⟩) ∧ Hid (GI wr b10 (timesP z z p)) ∧ Hid (GI wr BP (pwP z p k)) ∧ Hid (GI wr BS (asP z p k)) ∧ Hid (Below w.heap.size w wr))
    (fun i _ => p + 1 - ((intOf i).toNat - 3) / 2)
  case atStart => exact ⟨0, by simp, Nat.zero_le _, HQ3, HT3, HM3, HS3, HD3⟩
  case round =>
    obtain ⟨k, rfl, hk, gR, gT, gM, gS, hbel⟩ := hrel
    clear HQ3 HT3 HM3 HS3 HD3
    obtain ⟨m1, m2, m3, m4, m5, m6, hM, hMl, hMh⟩ := gM.out
    have HMl := Lib.hid hMl
    have HMh := Lib.hid hMh
    have HM := Lib.hid hM
    obtain ⟨c0, c1, -, -⟩ := HM.out.drew.cells
    clear hMl hMh hM
    go_wp2_with fail
    go_region_held3 (fun w' => w'.cell? ⟨BP, 1, none⟩ = some (.slice m4 m5 m6))
      (first
        | with_reducible exact c1
        | (obtain ⟨-, p1, -, -⟩ := (HM.out.drew.below hb1).cells
           with_reducible exact p1)
        | (obtain ⟨-, p1, -, -⟩ := ((HM.out.drew.below HB1.out).drewN dn).cells
           with_reducible exact p1)
        | (go_keep; done))
      (first
      | (go_at_call 71; refine (OF.out _).mono ?_; rintro r u1 ⟨v1, rfl, hv1, hb1⟩; have HB1 := Lib.hid hb1; have HV1 := Lib.hid hv1; have B1 := Lib.hid (bl_thru hbel.out.drew (Nat.le_refl _) hb1))
      | (go_at_call 96; refine (compare_any _ _ _ _ _ ((show NV wr.drew _ _ from HMh.out).below HB1.out) HV1.out).mono ?_; rintro r u2 ⟨rfl, dn, rfl⟩))
    clear hv1 hb1 c0 c1
    obtain ⟨W2, hW2⟩ : ∃ W2, W2 = u1.drewN dn := ⟨_, rfl⟩
    rw [← hW2]
    have gR2 : Hid (GI W2 w.heap.size ⟨0, 0⟩) := Lib.hid (by rw [hW2]; exact (gR.out.drew.below HB1.out).drewN dn)
    have gT2 : Hid (GI W2 b10 (timesP z z p)) := Lib.hid (by rw [hW2]; exact (gT.out.drew.below HB1.out).drewN dn)
    have gM2 : Hid (GI W2 BP (pwP z p k)) := Lib.hid (by rw [hW2]; exact (gM.out.drew.below HB1.out).drewN dn)
    have gS2 : Hid (GI W2 BS (asP z p k)) := Lib.hid (by rw [hW2]; exact (gS.out.drew.below HB1.out).drewN dn)
    have BB2 : Hid (Below w.heap.size w W2) := Lib.hid (by rw [hW2]; exact below_to_drewN B1.out)
    clear hW2 HM HMl HMh HB1 HV1 gR gT gM gS hbel B1
    rcases sgn2_one (pwP z p k).h with ⟨hgt, hd⟩ | ⟨hle, hd⟩
    · have hkp : k < p := by
        rcases Nat.lt_or_ge k p with h | h
        · exact h
        · have := FALL.out k hk
          rw [show p - k = 0 by omega] at this
          omega
      have TI := Lib.hid (fun v u w' hv hu => timesP_any v u (pwP z p k) (timesP z z p) p (p + 2) p w' hv hu rfl (SA.out.pw k).1 (SA.out.pw k).2 SA.out.sq.1 SA.out.sq.2 (by omega) (by omega))
      have OVc := Lib.hid (fun v w' hv => overP_any v (pwP z p (k + 1)) (2 * k + 3) (p + 2) (2 * (k : Int) + 3) w' hv (by omega) (SA.out.pw (k + 1)).1 (SA.out.pw (k + 1)).2 (by omega) (by omega) (by omega))
      have PLc := Lib.hid (fun v u w' hv hu => plusP_any v u (asP z p k) (overP (pwP z p (k + 1)) (2 * k + 3)) (p + 2) w' hv hu (SA.out.as hk).1 (SA.out.as hk).2.1 (SA.out.ov (k + 1) (by omega)).1 (SA.out.ov (k + 1) (by omega)).2 (by omega))
      have EQ1 : Hid (timesP (pwP z p k) (timesP z z p) p = pwP z p (k + 1) ∧ True) := Lib.hid ⟨rfl, trivial⟩
      have EQ2 : Hid (plusP (asP z p k) (overP (pwP z p (k + 1)) (2 * k + 3)) = asP z p (k + 1) ∧ True) := Lib.hid ⟨rfl, trivial⟩
      rw [EQ1.out.1] at TI
      rw [EQ2.out.1] at PLc
      clear EQ1 EQ2
      obtain ⟨m1, m2, m3, m4, m5, m6, hM, hMl, hMh⟩ := gM2.out
      obtain ⟨t1, t2, t3, t4, t5, t6, hT, hTl, hTh⟩ := gT2.out
      obtain ⟨c0, c1, -, -⟩ := hM.cells
      obtain ⟨e0, e1, -, -⟩ := hT.cells
      have PVM := Lib.hid (show PV W2 (.agg #[.slice m1 m2 m3, .slice m4 m5 m6]) (pwP z p k) from ⟨_, _, rfl, hMl, hMh⟩)
      have PVT := Lib.hid (show PV W2 (.agg #[.slice t1 t2 t3, .slice t4 t5 t6]) (timesP z z p) from ⟨_, _, rfl, hTl, hTh⟩)
      clear hM hMl hMh hT hTl hTh
      go_wp2_with fail
      refine (TI.out _ _ _ PVM.out PVT.out).mono ?_
      rintro r u4 ⟨v4, rfl, hp4, hb4⟩
      have BB4 := Lib.hid (bl_thru BB2.out (Nat.le_refl _) hb4)
      have gR4 := Lib.hid (gR2.out.below hb4)
      have gT4 := Lib.hid (gT2.out.below hb4)
      have gM4 := Lib.hid (gM2.out.below hb4)
      have gS4 := Lib.hid (gS2.out.below hb4)
      obtain ⟨d1, d2, d3, d4, d5, d6, rfl, hv4, hv5⟩ := hp4.parts
      have HV4 := Lib.hid hv4
      have HV5 := Lib.hid hv5
      clear hp4 hb4 hv4 hv5 gR2 gT2 gM2 gS2 TI c0 c1 e0 e1 PVM PVT BB2
      obtain ⟨o1, o2, o3, o4, o5, o6, hO, -, -⟩ := gM4.out
      obtain ⟨c0, c1, cf0, cf1⟩ := hO.cells
      clear hO
      go_wp2_with fail
      obtain ⟨W5, hW5⟩ : ∃ W5, W5 = (u4.setCell ⟨BP, 0, none⟩ (.slice d1 d2 d3)).setCell ⟨BP, 1, none⟩ (.slice d4 d5 d6) := ⟨_, rfl⟩
      have gR5 : Hid (GI W5 w.heap.size ⟨0, 0⟩) := Lib.hid (by rw [hW5]; exact gR4.out.store gM4.out NE.out.1.2.1 d1 d2 d3 d4 d5 d6)
      have gT5 : Hid (GI W5 b10 (timesP z z p)) := Lib.hid (by rw [hW5]; exact gT4.out.store gM4.out NE.out.1.2.2.2.1 d1 d2 d3 d4 d5 d6)
      have gS5 : Hid (GI W5 BS (asP z p k)) := Lib.hid (by rw [hW5]; exact gS4.out.store gM4.out (Ne.symm NE.out.1.2.2.2.2.2) d1 d2 d3 d4 d5 d6)
      have gM5 : Hid (GI W5 BP (pwP z p (k + 1))) := Lib.hid (by rw [hW5]; exact gM4.out.put (y := pwP z p (k + 1)) HV4.out HV5.out)
      have BB5 : Hid (Below w.heap.size w W5) := Lib.hid (by rw [hW5]; exact bl_set2 BB4.out GE.out.1.1 (.slice d1 d2 d3) (.slice d4 d5 d6))
      rw [← hW5]
      clear hW5 gR4 gT4 gS4 gM4 BB4 HV4 HV5 c0 c1 cf0 cf1
      obtain ⟨m1, m2, m3, m4, m5, m6, hM, hMl, hMh⟩ := gM5.out
      obtain ⟨s1, s2, s3, s4, s5, s6, hS, hSl, hSh⟩ := gS5.out
      have HMl := Lib.hid hMl
      have HMh := Lib.hid hMh
      have HSl := Lib.hid hSl
      have HSh := Lib.hid hSh
      have HM := Lib.hid hM
      have HS := Lib.hid hS
      obtain ⟨i0, i1, -, -⟩ := HM.out.drew.cells
      obtain ⟨j0, j1, -, -⟩ := HS.out.drew.cells
      clear hM hMl hMh hS hSl hSh
      go_region_with (first
        | (go_at_call 118; refine (OVc.out _ _ (show PV _ (.agg #[.slice m1 m2 m3, .slice m4 m5 m6]) (pwP z p (k + 1)) from ⟨_, _, rfl, (show NV W5.drew _ _ from HMl.out), (show NV W5.drew _ _ from HMh.out)⟩)).mono ?_; rintro r u6 ⟨v6, rfl, hp6, hb6⟩; have HB6 := Lib.hid hb6; have HP6 := Lib.hid hp6; have BB6 := Lib.hid (bl_thru BB5.out.drew (Nat.le_refl _) hb6); obtain ⟨k0, k1, -, -⟩ := (HS.out.drew.below hb6).cells)
        | (go_at_call 120; refine (PLc.out _ _ _ (show PV _ (.agg #[.slice s1 s2 s3, .slice s4 s5 s6]) (asP z p k) from ⟨_, _, rfl, (show NV W5.drew _ _ from HSl.out).below HB6.out, (show NV W5.drew _ _ from HSh.out).below HB6.out⟩) HP6.out).mono ?_; rintro r u7 ⟨v7, rfl, hp7, hb7⟩; obtain ⟨d1, d2, d3, d4, d5, d6, rfl, hv4, hv5⟩ := hp7.parts; have HV4 := Lib.hid hv4; have HV5 := Lib.hid hv5; have HB7 := Lib.hid hb7; have BB7 := Lib.hid (bl_thru BB6.out (Nat.le_refl _) hb7); obtain ⟨l0, l1, lf0, lf1⟩ := ((HS.out.drew.below HB6.out).below hb7).cells))
      all_goals
        have gS6 := Lib.hid ((gS5.out.drew.below HB6.out).below HB7.out)
        have gR7 := Lib.hid (((gR5.out.drew.below HB6.out).below HB7.out).store gS6.out NE.out.1.2.2.1 d1 d2 d3 d4 d5 d6)
        have gT7 := Lib.hid (((gT5.out.drew.below HB6.out).below HB7.out).store gS6.out NE.out.1.2.2.2.2.1 d1 d2 d3 d4 d5 d6)
        have gM7 := Lib.hid (((gM5.out.drew.below HB6.out).below HB7.out).store gS6.out NE.out.1.2.2.2.2.2 d1 d2 d3 d4 d5 d6)
        have gS7 := Lib.hid (gS6.out.put (y := asP z p (k + 1)) HV4.out HV5.out)
        have BB8 := Lib.hid (bl_set2 BB7.out GE.out.1.2 (.slice d1 d2 d3) (.slice d4 d5 d6))
        clear gR5 gT5 gS5 gM5 HB6 HP6 BB6 HV4 HV5 HB7 BB7 i0 i1 j0 j1 k0 k1 l0 l1 lf0 lf1 hv4 hv5 hb6 hb7 hp6 hp7 HMl HMh HSl HSh HM HS gS6
        go_wp2
        go_roundw
        case rel => exact ⟨k + 1, by simp; omega, by omega, gR7, gT7, gM7, gS7, BB8⟩
        case measure => simp [intOf]; omega
    · obtain ⟨s1, s2, s3, s4, s5, s6, hS, hSl, hSh⟩ := gS2.out
      have HSl := Lib.hid hSl
      have HSh := Lib.hid hSh
      have HS := Lib.hid hS
      clear hS hSl hSh
      have PLd := Lib.hid (fun va vb w' ha hb => plus_any va vb (asP z p k).h 4 (p + 2) w' ha hb (SA.out.as hk).2.1 (by
        have : 2 ^ 3 ≤ 2 ^ (p + 2) := Nat.pow_le_pow_right (by decide) (by omega)
        omega) (by omega))
      have PLz := Lib.hid (fun v u w' hv hu => plusP_any v u (asZ z p k) (asZ z p k) (p + 2) w' hv hu (SA.out.as hk).1 (SA.out.as hk).2.2 (SA.out.as hk).1 (SA.out.as hk).2.2 (by omega))
      have HK : Hid ((k ≤ p ∧ (pwP z p k).h ≤ 1) ∧ True) := Lib.hid ⟨⟨hk, hle⟩, trivial⟩
      go_wp2_with fail
      obtain ⟨c0, c1, cf0, cf1⟩ := HS.out.drew.cells
      go_region_with (first
        | (go_at_call 71; refine (OF4.out _).mono ?_; rintro r u1 ⟨v1, rfl, hv1, hb1⟩; obtain ⟨-, p1, pf0, pf1⟩ := (HS.out.drew.below hb1).cells; have HB1 := Lib.hid hb1; have HV1 := Lib.hid hv1; have B1 := Lib.hid (bl_thru BB2.out.drew (Nat.le_refl _) hb1))
        | (go_at_call 87; refine (PLd.out _ _ _ ((show NV W2.drew _ _ from HSh.out).below HB1.out) HV1.out).mono ?_; rintro r u2 ⟨v2, rfl, hv2, hb2⟩; obtain ⟨d4, d5, d6, rfl⟩ := hv2.shape; obtain ⟨q0, q1, qf0, qf1⟩ := ((HS.out.drew.below HB1.out).below hb2).cells; have HB2 := Lib.hid hb2; have HV2 := Lib.hid hv2; have B2 := Lib.hid (bl_thru B1.out (Nat.le_refl _) hb2)))
      all_goals
        have S0 := Lib.hid ((HS.out.drew.below HB1.out).below HB2.out)
        obtain ⟨W3, hW3⟩ : ∃ W3, W3 = u2.setCell ⟨BS, 1, none⟩ (.slice d4 d5 d6) := ⟨_, rfl⟩
        have XX3 : Hid (Bp W3 BS (.slice s1 s2 s3) (.slice d4 d5 d6)) := Lib.hid (by rw [hW3]; exact S0.out.set1 _)
        have NL3 : Hid (NV W3 (.slice s1 s2 s3) (asZ z p k).l) := Lib.hid (by rw [hW3]; exact (((show NV W2.drew _ _ from HSl.out).below HB1.out).below HB2.out).setP S0.out 1 _)
        have NH3 : Hid (NV W3 (.slice d4 d5 d6) (asZ z p k).h) := Lib.hid (by rw [hW3]; exact HV2.out.setP S0.out 1 _)
        have gR3 : Hid (GI W3 w.heap.size ⟨0, 0⟩) := Lib.hid (by
          rw [hW3]
          obtain ⟨r1, r2, r3, r4, r5, r6, hR, hRl, hRh⟩ := (gR2.out.drew.below HB1.out).below HB2.out
          exact ⟨r1, r2, r3, r4, r5, r6, hR.set NE.out.1.2.2.1 _, hRl.setP S0.out 1 _, hRh.setP S0.out 1 _⟩)
        have BB3 : Hid (Below w.heap.size w W3) := Lib.hid (by rw [hW3]; exact B2.out.setCell GE.out.1.2 _)
        rw [← hW3]
        clear hW3 S0 HB1 HB2 HV1 HV2 B1 B2 HS HSl HSh gR2 gT2 gM2 gS2 BB2 hv1 hb1 hv2 hb2 c0 c1 cf0 cf1 p1 pf0 pf1 q0 q1 qf0 qf1 PLd
        obtain ⟨c0, c1, cf0, cf1⟩ := XX3.out.cells
        go_wp2_with fail
        have PVZ := Lib.hid (show PV W3 (.agg #[.slice s1 s2 s3, .slice d4 d5 d6]) (asZ z p k) from ⟨_, _, rfl, NL3.out, NH3.out⟩)
        refine (PLz.out _ _ _ PVZ.out PVZ.out).mono ?_
        rintro r u3 ⟨v3, rfl, hp3, hb3⟩
        obtain ⟨y1, y2, y3, y4, y5, y6, rfl, hv4, hv5⟩ := hp3.parts
        have gR4 := Lib.hid (gR3.out.below hb3)
        have BB4 := Lib.hid (bl_thru BB3.out (Nat.le_refl _) hb3)
        have HV4 := Lib.hid hv4
        have HV5 := Lib.hid hv5
        clear hv4 hv5 hp3 hb3 c0 c1 cf0 cf1 gR3 BB3 NL3 NH3 XX3 PVZ PLz
        obtain ⟨r1, r2, r3, r4, r5, r6, hR, -, -⟩ := gR4.out
        have HR := Lib.hid hR
        obtain ⟨i0, i1, if0, if1⟩ := hR.cells
        clear hR
        go_wp2
        obtain ⟨g0, g1, gf0, gf1⟩ := (HR.out.set2 (.slice y1 y2 y3) (.slice y4 y5 y6)).cells
        refine bodyPost_ret (v := .agg #[.slice y1 y2 y3, .slice y4 y5 y6]) (by simp [results, Tryd.results124, go_sem, g0, g1]) rfl ?_
        exact ⟨k, _, rfl, HK.out.1.1, HK.out.1.2, ⟨_, _, rfl, HV4.out.setP2 HR.out, HV5.out.setP2 HR.out⟩, bl_set2 BB4.out (Nat.le_refl _) _ _⟩
end Go.Proofs.YtmpdbmaokbhcjaaDoor
