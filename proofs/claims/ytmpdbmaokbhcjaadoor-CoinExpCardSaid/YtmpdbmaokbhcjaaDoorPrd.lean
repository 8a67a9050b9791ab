/-
  THE WALK of series.grow.
-/
import Derived.Test.YtmpdbmaokbhcjaaDoorPrc
set_option linter.unusedVariables false
set_option linter.unusedSimpArgs false
namespace Go.Proofs.YtmpdbmaokbhcjaaDoor
open Go.RowKit Nt Fm
open Ea (Pr halfP timesP overP plusP fixedP cdv tmP smP sqP growP)

theorem blen_lt2 (m : Nat) : m < 2 ^ blen m := bl_lt m
theorem blen_le2 {m k : Nat} (h : m < 2 ^ k) : blen m ≤ k := by
  by_cases h0 : m = 0
  · subst h0; exact Nat.zero_le _
  · have h1 : 2 ^ (blen m - 1) ≤ m := bl_le h0
    have := (Nat.pow_lt_pow_iff_right (by decide : 1 < 2)).1 (Nat.lt_of_le_of_lt h1 h)
    omega
/-- how great what is summed is -/
structure Sz (t : Pr) (p s : Nat) : Prop where
  t8 : 8 * t.h ≤ 2 ^ p
  tl : t.l ≤ t.h
  tn : t.h ≤ t.l + 1
  p4 : 4 ≤ p
theorem Sz.t {t : Pr} {p s : Nat} (h : Sz t p s) : t.l < 2 ^ (p + 2) ∧ t.h < 2 ^ (p + 2) := by
  have := h.t8; have := h.tl
  have := Nat.two_pow_pos p
  rw [Nat.pow_add]; omega
theorem Sz.tm {t : Pr} {p s : Nat} (h : Sz t p s) (k : Nat) : (tmP t p k).l < 2 ^ (p + 2) ∧ (tmP t p k).h < 2 ^ (p + 2) := by
  have h1 := Ea.tm_le (t := t) (p := p) (by have := h.t8; omega) k
  have h2 := Ea.tm_lh (p := p) h.tl k
  have := Nat.two_pow_pos p
  rw [Nat.pow_add]; omega
theorem Sz.ti {t : Pr} {p s : Nat} (h : Sz t p s) (k : Nat) : (timesP (tmP t p k) t p).l < 2 ^ (p + 2) ∧ (timesP (tmP t p k) t p).h < 2 ^ (p + 2) := by
  have h1 := Ea.tm_le (t := t) (p := p) (by have := h.t8; omega) k
  have h2 := Ea.times_l_le (tmP t p k) t p (Ea.tm_lh h.tl k) h.tl
  have h3 : (timesP (tmP t p k) t p).h ≤ 2 ^ p := by
    show cdv ((tmP t p k).h * t.h) (2 ^ p) ≤ _
    exact Ea.cdv_le (Nat.two_pow_pos p) (Nat.mul_le_mul h1 (by have := h.t8; omega))
  have := Nat.two_pow_pos p
  rw [Nat.pow_add]; omega
theorem Sz.sm {t : Pr} {p s : Nat} (h : Sz t p s) {k : Nat} (hk : k ≤ p) : (smP t p k).l < 2 ^ (p + 2) ∧ (smP t p k).h < 2 ^ (p + 2) := by
  have h1 := Ea.sm_size (t := t) (p := p) (by have := h.t8; omega) k hk
  have h2 := Ea.sm_lh (p := p) h.tl k
  have := Nat.two_pow_pos p
  have := Nat.two_pow_pos (p - k)
  rw [Nat.pow_add]; omega
/-- the sum, with what is behind it -/
def smZ (t : Pr) (p k : Nat) : Pr := ⟨(smP t p k).l, (smP t p k).h + 4⟩
theorem Sz.sq {t : Pr} {p s : Nat} (h : Sz t p s) {k j : Nat} (hk : k ≤ p) (hj : j ≤ s) : (sqP (smZ t p k) p j).l < 2 ^ (p + 3 * 2 ^ s) ∧ (sqP (smZ t p k) p j).h < 2 ^ (p + 3 * 2 ^ s) := by
  have h1 := Ea.sm_size (t := t) (p := p) (by have := h.t8; omega) k hk
  have h2 := Ea.sm_lh (p := p) h.tl k
  have h3 := Ea.sm_ge t p k
  have h4 := Nat.two_pow_pos (p - k)
  have h5 : 2 ^ 4 ≤ 2 ^ p := Nat.pow_le_pow_right (by decide) h.p4
  have w1 : 2 ^ p ≤ (smZ t p k).l := h3
  have w2 : (smZ t p k).l ≤ (smZ t p k).h := by show (smP t p k).l ≤ (smP t p k).h + 4; omega
  have w3 : (smZ t p k).h + 1 ≤ 2 ^ p * 8 := by show (smP t p k).h + 4 + 1 ≤ _; omega
  have a := Ea.sq_size w1 w2 w3 j
  have b := (Ea.sq_ge w1 w2 j).2
  have c : 2 ^ p * 8 ^ 2 ^ j ≤ 2 ^ (p + 3 * 2 ^ s) := by
    rw [show (8 : Nat) = 2 ^ 3 by decide, ← Nat.pow_mul, ← Nat.pow_add]
    exact Nat.pow_le_pow_right (by decide) (by have := Nat.pow_le_pow_right (show 0 < 2 by decide) hj; omega)
  omega
theorem sgn2_one (a : Nat) : (1 < a ∧ (0 : Int) < sgn2 a 1) ∨ (a ≤ 1 ∧ sgn2 a 1 ≤ 0) := by
  unfold sgn2
  rcases Nat.lt_trichotomy a 1 with h | h | h
  · right; refine ⟨by omega, ?_⟩; rw [if_pos (by omega)]; decide
  · right; refine ⟨by omega, ?_⟩; subst h; decide
  · left; refine ⟨h, ?_⟩; rw [if_neg (by omega), if_pos (by omega)]; decide
/-- what grow tells: the sum is taken as far as some k -/
def RetG (w : World) (m : Nat) (e : Int) (p s : Nat) (r : Ending) (w' : World) : Prop :=
  ∃ k v, r = .returned v ∧ k ≤ p ∧ (tmP (fixedP m (e - s) p) p k).h ≤ 1 ∧ PV w' v (growP m e p k s) ∧ Below w.heap.size w w'
set_option maxRecDepth 100000 in
set_option maxHeartbeats 8000000 in
theorem grow_any (v : Value) (m b p s : Nat) (e P : Int) (w : World) (hv : NV w v m) (hP : P = (p : Int)) (hm : m < 2 ^ b) (hb : b ≤ 20000000) (e0 : -20000000 ≤ e) (e1 : e ≤ 20000000) (hp : p ≤ 20000000000000) (hp0 : 16 ≤ p)
    (hs : (s : Int) = max 0 (blen m + e + 16)) (hs1 : s ≤ 27) :
    Calls Tryd.prog 89 #[v, .int .i64 e, .int .i64 P] w (RetG w m e p s) := by
  subst hP
  obtain ⟨a1, n1, c1, rfl⟩ := hv.shape
  have hbl : blen m ≤ b := blen_le2 hm
  obtain ⟨f1, f2, f3⟩ := Ea.fixed_small (m := m) (p := p) (b := blen m) (e := e - s) (blen_lt2 m) (by omega) hp0
  have F := Lib.hid (fun w' hv => fixedP_any (.slice a1 n1 c1) m b p (e - s) p w' hv rfl hm (by omega) (by omega) (by omega) (by omega))
  have F1 := Lib.hid (fun v w' hv => fixedP_any v 1 1 p 0 p w' hv rfl (by decide) (by omega) (by omega) (by omega) (by omega))
  rw [Ea.fixed_one] at F1
  have e16 : 2 ^ p = 65536 * 2 ^ (p - 16) := by
    have : 2 ^ p = 2 ^ (16 + (p - 16)) := by congr 1; omega
    rw [this, Nat.pow_add]
  obtain ⟨t, ht⟩ : ∃ t, t = fixedP m (e - s) p := ⟨_, rfl⟩
  rw [← ht] at f1 f2 f3 F
  have SZ : Hid (Sz t p s) := Lib.hid ⟨by omega, f2, f3, by omega⟩
  unfold RetG growP
  rw [← ht]
  have FALL := Lib.hid (fun k hk => Ea.tm_fall (t := t) (p := p) (by have := SZ.out.t8; omega) k hk)
  have LN := Lib.hid (fun w' hv => natLen_any (.slice a1 n1 c1) m b w' hv hm (by omega))
  have ES : Hid (max 0 ((blen m : Int) + e + 16) = (s : Int) ∧ True) := Lib.hid ⟨hs.symm, trivial⟩
  generalize blen m = L at *
  have OF := Lib.hid (fun w' => natOf_any 1 (by omega) (by omega) w')
  have OF4 := Lib.hid (fun w' => natOf_any 4 (by omega) (by omega) w')
  have HV := Lib.hid hv
  clear hm e16 f1 f2 f3 hv ht hs
  go_enter Tryd.func89, Tryd.ntmps89
  go_wp2_with fail
  refine (LN.out _ (HV.out.alloc _)).mono ?_
  rintro r w' ⟨rfl, rfl⟩
  go_wp2_with fail
  rw [ES.out.1]
  refine (F.out _ (HV.out.alloc _)).mono ?_
  rintro r w1 ⟨v1, rfl, hp1, hb1⟩
  obtain ⟨x1, y1, z1, x2, y2, z2, rfl, hv1, hv2⟩ := hp1.parts
  have C1 := bl_thru ((Below.refl w.heap.size w).alloc (Nat.le_refl _) _) (Nat.le_refl _) hb1
  have R1 := ((GI.new (x := ⟨0, 0⟩) (NV.nil w) (NV.nil w)).below hb1)
  have hz1 : w.heap.size < w1.heap.size := R1.lt
  obtain ⟨V1, hV1⟩ : ∃ V, V = w1.alloc (.cells #[.slice x1 y1 z1, .slice x2 y2 z2] 111) := ⟨_, rfl⟩
  have T1 : GI V1 w1.heap.size t := by rw [hV1]; exact GI.new hv1 hv2
  have D1 : Below w.heap.size w V1 := by rw [hV1]; exact C1.alloc (by omega) _
  have Q1 : GI V1 w.heap.size ⟨0, 0⟩ := by rw [hV1]; exact R1.alloc _
  have hb8 : ∃ b8, b8 = w1.heap.size := ⟨_, rfl⟩
  obtain ⟨b8, hb8⟩ := hb8
  rw [← hb8] at T1 hz1
  have HD1 := Lib.hid D1
  have HT1 := Lib.hid T1
  have HQ1 := Lib.hid Q1
  clear hb1 hv1 hv2 hp1 D1 T1 Q1 R1 C1
  go_wp2_with fail
  rw [← hV1, ← hb8]
  clear hV1 hb8
  refine (OF.out _).mono ?_
  rintro r w2 ⟨v2, rfl, hv2, hb2⟩
  have C2 := Lib.hid (bl_thru HD1.out (Nat.le_refl _) hb2)
  have T2 := Lib.hid (HT1.out.below hb2)
  have Q2 := Lib.hid (HQ1.out.below hb2)
  have HV2 := Lib.hid hv2
  clear hv2 hb2
  go_wp2_with fail
  refine (F1.out _ _ HV2.out).mono ?_
  rintro r w3 ⟨v3, rfl, hp3, hb3⟩
  obtain ⟨x1, y1, z1, x2, y2, z2, rfl, hv1, hv2⟩ := hp3.parts
  have C3 := bl_thru C2.out (Nat.le_refl _) hb3
  have T3 := T2.out.below hb3
  have Q3 := Q2.out.below hb3
  obtain ⟨V3, hV3⟩ : ∃ V, V = (w3.alloc (.cells #[.slice x1 y1 z1, .slice x2 y2 z2] 111)).alloc (.cells #[.slice x1 y1 z1, .slice x2 y2 z2] 111) := ⟨_, rfl⟩
  have M3 : GI V3 w3.heap.size (tmP t p 0) := by rw [hV3]; exact (GI.new (x := tmP t p 0) hv1 hv2).alloc _
  have S3 : GI V3 (w3.heap.size + 1) (smP t p 0) := by
    rw [hV3]
    have := GI.new (x := smP t p 0) (hv1.alloc (.cells #[.slice x1 y1 z1, .slice x2 y2 z2] 111)) (hv2.alloc (.cells #[.slice x1 y1 z1, .slice x2 y2 z2] 111))
    rwa [size_alloc] at this
  have hz3 : b8 < w3.heap.size := T3.lt
  have D3 : Below w.heap.size w V3 := by rw [hV3]; exact (C3.alloc (by omega) _).alloc (by simp; omega) _
  have Q4 : GI V3 w.heap.size ⟨0, 0⟩ := by rw [hV3]; exact (Q3.alloc _).alloc _
  have T4 : GI V3 b8 t := by rw [hV3]; exact (T3.alloc _).alloc _
  obtain ⟨b9, hb9⟩ : ∃ b9, b9 = w3.heap.size := ⟨_, rfl⟩
  rw [← hb9] at M3 S3 hz3
  have HD3 := Lib.hid D3
  have HT3 := Lib.hid T4
  have HQ3 := Lib.hid Q4
  have HM3 := Lib.hid M3
  have HS3 := Lib.hid S3
  clear hb3 hv1 hv2 hp3 C3 T3 Q3 D3 Q4 T4 M3 S3
  clear T2 Q2 C2 HT1 HQ1 HD1 HV2
  go_wp2_with fail
  rw [← hV3, ← hb9]
  clear hV3 hb9
  have NE : Hid ((w.heap.size ≠ b8 ∧ w.heap.size ≠ b9 ∧ w.heap.size ≠ b9 + 1 ∧ b8 ≠ b9 ∧ b8 ≠ b9 + 1 ∧ b9 ≠ b9 + 1) ∧ True) := Lib.hid ⟨by omega, trivial⟩
  have GE : Hid ((w.heap.size ≤ b9 ∧ w.heap.size ≤ b9 + 1) ∧ True) := Lib.hid ⟨by omega, trivial⟩
  have hone : ((0 : Nat) : Int) + 1 = 1 := rfl
  go_loopw [11] (fun i wr => ∃ k : Nat, i = .int .i64 ((k : Int) + 1) ∧ k ≤ p ∧ Hid (GI wr w.heap.size ⟨0, 0⟩) ∧ Hid (GI wr b8 t) ∧ Hid (GI wr b9 (tmP t p k)) ∧ Hid (GI wr (b9 + 1) (smP t p k)) ∧ Hid (Below w.heap.size w wr))
    (fun i _ => p + 1 - (intOf i).toNat)
  case atStart => exact ⟨0, by simp, Nat.zero_le _, HQ3, HT3, HM3, HS3, HD3⟩
  case round =>
    obtain ⟨k, rfl, hk, gR, gT, gM, gS, hbel⟩ := hrel
    clear HQ3 HT3 HM3 HS3 HD3 hone
    obtain ⟨m1, m2, m3, m4, m5, m6, hM, hMl, hMh⟩ := gM.out
    have HMl := Lib.hid hMl
    have HMh := Lib.hid hMh
    have HM := Lib.hid hM
    obtain ⟨c0, c1, -, -⟩ := HM.out.drew.cells
    clear hMl hMh hM
    go_wp2_with fail
    go_region_held3 (fun w' => w'.cell? ⟨b9, 1, none⟩ = some (.slice m4 m5 m6))
      (first
        | with_reducible exact c1
        | (obtain ⟨-, p1, -, -⟩ := (HM.out.drew.below hb1).cells
           exact p1)
        | (obtain ⟨-, p1, -, -⟩ := ((HM.out.drew.below HB1.out).drewN dn).cells
           exact p1)
        | (go_keep; done))
      (first
      | (go_at_call 71; refine (OF.out _).mono ?_; rintro r u1 ⟨v1, rfl, hv1, hb1⟩; have HB1 := Lib.hid hb1; have HV1 := Lib.hid hv1; have B1 := Lib.hid (bl_thru hbel.out.drew (Nat.le_refl _) hb1))
      | (go_at_call 96; refine (compare_any _ _ _ _ _ ((show NV wr.drew _ _ from HMh.out).below HB1.out) HV1.out).mono ?_; rintro r u2 ⟨rfl, dn, rfl⟩))
    clear hv1 hb1 c0 c1
    obtain ⟨W2, hW2⟩ : ∃ W2, W2 = u1.drewN dn := ⟨_, rfl⟩
    rw [← hW2]
    have gR2 : Hid (GI W2 w.heap.size ⟨0, 0⟩) := Lib.hid (by rw [hW2]; exact (gR.out.drew.below HB1.out).drewN dn)
    have gT2 : Hid (GI W2 b8 t) := Lib.hid (by rw [hW2]; exact (gT.out.drew.below HB1.out).drewN dn)
    have gM2 : Hid (GI W2 b9 (tmP t p k)) := Lib.hid (by rw [hW2]; exact (gM.out.drew.below HB1.out).drewN dn)
    have gS2 : Hid (GI W2 (b9 + 1) (smP t p k)) := Lib.hid (by rw [hW2]; exact (gS.out.drew.below HB1.out).drewN dn)
    have BB2 : Hid (Below w.heap.size w W2) := Lib.hid (by rw [hW2]; exact below_to_drewN B1.out)
    clear hW2 HM HMl HMh HB1 HV1 gR gT gM gS hbel B1
    rcases sgn2_one (tmP t p k).h with ⟨hgt, hd⟩ | ⟨hle, hd⟩
    · have hkp : k < p := by
        rcases Nat.lt_or_ge k p with h | h
        · exact h
        · have := FALL.out k hk
          rw [show p - k = 0 by omega] at this
          omega
      have TI := Lib.hid (fun v u w' hv hu => timesP_any v u (tmP t p k) t p (p + 2) p w' hv hu rfl (SZ.out.tm k).1 (SZ.out.tm k).2 SZ.out.t.1 SZ.out.t.2 (by omega) (by omega))
      have OVc := Lib.hid (fun v w' hv => overP_any v (timesP (tmP t p k) t p) (k + 1) (p + 2) ((k : Int) + 1) w' hv (by omega) (SZ.out.ti k).1 (SZ.out.ti k).2 (by omega) (by omega) (by omega))
      have PLc := Lib.hid (fun v u w' hv hu => plusP_any v u (smP t p k) (tmP t p (k + 1)) (p + 2) w' hv hu (SZ.out.sm hk).1 (SZ.out.sm hk).2 (SZ.out.tm (k + 1)).1 (SZ.out.tm (k + 1)).2 (by omega))
      have EQ1 : Hid (overP (timesP (tmP t p k) t p) (k + 1) = tmP t p (k + 1) ∧ True) := Lib.hid ⟨rfl, trivial⟩
      have EQ2 : Hid (plusP (smP t p k) (tmP t p (k + 1)) = smP t p (k + 1) ∧ True) := Lib.hid ⟨rfl, trivial⟩
      rw [EQ1.out.1] at OVc
      rw [EQ2.out.1] at PLc
      clear EQ1 EQ2
      obtain ⟨m1, m2, m3, m4, m5, m6, hM, hMl, hMh⟩ := gM2.out
      obtain ⟨t1, t2, t3, t4, t5, t6, hT, hTl, hTh⟩ := gT2.out
      obtain ⟨c0, c1, -, -⟩ := hM.cells
      obtain ⟨e0, e1, -, -⟩ := hT.cells
      have PVM := Lib.hid (show PV W2 (.agg #[.slice m1 m2 m3, .slice m4 m5 m6]) (tmP t p k) from ⟨_, _, rfl, hMl, hMh⟩)
      have PVT := Lib.hid (show PV W2 (.agg #[.slice t1 t2 t3, .slice t4 t5 t6]) t from ⟨_, _, rfl, hTl, hTh⟩)
      clear hM hMl hMh hT hTl hTh
      go_wp2_with fail
      refine (TI.out _ _ _ PVM.out PVT.out).mono ?_
      rintro r u3 ⟨v3, rfl, hp3, hb3⟩
      have HP3 := Lib.hid hp3
      have BB3 := Lib.hid (bl_thru BB2.out (Nat.le_refl _) hb3)
      have gR3 := Lib.hid (gR2.out.below hb3)
      have gT3 := Lib.hid (gT2.out.below hb3)
      have gM3 := Lib.hid (gM2.out.below hb3)
      have gS3 := Lib.hid (gS2.out.below hb3)
      clear hp3 hb3 c0 c1 e0 e1 PVM PVT gR2 gT2 gM2 gS2 TI
      go_wp2_with fail
      refine (OVc.out _ _ HP3.out).mono ?_
      rintro r u4 ⟨v4, rfl, hp4, hb4⟩
      have BB4 := Lib.hid (bl_thru BB3.out (Nat.le_refl _) hb4)
      have gR4 := Lib.hid (gR3.out.below hb4)
      have gT4 := Lib.hid (gT3.out.below hb4)
      have gM4 := Lib.hid (gM3.out.below hb4)
      have gS4 := Lib.hid (gS3.out.below hb4)
      obtain ⟨d1, d2, d3, d4, d5, d6, rfl, hv4, hv5⟩ := hp4.parts
      have HV4 := Lib.hid hv4
      have HV5 := Lib.hid hv5
      clear hp4 hb4 hv4 hv5 HP3 gR3 gT3 gM3 gS3 OVc
      -- the store into the term's block
      obtain ⟨o1, o2, o3, o4, o5, o6, hO, -, -⟩ := gM4.out
      obtain ⟨c0, c1, cf0, cf1⟩ := hO.cells
      obtain ⟨q1, q2, q3, q4, q5, q6, hQ, -, -⟩ := gS4.out
      have gR5 := Lib.hid (gR4.out.store gM4.out NE.out.1.2.1 d1 d2 d3 d4 d5 d6)
      have gT5 := Lib.hid (gT4.out.store gM4.out NE.out.1.2.2.2.1 d1 d2 d3 d4 d5 d6)
      have gS5 := Lib.hid (gS4.out.store gM4.out (Ne.symm NE.out.1.2.2.2.2.2) d1 d2 d3 d4 d5 d6)
      have gM5 := Lib.hid (gM4.out.put (y := tmP t p (k + 1)) HV4.out HV5.out)
      have BB5 := Lib.hid (bl_set2 BB4.out GE.out.1.1 (.slice d1 d2 d3) (.slice d4 d5 d6))
      clear hO hQ gR4 gT4 gS4 gM4 BB4 HV4 HV5 BB3 BB2
      obtain ⟨m1, m2, m3, m4, m5, m6, hM, hMl, hMh⟩ := gM5.out
      obtain ⟨s1, s2, s3, s4, s5, s6, hS, hSl, hSh⟩ := gS5.out
      obtain ⟨i0, i1, -, -⟩ := hM.cells
      obtain ⟨j0, j1, -, -⟩ := hS.cells
      have PVS := Lib.hid (show PV _ (.agg #[.slice s1 s2 s3, .slice s4 s5 s6]) (smP t p k) from ⟨_, _, rfl, hSl, hSh⟩)
      have PVM := Lib.hid (show PV _ (.agg #[.slice m1 m2 m3, .slice m4 m5 m6]) (tmP t p (k + 1)) from ⟨_, _, rfl, hMl, hMh⟩)
      clear hM hS hMl hMh hSl hSh
      go_wp2_with fail
      refine (PLc.out _ _ _ PVS.out PVM.out).mono ?_
      rintro r u6 ⟨v6, rfl, hp6, hb6⟩
      have BB6 := Lib.hid (bl_thru BB5.out (Nat.le_refl _) hb6)
      have gR6 := Lib.hid (gR5.out.below hb6)
      have gT6 := Lib.hid (gT5.out.below hb6)
      have gM6 := Lib.hid (gM5.out.below hb6)
      have gS6 := Lib.hid (gS5.out.below hb6)
      obtain ⟨d1, d2, d3, d4, d5, d6, rfl, hv4, hv5⟩ := hp6.parts
      have HV4 := Lib.hid hv4
      have HV5 := Lib.hid hv5
      clear hp6 hb6 hv4 hv5 PVS PVM gR5 gT5 gM5 gS5 PLc i0 i1 j0 j1 c0 c1 cf0 cf1 BB5
      obtain ⟨o1, o2, o3, o4, o5, o6, hO, -, -⟩ := gS6.out
      obtain ⟨c0, c1, cf0, cf1⟩ := hO.cells
      have gR7 := Lib.hid (gR6.out.store gS6.out NE.out.1.2.2.1 d1 d2 d3 d4 d5 d6)
      have gT7 := Lib.hid (gT6.out.store gS6.out NE.out.1.2.2.2.2.1 d1 d2 d3 d4 d5 d6)
      have gM7 := Lib.hid (gM6.out.store gS6.out NE.out.1.2.2.2.2.2 d1 d2 d3 d4 d5 d6)
      have gS7 := Lib.hid (gS6.out.put (y := smP t p (k + 1)) HV4.out HV5.out)
      have BB7 := Lib.hid (bl_set2 BB6.out GE.out.1.2 (.slice d1 d2 d3) (.slice d4 d5 d6))
      clear hO gR6 gT6 gS6 gM6 BB6 HV4 HV5
      go_wp2
      go_roundw
      case rel => exact ⟨k + 1, by simp, by omega, gR7, gT7, gM7, gS7, BB7⟩
      case measure => simp [intOf]; omega
    · obtain ⟨s1, s2, s3, s4, s5, s6, hS, hSl, hSh⟩ := gS2.out
      have HSl := Lib.hid hSl
      have HSh := Lib.hid hSh
      have HS := Lib.hid hS
      clear hS hSl hSh
      have PLd := Lib.hid (fun va vb w' ha hb => plus_any va vb (smP t p k).h 4 (p + 2) w' ha hb (SZ.out.sm hk).2 (by
        have : 2 ^ 3 ≤ 2 ^ (p + 2) := Nat.pow_le_pow_right (by decide) (by omega)
        omega) (by omega))
      go_wp2_with fail
      obtain ⟨c0, c1, cf0, cf1⟩ := HS.out.drew.cells
      go_region_with (first
        | (go_at_call 71; refine (OF4.out _).mono ?_; rintro r u1 ⟨v1, rfl, hv1, hb1⟩; obtain ⟨-, p1, pf0, pf1⟩ := (HS.out.drew.below hb1).cells; have HB1 := Lib.hid hb1; have HV1 := Lib.hid hv1; have B1 := Lib.hid (bl_thru BB2.out.drew (Nat.le_refl _) hb1))
        | (go_at_call 87; refine (PLd.out _ _ _ ((show NV W2.drew _ _ from HSh.out).below HB1.out) HV1.out).mono ?_; rintro r u2 ⟨v2, rfl, hv2, hb2⟩; obtain ⟨d4, d5, d6, rfl⟩ := hv2.shape; obtain ⟨q0, q1, qf0, qf1⟩ := ((HS.out.drew.below HB1.out).below hb2).cells; have HB2 := Lib.hid hb2; have HV2 := Lib.hid hv2; have B2 := Lib.hid (bl_thru B1.out (Nat.le_refl _) hb2)))
      all_goals
        have S0 := Lib.hid ((HS.out.drew.below HB1.out).below HB2.out)
        have gS3 : Hid (GI (u2.setCell ⟨b9 + 1, 1, none⟩ (.slice d4 d5 d6)) (b9 + 1) (sqP (smZ t p k) p 0)) := Lib.hid ⟨s1, s2, s3, d4, d5, d6, S0.out.set1 _, (((show NV W2.drew _ _ from HSl.out).below HB1.out).below HB2.out).setP S0.out 1 _, HV2.out.setP S0.out 1 _⟩
        have gR3 : Hid (GI (u2.setCell ⟨b9 + 1, 1, none⟩ (.slice d4 d5 d6)) w.heap.size ⟨0, 0⟩) := Lib.hid (by
          obtain ⟨r1, r2, r3, r4, r5, r6, hR, hRl, hRh⟩ := (gR2.out.drew.below HB1.out).below HB2.out
          exact ⟨r1, r2, r3, r4, r5, r6, hR.set NE.out.1.2.2.1 _, hRl.setP S0.out 1 _, hRh.setP S0.out 1 _⟩)
        have BB3 : Hid (Below w.heap.size w (u2.setCell ⟨b9 + 1, 1, none⟩ (.slice d4 d5 d6))) := Lib.hid (B2.out.setCell GE.out.1.2 _)
        have h2s : Hid (2 ^ s ≤ 134217728 ∧ True) := Lib.hid ⟨Nat.pow_le_pow_right (show 0 < 2 by decide) hs1, trivial⟩
        have SQ := Lib.hid (fun j (hj : j ≤ s) v u w' hv hu => timesP_any v u (sqP (smZ t p k) p j) (sqP (smZ t p k) p j) p (p + 3 * 2 ^ s) p w' hv hu rfl (SZ.out.sq hk hj).1 (SZ.out.sq hk hj).2 (SZ.out.sq hk hj).1 (SZ.out.sq hk hj).2 (by have := h2s.out.1; omega) (by omega))
        have EZ : Hid (∀ j, timesP (sqP (smZ t p k) p j) (sqP (smZ t p k) p j) p = sqP (smZ t p k) p (j + 1)) := Lib.hid (fun j => rfl)
        obtain ⟨z, hz⟩ : ∃ z, z = smZ t p k := ⟨_, rfl⟩
        have HZ : Hid (z = ⟨(smP t p k).l, (smP t p k).h + 4⟩ ∧ True) := Lib.hid ⟨hz, trivial⟩
        rw [← hz] at gS3 SQ EZ
        have HK : Hid ((k ≤ p ∧ (tmP t p k).h ≤ 1) ∧ True) := Lib.hid ⟨⟨hk, hle⟩, trivial⟩
        have gR3' := gR3
        have BB3' := BB3
        have gS3' := gS3
        clear hz S0 HB1 HB2 HV1 HV2 B1 B2 HS HSl HSh gR2 gT2 gM2 gS2 BB2 hv1 hb1 hv2 hb2 c0 c1 cf0 cf1 p1 pf0 pf1 q0 q1 qf0 qf1 PLd
        go_wp2
        go_loopw [50] (fun i wr => ∃ j : Nat, i = .int .i64 (j : Int) ∧ j ≤ s ∧ Hid (GI wr w.heap.size ⟨0, 0⟩) ∧ Hid (GI wr (b9 + 1) (sqP z p j)) ∧ Hid (Below w.heap.size w wr))
          (fun i _ => s - (intOf i).toNat)
        case atStart => exact ⟨0, rfl, Nat.zero_le _, gR3', gS3', BB3'⟩
        case round =>
          obtain ⟨j, rfl, hj, gR, gS, hbel⟩ := hrel
          obtain ⟨m1, m2, m3, m4, m5, m6, hM, hMl, hMh⟩ := gS.out
          obtain ⟨c0, c1, cf0, cf1⟩ := hM.cells
          have PVM := Lib.hid (show PV wr (.agg #[.slice m1 m2 m3, .slice m4 m5 m6]) (sqP z p j) from ⟨_, _, rfl, hMl, hMh⟩)
          have HMl := Lib.hid hMl
          have HMh := Lib.hid hMh
          clear hM hMl hMh gR3 BB3 gS3 gR3' BB3' gS3'
          by_cases hjs : j < s
          · have SQj := Lib.hid (SQ.out j hj)
            rw [EZ.out j] at SQj
            go_wp2_with fail
            refine (SQj.out _ _ _ PVM.out PVM.out).mono ?_
            rintro r u6 ⟨v6, rfl, hp6, hb6⟩
            have BB6 := Lib.hid (bl_thru hbel.out (Nat.le_refl _) hb6)
            have gR6 := Lib.hid (gR.out.below hb6)
            have gS6 := Lib.hid (gS.out.below hb6)
            obtain ⟨d1, d2, d3, d4, d5, d6, rfl, hv4, hv5⟩ := hp6.parts
            have HV4 := Lib.hid hv4
            have HV5 := Lib.hid hv5
            clear hp6 hb6 hv4 hv5 PVM gR gS SQj c0 c1 cf0 cf1 HMl HMh
            obtain ⟨o1, o2, o3, o4, o5, o6, hO, -, -⟩ := gS6.out
            obtain ⟨c0, c1, cf0, cf1⟩ := hO.cells
            have gR7 := Lib.hid (gR6.out.store gS6.out NE.out.1.2.2.1 d1 d2 d3 d4 d5 d6)
            have gS7 := Lib.hid (gS6.out.put (y := sqP z p (j + 1)) HV4.out HV5.out)
            have BB7 := Lib.hid (bl_set2 BB6.out GE.out.1.2 (.slice d1 d2 d3) (.slice d4 d5 d6))
            clear hO gR6 gS6 BB6 HV4 HV5
            go_wp2
            go_roundw
            case rel => exact ⟨j + 1, by simp, by omega, gR7, gS7, BB7⟩
            case measure => simp [intOf]; omega
          · have hje : j = s := by omega
            subst hje
            obtain ⟨r1, r2, r3, r4, r5, r6, hR, -, -⟩ := gR.out
            have HR := Lib.hid hR
            obtain ⟨i0, i1, if0, if1⟩ := hR.cells
            obtain ⟨g0, g1, gf0, gf1⟩ := (hR.set2 (.slice m1 m2 m3) (.slice m4 m5 m6)).cells
            clear hR
            go_wp2
            refine bodyPost_ret (v := .agg #[.slice m1 m2 m3, .slice m4 m5 m6]) (by simp [results, Tryd.results89, go_sem, g0, g1]) rfl ?_
            have hzz := HZ.out.1
            subst hzz
            exact ⟨k, _, rfl, HK.out.1.1, HK.out.1.2, ⟨_, _, rfl, HMl.out.setP2 HR.out, HMh.out.setP2 HR.out⟩, bl_set2 hbel.out (Nat.le_refl _) _ _⟩
end Go.Proofs.YtmpdbmaokbhcjaaDoor
