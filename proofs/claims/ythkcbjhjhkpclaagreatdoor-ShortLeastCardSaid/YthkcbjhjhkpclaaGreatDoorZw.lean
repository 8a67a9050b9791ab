/-
  THE WALK of read.value.
-/
import Derived.Test.YthkcbjhjhkpclaaGreatDoorZr
import Derived.Test.YthkcbjhjhkpclaaGreatDoorZxv
import Derived.Test.YthkcbjhjhkpclaaGreatDoorRx
set_option linter.unusedVariables false
set_option linter.unusedSimpArgs false
namespace Go.Proofs.YthkcbjhjhkpclaaGreatDoor
open Go.RowKit Nt Fm Fl

theorem rv_big {neg : Bool} {L N : Nat} {K : Int} (h : 400 < (L : Int) + K) : rvD neg L N K = ⟨neg, 1, 2000⟩ := by unfold rvD; rw [if_pos h]
theorem rv_small {neg : Bool} {L N : Nat} {K : Int} (h : (L : Int) + K < -400) : rvD neg L N K = ⟨neg, 1, -2000⟩ := by unfold rvD; rw [if_neg (by omega), if_pos h]
theorem rv_whole {neg : Bool} {L N : Nat} {K : Int} (h1 : (L : Int) + K ≤ 400) (h : 0 ≤ K) : rvD neg L N K = norm neg (N * 10 ^ K.toNat) 0 := by unfold rvD; rw [if_neg (by omega), if_neg (by omega), if_pos h]
theorem rv_part {neg : Bool} {L N : Nat} {K : Int} (h0 : -400 ≤ (L : Int) + K) (h1 : (L : Int) + K ≤ 400) (h : K < 0) : rvD neg L N K = ratD ((norm neg (N * 10 ^ K.toNat) 0).neg != (norm false (10 ^ (-K).toNat) 0).neg) (norm neg (N * 10 ^ K.toNat) 0).m (norm false (10 ^ (-K).toNat) 0).m ((norm neg (N * 10 ^ K.toNat) 0).e - (norm false (10 ^ (-K).toNat) 0).e) := by
  unfold rvD; rw [if_neg (by omega), if_neg (by omega), if_neg (by omega)]
theorem rv_norm_bd (neg : Bool) {a k0 : Nat} (h0 : a ≠ 0) (h : a < 2 ^ k0) : (norm neg a 0).m ≠ 0 ∧ (norm neg a 0).m < 2 ^ k0 ∧ 0 ≤ (norm neg a 0).e ∧ (norm neg a 0).e ≤ k0 := by
  obtain ⟨c, z, e1, e2, e3⟩ := norm_shape (neg := neg) h0
  rw [e1]
  refine ⟨e3, ?_, by show (0 : Int) ≤ z; omega, ?_⟩
  · show c < _
    have := Nat.le_mul_of_pos_right c (Nat.two_pow_pos z)
    omega
  · show (z : Int) ≤ k0
    have h1 : 2 ^ z ≤ a := by rw [e2]; exact Nat.le_mul_of_pos_left _ (by omega)
    have h2 := (Nat.pow_lt_pow_iff_right (by decide : 1 < 2)).1 (Nat.lt_of_le_of_lt h1 h)
    omega
set_option maxRecDepth 100000 in
set_option maxHeartbeats 8000000 in
theorem rvalue_any (neg : Bool) (ds : List UInt8) (S : ByteArray) (hS : S = ⟨ds.toArray⟩) (hd : ∀ c ∈ ds, dgt c) (hl : ds.length ≤ 1000) (hN0 : dcN 0 ds ≠ 0) (K : Int) (K0 : -2000000 ≤ K) (K1 : K ≤ 2000000) (w : World) (hT : Tab w) :
    Calls Tryz.prog 92 #[.bool neg, .string S, .int .i64 K] w (RetD w (rvD neg ds.length (dcN 0 ds) K)) := by
  have hz : S.size = ds.length := by rw [hS]; rfl
  obtain ⟨L, hL⟩ : ∃ L, L = ds.length := ⟨_, rfl⟩
  rw [← hL] at hl hz
  have OF := Lib.hid (fun w' => natOf_any 1 (by omega) (by omega) w')
  have hw : IntKind.i64.wrap ((L : Int) + K) = (L : Int) + K := IntWalk.i64_in _ (by omega)
  rw [← hL]
  by_cases hb : 400 < (L : Int) + K
  · rw [rv_big hb]
    clear hS hd hN0 hL hT
    go_enter Tryz.func92, Tryz.ntmps92
    go_wp2_with fail
    refine (OF.out _).mono ?_
    rintro r w1 ⟨v1, rfl, h1, hb⟩
    obtain ⟨a1, n1, c1, rfl⟩ := h1.shape
    have Z1 := Lib.hid ((Box.new w (.bool false) (.slice none 0 0) (.int .i64 0) 40).below hb)
    have B1 := Lib.hid (bl_thru ((Below.refl w.heap.size w).alloc (Nat.le_refl _) _) (Nat.le_refl _) hb)
    have V1 := Lib.hid h1
    clear h1 hb
    obtain ⟨s0, s1, s2, t0, t1, t2⟩ := Z1.out.cells
    have hB := B1.out.size
    go_wp2
    refine bodyPost_ret (v := .agg #[.bool neg, .slice a1 n1 c1, .int .i64 2000]) (by simp [results, Tryz.results92, go_sem, s0, s1, s2]) rfl ?_
    refine ⟨_, rfl, ⟨_, rfl, ?_⟩, bl_set3 B1.out (Nat.le_refl _) _ _ _⟩
    have := V1.out.setD Z1.out (g' := neg) (ao' := a1) (n' := n1) (c' := c1) (e' := 2000)
    simpa using this
  by_cases hs : (L : Int) + K < -400
  · rw [rv_small hs]
    clear hS hd hN0 hL hT
    go_enter Tryz.func92, Tryz.ntmps92
    go_wp2_with fail
    refine (OF.out _).mono ?_
    rintro r w1 ⟨v1, rfl, h1, hb⟩
    obtain ⟨a1, n1, c1, rfl⟩ := h1.shape
    have Z1 := Lib.hid ((Box.new w (.bool false) (.slice none 0 0) (.int .i64 0) 40).below hb)
    have B1 := Lib.hid (bl_thru ((Below.refl w.heap.size w).alloc (Nat.le_refl _) _) (Nat.le_refl _) hb)
    have V1 := Lib.hid h1
    clear h1 hb
    obtain ⟨s0, s1, s2, t0, t1, t2⟩ := Z1.out.cells
    have hB := B1.out.size
    go_wp2
    refine bodyPost_ret (v := .agg #[.bool neg, .slice a1 n1 c1, .int .i64 (-2000)]) (by simp [results, Tryz.results92, go_sem, s0, s1, s2]) rfl ?_
    refine ⟨_, rfl, ⟨_, rfl, ?_⟩, bl_set3 B1.out (Nat.le_refl _) _ _ _⟩
    have := V1.out.setD Z1.out (g' := neg) (ao' := a1) (n' := n1) (c' := c1) (e' := -2000)
    simpa using this
  have RN := Lib.hid (fun w' => nread_any ds S hS hd (by omega) w')
  have PW := Lib.hid (fun X w' (hX : X = ((K.toNat : Nat) : Int)) => pow10_z K.toNat X w' hX (by omega))
  obtain ⟨kb, kb0, kb1⟩ : ∃ kb, 12000 ≤ kb ∧ kb ≤ 12000 := ⟨12000, by omega, by omega⟩
  have hN2 := dcN_bd ds hd
  have hNb : dcN 0 ds < 2 ^ kb := Nat.lt_of_lt_of_le hN2 (Nat.pow_le_pow_right (by omega) (by omega))
  have hPb : 10 ^ K.toNat < 2 ^ kb := Nat.lt_of_lt_of_le (tenz_two _) (Nat.pow_le_pow_right (by omega) (by omega))
  have hXb : dcN 0 ds * 10 ^ K.toNat < 2 ^ kb := by
    have h1 := Nat.mul_lt_mul_of_lt_of_le hN2 (Nat.le_of_lt (tenz_two K.toNat)) (Nat.two_pow_pos _)
    rw [← Nat.pow_add] at h1
    exact Nat.lt_of_lt_of_le h1 (Nat.pow_le_pow_right (by omega) (by omega))
  have hX0 : dcN 0 ds * 10 ^ K.toNat ≠ 0 := Nat.mul_ne_zero hN0 (by have := Nat.pow_pos (n := K.toNat) (show 0 < 10 by omega); omega)
  have TM := Lib.hid (fun va vb w' (ha : NV w' va (dcN 0 ds)) (hb : NV w' vb (10 ^ K.toNat)) => times_any va vb _ _ kb w' ha hb hNb hPb (by omega))
  have NM := Lib.hid (fun va w' (ht : Tab w') (ha : NV w' va (dcN 0 ds * 10 ^ K.toNat)) => dnorm_any neg va _ kb 0 w' ht ha hXb (by omega) (by omega) (by omega))
  obtain ⟨x1, x2, x3, x4⟩ := rv_norm_bd neg hX0 hXb
  have hmx := Lib.hid (show max K 0 = ((K.toNat : Nat) : Int) by omega)
  have HT := Lib.hid hT
  by_cases hk : 0 ≤ K
  · rw [rv_whole (by omega) hk]
    generalize norm neg (dcN 0 ds * 10 ^ K.toNat) 0 = X at *
    obtain ⟨gx, mx, ex⟩ := X
    clear hS hd hN0 hL hT OF hN2 hNb hPb hXb hX0 x1 x2 x3 x4
    go_enter Tryz.func92, Tryz.ntmps92
    go_wp2_with fail
    refine (RN.out _).mono ?_
    rintro r w1 ⟨v1, rfl, h1, hb1⟩
    have Z1 := Lib.hid ((Box.new w (.bool false) (.slice none 0 0) (.int .i64 0) 40).below hb1)
    have B1 := Lib.hid (bl_thru ((Below.refl w.heap.size w).alloc (Nat.le_refl _) _) (Nat.le_refl _) hb1)
    have V1 := Lib.hid h1
    clear h1 hb1
    go_wp2_with fail
    refine (PW.out _ _ hmx.out).mono ?_
    rintro r w2 ⟨v2, rfl, h2, hb2⟩
    have Z2 := Lib.hid (Z1.out.below hb2)
    have B2 := Lib.hid (bl_thru B1.out (Nat.le_refl _) hb2)
    replace V1 := Lib.hid (V1.out.below hb2)
    have V2 := Lib.hid h2
    clear h2 hb2 Z1 B1
    go_wp2_with fail
    refine (TM.out _ _ _ V1.out V2.out).mono ?_
    rintro r w3 ⟨v3, rfl, h3, hb3⟩
    have Z3 := Lib.hid (Z2.out.below hb3)
    have B3 := Lib.hid (bl_thru B2.out (Nat.le_refl _) hb3)
    have V3 := Lib.hid h3
    clear h3 hb3 Z2 B2 V1 V2
    go_wp2_with fail
    refine (NM.out _ _ (HT.out.below B3.out) V3.out).mono ?_
    rintro r w4 ⟨v4, rfl, h4, hb4⟩
    obtain ⟨s4, rfl, hs4⟩ := h4
    obtain ⟨a4, n4, c4, rfl⟩ := hs4.shape
    have Z4 := Lib.hid (Z3.out.below hb4)
    have B4 := Lib.hid (bl_thru B3.out (Nat.le_refl _) hb4)
    have V4 := Lib.hid hs4
    clear hs4 hb4 Z3 B3 V3
    obtain ⟨V, hV⟩ : ∃ V, V = w4.alloc (.cells #[.bool gx, .slice a4 n4 c4, .int .i64 ex] 40) := ⟨_, rfl⟩
    have X5 : Hid (Box V w4.heap.size 40 (.bool gx) (.slice a4 n4 c4) (.int .i64 ex)) := Lib.hid (by rw [hV]; exact Box.new w4 (.bool gx) (.slice a4 n4 c4) (.int .i64 ex) 40)
    have Z5 : Hid (Box V w.heap.size 40 (.bool false) (.slice none 0 0) (.int .i64 0)) := Lib.hid (by rw [hV]; exact Z4.out.alloc _)
    have B5 : Hid (Below w.heap.size w V) := Lib.hid (by rw [hV]; exact B4.out.alloc B4.out.size _)
    have V5 : Hid (NV V (.slice a4 n4 c4) mx) := Lib.hid (by rw [hV]; exact V4.out.alloc _)
    obtain ⟨s0, s1, s2, t0, t1, t2⟩ := Z5.out.cells
    obtain ⟨u0, u1, u2, v0, v1, v2⟩ := X5.out.cells
    have hB := B4.out.size
    rw [hV] at s0 s1 s2 t0 t1 t2 u0 u1 u2 v0 v1 v2
    go_wp2
    rw [← hV] at *
    refine bodyPost_ret (v := .agg #[.bool gx, .slice a4 n4 c4, .int .i64 ex]) (by simp [results, Tryz.results92, go_sem, s0, s1, s2]) rfl ?_
    refine ⟨_, rfl, ⟨_, rfl, ?_⟩, bl_set3 B5.out (Nat.le_refl _) _ _ _⟩
    have := V5.out.setD Z5.out (g' := gx) (ao' := a4) (n' := n4) (c' := c4) (e' := ex)
    simpa using this
  · rw [rv_part (by omega) (by omega) (by omega)]
    have hPp : 10 ^ (-K).toNat ≠ 0 := by have := Nat.pow_pos (n := (-K).toNat) (show 0 < 10 by omega); omega
    have hPb2 : 10 ^ (-K).toNat < 2 ^ kb := Nat.lt_of_lt_of_le (tenz_two _) (Nat.pow_le_pow_right (by omega) (by omega))
    have PX := Lib.hid (fun X w' (hX : X = (((-K).toNat : Nat) : Int)) => pow10_z (-K).toNat X w' hX (by omega))
    have NX := Lib.hid (fun va w' (ht : Tab w') (ha : NV w' va (10 ^ (-K).toNat)) => dnorm_any false va _ kb 0 w' ht ha hPb2 (by omega) (by omega) (by omega))
    obtain ⟨y1, y2, y3, y4⟩ := rv_norm_bd false hPp hPb2
    generalize norm neg (dcN 0 ds * 10 ^ K.toNat) 0 = X at *
    obtain ⟨gx, mx, ex⟩ := X
    generalize norm false (10 ^ (-K).toNat) 0 = Y at *
    obtain ⟨gy, my, ey⟩ := Y
    simp only at x1 x2 x3 x4 y1 y2 y3 y4
    have RA := Lib.hid (fun vc vd w' hc hd => ratio_any vc vd ⟨gx, mx, ex⟩ ⟨gy, my, ey⟩ kb w' hc hd x2 y2 y1 (by omega) (by show _ ≤ ex; omega) (by show ex ≤ _; omega) (by show _ ≤ ey; omega) (by show ey ≤ _; omega))
    clear hS hd hN0 hL hT OF hN2 hNb hPb hXb hX0 x1 x2 x3 x4 y1 y2 y3 y4 hPp hPb2
    go_enter Tryz.func92, Tryz.ntmps92
    go_wp2_with fail
    refine (RN.out _).mono ?_
    rintro r w1 ⟨v1, rfl, h1, hb1⟩
    have Z1 := Lib.hid ((Box.new w (.bool false) (.slice none 0 0) (.int .i64 0) 40).below hb1)
    have B1 := Lib.hid (bl_thru ((Below.refl w.heap.size w).alloc (Nat.le_refl _) _) (Nat.le_refl _) hb1)
    have V1 := Lib.hid h1
    clear h1 hb1
    go_wp2_with fail
    refine (PW.out _ _ hmx.out).mono ?_
    rintro r w2 ⟨v2, rfl, h2, hb2⟩
    have Z2 := Lib.hid (Z1.out.below hb2)
    have B2 := Lib.hid (bl_thru B1.out (Nat.le_refl _) hb2)
    replace V1 := Lib.hid (V1.out.below hb2)
    have V2 := Lib.hid h2
    clear h2 hb2 Z1 B1
    go_wp2_with fail
    refine (TM.out _ _ _ V1.out V2.out).mono ?_
    rintro r w3 ⟨v3, rfl, h3, hb3⟩
    have Z3 := Lib.hid (Z2.out.below hb3)
    have B3 := Lib.hid (bl_thru B2.out (Nat.le_refl _) hb3)
    have V3 := Lib.hid h3
    clear h3 hb3 Z2 B2 V1 V2
    go_wp2_with fail
    refine (NM.out _ _ (HT.out.below B3.out) V3.out).mono ?_
    rintro r w4 ⟨v4, rfl, h4, hb4⟩
    obtain ⟨s4, rfl, hs4⟩ := h4
    obtain ⟨a4, n4, c4, rfl⟩ := hs4.shape
    have Z4 := Lib.hid (Z3.out.below hb4)
    have B4 := Lib.hid (bl_thru B3.out (Nat.le_refl _) hb4)
    have V4 := Lib.hid hs4
    clear hs4 hb4 Z3 B3 V3
    obtain ⟨V, hV⟩ : ∃ V, V = w4.alloc (.cells #[.bool gx, .slice a4 n4 c4, .int .i64 ex] 40) := ⟨_, rfl⟩
    have X5 : Hid (Box V w4.heap.size 40 (.bool gx) (.slice a4 n4 c4) (.int .i64 ex)) := Lib.hid (by rw [hV]; exact Box.new w4 (.bool gx) (.slice a4 n4 c4) (.int .i64 ex) 40)
    have Z5 : Hid (Box V w.heap.size 40 (.bool false) (.slice none 0 0) (.int .i64 0)) := Lib.hid (by rw [hV]; exact Z4.out.alloc _)
    have B5 : Hid (Below w.heap.size w V) := Lib.hid (by rw [hV]; exact B4.out.alloc B4.out.size _)
    have V5 : Hid (NV V (.slice a4 n4 c4) mx) := Lib.hid (by rw [hV]; exact V4.out.alloc _)
    obtain ⟨bx, hbx⟩ : ∃ bx, bx = w4.heap.size := ⟨_, rfl⟩
    have hB : w.heap.size < bx := by rw [hbx]; exact Z4.out.lt
    go_wp2_with fail
    rw [← hV]
    rw [← hbx] at X5 ⊢
    clear hV hbx Z4 B4 V4
    have hnk := Lib.hid (show IntKind.i64.wrap (-K) = (((-K).toNat : Nat) : Int) by rw [IntWalk.i64_in _ (by omega)]; omega)
    obtain ⟨p0, p1, p2, -, -, -⟩ := X5.out.drew.cells
    go_region_held3 (fun w' => w'.cell? ⟨bx, 0, none⟩ = some (.bool gx) ∧ w'.cell? ⟨bx, 1, none⟩ = some (.slice a4 n4 c4) ∧ w'.cell? ⟨bx, 2, none⟩ = some (.int .i64 ex))
      (first
        | with_reducible exact ⟨p0, p1, p2⟩
        | (obtain ⟨p0, p1, p2, -, -, -⟩ := X6.out.cells; exact ⟨p0, p1, p2⟩)
        | (obtain ⟨p0, p1, p2, -, -, -⟩ := X7.out.cells; exact ⟨p0, p1, p2⟩)
        | (obtain ⟨p0, p1, p2, -, -, -⟩ := X8.out.cells; exact ⟨p0, p1, p2⟩)
        | (obtain ⟨p0, p1, p2, -, -, -⟩ := X9.out.cells; exact ⟨p0, p1, p2⟩)
        | (go_keep; done))
      (first
        | (go_at_call 126; refine (PX.out _ _ hnk.out).mono ?_; rintro r w5 ⟨v5, rfl, h5, hb5⟩; have X6 := Lib.hid (X5.out.drew.below hb5); have Z6 := Lib.hid (Z5.out.drew.below hb5); have B6 := Lib.hid (bl_thru B5.out.drew (Nat.le_refl _) hb5); have V6 := Lib.hid h5; have E6 := Lib.hid (V5.out.drew.below hb5))
        | (go_at_call 70; refine (NX.out _ _ (HT.out.below B6.out) V6.out).mono ?_; rintro r w6 ⟨v6, rfl, h6, hb6⟩; have X7 := Lib.hid (X6.out.below hb6); have Z7 := Lib.hid (Z6.out.below hb6); have B7 := Lib.hid (bl_thru B6.out (Nat.le_refl _) hb6); have E7 := Lib.hid (E6.out.below hb6); have D7 := Lib.hid h6)
        | (go_at_call 142; refine (RA.out _ _ _ ⟨_, rfl, E7.out⟩ D7.out).mono ?_; rintro r w7 ⟨v7, rfl, h7, hb7⟩; obtain ⟨s7, rfl, hs7⟩ := h7; obtain ⟨a7, n7, c7, rfl⟩ := hs7.shape; have X8 := Lib.hid (X7.out.below hb7); have Z8 := Lib.hid (Z7.out.below hb7); have B8 := Lib.hid (bl_thru B7.out (Nat.le_refl _) hb7); have V8 := Lib.hid hs7; obtain ⟨z0, z1, z2, zf0, zf1, zf2⟩ := Z8.out.cells; obtain ⟨y0, y1, y2, yf0, yf1, yf2⟩ := Z8.out.drew.cells; have X9 := Lib.hid (((X8.out.set (b' := w.heap.size) (o := 0) (by omega) (.bool (ratD (gx != gy) mx my (ex - ey)).neg)).set (b' := w.heap.size) (o := 1) (by omega) (.slice a7 n7 c7)).set (b' := w.heap.size) (o := 2) (by omega) (.int .i64 (ratD (gx != gy) mx my (ex - ey)).e)).drew))
    have Z9 := Lib.hid ((Z8.out.set3 (.bool (ratD (gx != gy) mx my (ex - ey)).neg) (.slice a7 n7 c7) (.int .i64 (ratD (gx != gy) mx my (ex - ey)).e)))
    have V9 := Lib.hid ((V8.out.setD Z8.out (g' := (ratD (gx != gy) mx my (ex - ey)).neg) (ao' := a7) (n' := n7) (c' := c7) (e' := (ratD (gx != gy) mx my (ex - ey)).e)))
    clear z0 z1 z2 zf0 zf1 zf2 y0 y1 y2 yf0 yf1 yf2 h5 hb5 h6 hb6 hs7 hb7 p0 p1 p2
    obtain ⟨s0, s1, s2, t0, t1, t2⟩ := Z9.out.cells
    go_wp2
    refine bodyPost_ret (v := .agg #[.bool (ratD (gx != gy) mx my (ex - ey)).neg, .slice a7 n7 c7, .int .i64 (ratD (gx != gy) mx my (ex - ey)).e]) (by simp [results, Tryz.results92, go_sem, s0, s1, s2]) rfl ?_
    exact ⟨_, rfl, ⟨_, rfl, V9.out⟩, bl_set3 B8.out (Nat.le_refl _) _ _ _⟩
end Go.Proofs.YthkcbjhjhkpclaaGreatDoor
