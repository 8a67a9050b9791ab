/-
  THE WALK of quot.Root.
-/
import Derived.Test.YthoejmhpgabgdaaDoorRa
import Derived.Test.YthoejmhpgabgdaaDoorNa
set_option linter.unusedVariables false
set_option linter.unusedSimpArgs false
namespace Go.Proofs.YthoejmhpgabgdaaDoor
open Go.RowKit Nt Fm

theorem root_mark (m : Nat) : Fm.mark (m - isq m * isq m) = if (sgn2 ((isq m * isq m : Nat) : Int) (m : Int) != 0) = true then 1 else 0 := by
  have h := (isq_root m).1
  unfold Fm.mark sgn2
  rcases Nat.lt_or_ge (isq m * isq m) m with h1 | h1
  · rw [if_neg (by omega), if_pos (show ((isq m * isq m : Nat) : Int) < (m : Int) by omega)]; rfl
  · have e : isq m * isq m = m := by omega
    rw [e]; simp
theorem tmod2_even {x : Int} (h : x % 2 = 0) : x.tmod 2 = 0 ∧ x.tdiv 2 = x / 2 := ⟨Int.tmod_eq_zero_of_dvd (Int.dvd_of_emod_eq_zero h), Int.tdiv_eq_ediv_of_dvd (Int.dvd_of_emod_eq_zero h)⟩
theorem tmod2_odd {x : Int} (h : x % 2 ≠ 0) : x.tmod 2 ≠ 0 := fun h2 => h (Int.emod_eq_zero_of_dvd (Int.dvd_of_tmod_eq_zero h2))
set_option maxRecDepth 100000 in
set_option maxHeartbeats 8000000 in
theorem qroot_any (vd : Value) (d : D) (k0 : Nat) (w : World) (hd : DV w vd d) (hdm : d.m < 2 ^ k0) (hk0 : k0 ≤ 100000) (ed0 : -400000 ≤ d.e) (ed1 : d.e ≤ 400000) :
    Calls Tryd.prog 67 #[vd] w (RetD w (rtD (isq (d.m * 2 ^ rk d.e)) d.m d.e)) := by
  obtain ⟨gd, md, xd⟩ := d
  obtain ⟨sd, rfl, hsd⟩ := hd
  simp only at *
  obtain ⟨ad, nd, cd, rfl⟩ := hsd.shape
  obtain ⟨k, hk⟩ : ∃ k, k = rk xd := ⟨_, rfl⟩
  have hk2 : (k = 160 ∧ (Int.tmod (xd - 160) 2 != 0) = false ∧ Int.tdiv (xd - 160) 2 = (xd - k) / 2) ∨ (k = 161 ∧ (Int.tmod (xd - 160) 2 != 0) = true ∧ Int.tdiv (xd - 161) 2 = (xd - k) / 2) := by
    unfold rk at hk
    split at hk
    · rename_i h
      refine Or.inl ⟨hk, ?_, ?_⟩
      · rw [bne_eq_false_iff_eq]; exact (tmod2_even h).1
      · rw [hk, (tmod2_even h).2]; rfl
    · rename_i h
      refine Or.inr ⟨hk, ?_, ?_⟩
      · rw [bne_iff_ne]; exact tmod2_odd h
      · rw [hk, (tmod2_even (show (xd - 161) % 2 = 0 by omega)).2]; rfl
  rw [← hk]
  have hC : md * 2 ^ k < 2 ^ (k0 + k) := by rw [Nat.pow_add]; exact Nat.mul_lt_mul_of_pos_right hdm (Nat.two_pow_pos _)
  have hk161 : k ≤ 161 := by omega
  have ER : Hid (rtD (isq (md * 2 ^ k)) md xd = ⟨false, 4 * isq (md * 2 ^ k) + (if (sgn2 ((isq (md * 2 ^ k) * isq (md * 2 ^ k) : Nat) : Int) ((md * 2 ^ k : Nat) : Int) != 0) = true then 1 else 0), (xd - k) / 2 - 2⟩ ∧ True) := Lib.hid ⟨by
    rw [← root_mark, hk]; rfl, trivial⟩
  rw [ER.out.1]
  have hI : isq (md * 2 ^ k) < 2 ^ (k0 + k) := Nat.lt_of_lt_of_le (isq_pow hC) (Nat.pow_le_pow_right (by decide) (by omega))
  have LE := Lib.hid (fun w' x (h : NV w' (.slice ad nd cd) md) (hx : x = (k : Int)) => left_any (.slice ad nd cd) md k k0 x w' h hx hdm (by omega) (by omega))
  have SQ := Lib.hid (fun va w' (h : NV w' va (md * 2 ^ k)) => nsqrt_any va _ (k0 + k) w' h hC (by omega))
  have TI := Lib.hid (fun va w' (h : NV w' va (isq (md * 2 ^ k))) => times_any va va _ _ (k0 + k) w' h h hI hI (by omega))
  have CM := Lib.hid (fun va vb w' (h : NV w' va (isq (md * 2 ^ k) * isq (md * 2 ^ k))) (h2 : NV w' vb (md * 2 ^ k)) => compare_any va vb _ _ w' h h2)
  have ST := Lib.hid (fun lost vq x w' (h : NV w' vq (isq (md * 2 ^ k))) => sticky_any false lost vq _ (k0 + k) x w' h hI (by omega))
  generalize sgn2 ((isq (md * 2 ^ k) * isq (md * 2 ^ k) : Nat) : Int) ((md * 2 ^ k : Nat) : Int) = sg at *
  generalize isq (md * 2 ^ k) * isq (md * 2 ^ k) = sq at *
  generalize isq (md * 2 ^ k) = r at *
  generalize md * 2 ^ k = C at *
  obtain ⟨X, hX⟩ : ∃ X, X = (xd - k) / 2 := ⟨_, rfl⟩
  have bX : -400000 ≤ X ∧ X ≤ 400000 := by omega
  obtain ⟨bX0, bX1⟩ := bX
  obtain ⟨Mq, hMq⟩ : ∃ Mq, Mq = 4 * r + (if (sg != 0) = true then 1 else 0) := ⟨_, rfl⟩
  have EM : Hid (4 * r + (if (sg != 0) = true then 1 else 0) = Mq ∧ True) := Lib.hid ⟨hMq.symm, trivial⟩
  rw [EM.out.1, ← hX]
  rw [← hX] at hk2
  have SX := Lib.hid (fun vq w' (h : NV w' vq r) => ST.out (sg != 0) vq X w' h (by omega) (by omega))
  rw [EM.out.1] at SX
  have HSD := Lib.hid hsd
  clear ER EM ST hMq hX hI hC hsd hdm hk
  rcases hk2 with ⟨rfl, m1, m2⟩ | ⟨rfl, m1, m2⟩
  all_goals
    go_enter Tryd.func67, Tryd.ntmps67
    go_wp2_with fail
    refine (LE.out _ _ ((HSD.out.alloc _).alloc _) (by first | rfl | omega)).mono ?_
    rintro e w1 ⟨v1, rfl, hv1, hb1⟩
    have D1 := Lib.hid (((Box.new w (.bool gd) (.slice ad nd cd) (.int .i64 xd) 52).alloc (.cells #[.bool false, .slice none 0 0, .int .i64 0] 52)).below hb1)
    have R1 := Lib.hid ((Box.new2 w (.cells #[.bool gd, .slice ad nd cd, .int .i64 xd] 52) (.bool false) (.slice none 0 0) (.int .i64 0) 52).below hb1)
    have B1 := Lib.hid (bl_thru (bl_alloc2 w (.cells #[.bool gd, .slice ad nd cd, .int .i64 xd] 52) (.cells #[.bool false, .slice none 0 0, .int .i64 0] 52)) (Nat.le_refl _) hb1)
    have V1 := Lib.hid hv1
    clear hv1 hb1
    go_wp2_with fail
    refine (SQ.out _ _ V1.out).mono ?_
    rintro e w2 ⟨v2, rfl, hv2, hb2⟩
    have D2 := Lib.hid (D1.out.below hb2)
    have R2 := Lib.hid (R1.out.below hb2)
    have B2 := Lib.hid (bl_thru B1.out (Nat.le_refl _) hb2)
    have V2 := Lib.hid hv2
    have V1' := Lib.hid (V1.out.below hb2)
    clear hv2 hb2
    go_wp2_with fail
    obtain ⟨p0, p1, p2, -, -, -⟩ := D2.out.drew.cells
    have HW1 := Lib.hid (IntWalk.i64_in (xd - 160) (by omega))
    have HW2 := Lib.hid (IntWalk.i64_in (xd - 161) (by omega))
    have HW3 := Lib.hid (IntWalk.i64_in X (by omega))
    have M2 := Lib.hid m2
    clear m1 m2
    go_region_held3 (fun w' => w'.cell? ⟨w.heap.size, 0, none⟩ = some (.bool gd) ∧ w'.cell? ⟨w.heap.size, 1, none⟩ = some (.slice ad nd cd) ∧ w'.cell? ⟨w.heap.size, 2, none⟩ = some (.int .i64 xd))
      (first
        | with_reducible exact ⟨p0, p1, p2⟩
        | (obtain ⟨p0, p1, p2, -, -, -⟩ := (D2.out.drew.below hb3).cells
           exact ⟨p0, p1, p2⟩)
        | (obtain ⟨p0, p1, p2, -, -, -⟩ := ((D2.out.drew.below HB3.out).drewN n4).cells
           exact ⟨p0, p1, p2⟩)
        | (obtain ⟨p0, p1, p2, -, -, -⟩ := (((D2.out.drew.below HB3.out).drewN n4).below hb5).cells
           exact ⟨p0, p1, p2⟩)
        | (obtain ⟨p0, p1, p2, -, -, -⟩ := (((D5.out.set (b' := w.heap.size + 1) (o := 0) (by omega) _).set (b' := w.heap.size + 1) (o := 1) (by omega) _).set (b' := w.heap.size + 1) (o := 2) (by omega) _).cells
           exact ⟨p0, p1, p2⟩)
        | (go_keep; done))
      (first
        | (go_at_call 99; refine (TI.out v2 _ V2.out.drew).mono ?_; rintro r w3 ⟨v3, rfl, hv3, hb3⟩; have HB3 := Lib.hid hb3; have HV3 := Lib.hid hv3; have B3 := Lib.hid (bl_thru B2.out.drew (Nat.le_refl _) hb3); have V1'' := Lib.hid (V1'.out.drew.below hb3); have V2'' := Lib.hid (V2.out.drew.below hb3))
        | (go_at_call 81; refine (CM.out v3 v1 _ HV3.out V1''.out).mono ?_; rintro r w4 ⟨rfl, n4, rfl⟩)
        | (go_at_call 105; (try rw [HW1.out]); (try rw [HW2.out]); (try rw [M2.out]); (try rw [HW3.out])
           refine (SX.out v2 _ (V2''.out.drewN n4)).mono ?_; rintro r w5 ⟨v5, rfl, ⟨s5, rfl, hv5⟩, hb5⟩; obtain ⟨a5, n5, c5, rfl⟩ := hv5.shape; have D5 := Lib.hid (((D2.out.drew.below HB3.out).drewN n4).below hb5); have X5 := Lib.hid (((R2.out.drew.below HB3.out).drewN n4).below hb5); obtain ⟨s0, s1, s2, t0, t1, t2⟩ := X5.out.cells; have HV5 := Lib.hid hv5; have B5 := Lib.hid (bl_thru (below_to_drewN B3.out) (Nat.le_refl _) hb5)))
    clear hv3 hb3 hv5 hb5
    have hB := B5.out.size
    go_wp2
    refine bodyPost_ret (v := .agg #[.bool false, .slice a5 n5 c5, .int .i64 (X - 2)]) (by simp [results, Tryd.results67, go_sem, s0, s1, s2]) rfl ?_
    exact ⟨_, rfl, ⟨_, rfl, HV5.out.setD X5.out⟩, bl_set3 B5.out (by omega) _ _ _⟩
end Go.Proofs.YthoejmhpgabgdaaDoor
