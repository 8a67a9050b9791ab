/-
  THE WALK of the law NatDivides.
-/
import Derived.Test.YthlocmhfjandlaaDoorNatShiftsW
set_option linter.unusedVariables false
set_option linter.unusedSimpArgs false
namespace Go.Proofs.YthlocmhfjandlaaDoor
open Go.RowKit Nt Fm

set_option maxRecDepth 100000 in
set_option maxHeartbeats 16000000 in
theorem walkNatDivides (va : Value) (la : List Nat) (vb : Value) (lb : List Nat) (w : World) (hT : Tab10 w) (ha : Lim w va la) (hb : Lim w vb lb) :
    Calls Tryd.prog 6 #[va, vb] w fun e w' => e = .returned (.bool true) ∧ Below w.heap.size w w' := by
  have Va := Lib.hid (NA.ofLim ha)
  have Vb := Lib.hid (NA.ofLim hb)
  generalize checkN la = ca at *
  generalize val la = na at *
  generalize checkN lb = cb at *
  generalize val lb = nb at *
  obtain ⟨E, hE⟩ : ∃ E, E = divE ca cb nb := ⟨_, rfl⟩
  obtain ⟨nq, hnq⟩ : ∃ k, k = or0 E (na / nb) := ⟨_, rfl⟩
  obtain ⟨nr, hnr⟩ : ∃ k, k = or0 E (na % nb) := ⟨_, rfl⟩
  have K0 : Hid (∀ va vb w', NA w' va ca na → NA w' vb cb nb → Calls Tryd.prog 21 #[va, vb] w' (RetNNE w' nq nr E)) := Lib.hid (by intro va vb w' h h2; rw [hnq, hnr, hE]; exact ndiv_any va vb _ _ _ _ w' h h2)
  have T1 := Lib.hid hT
  have B1 := Lib.hid (Below.refl w.heap.size w)
  by_cases hE0 : E = 0
  · have hr : e2 ca cb = 0 ∧ nb ≠ 0 := by
      rw [hE] at hE0
      unfold divE at hE0
      split at hE0
      · split at hE0
        · omega
        · exact ⟨by assumption, by assumption⟩
      · exact absurd hE0 (by assumption)
    obtain ⟨hcc, hnb⟩ := hr
    obtain ⟨hca, hcb⟩ := e2_zero.1 hcc
    have eq1 : nq = na / nb := by rw [hnq, hE0, or0_zero]
    have er1 : nr = na % nb := by rw [hnr, hE0, or0_zero]
    rw [hE0] at K0
    subst hca hcb
    obtain ⟨hav, hab⟩ := Va.out.nv rfl
    obtain ⟨hbv, hbb⟩ := Vb.out.nv rfl
    have hrb : nr < nb := by rw [er1]; exact Nat.mod_lt _ (by omega)
    have hcr : ckN nr = 0 := ckN_zero.2 (Nat.le_trans (blen_le_of (Nat.lt_trans hrb (lt_blen nb))) hbb)
    obtain ⟨F, hF⟩ : ∃ F, F = e2 (ckN nq) 0 := ⟨_, rfl⟩
    obtain ⟨np, hnp⟩ : ∃ k, k = or0 F (nq * nb) := ⟨_, rfl⟩
    have K1 : Hid (∀ v u w', NV w' v nq → NA w' u 0 nb → Calls Tryd.prog 17 #[v, u] w' (RetNE w' np F)) := Lib.hid (by intro v u w' h h2; rw [hnp, hF]; exact nmul_any v u _ _ _ _ w' (NA.ofNV h) h2)
    obtain ⟨G, hG⟩ : ∃ G, G = e2 (ckN np) (ckN nr) := ⟨_, rfl⟩
    obtain ⟨ns, hns⟩ : ∃ k, k = or0 G (np + nr) := ⟨_, rfl⟩
    have K2 : Hid (∀ v u w', NV w' v np → NV w' u nr → Calls Tryd.prog 13 #[v, u] w' (RetNE w' ns G)) := Lib.hid (by intro v u w' h h2; rw [hns, hG]; exact nadd_any v u _ _ _ _ w' (NA.ofNV h) (NA.ofNV h2))
    have K3 : Hid (∀ v u w', NV w' v nr → NA w' u 0 nb → Calls Tryd.prog 22 #[v, u] w' fun e w'' => e = .returned (.tuple #[.int .i64 (-1), .int .i64 0]) ∧ Below w'.heap.size w' w'') := Lib.hid (by
      intro v u w' h h2
      have h3 := ncmp_any v u (ckN nr) 0 nr nb w' (NA.ofNV h) h2
      rw [hcr] at h3
      rw [show e2 0 0 = 0 from rfl, if_pos rfl] at h3
      rw [show sgn2 (nr : Int) (nb : Int) = -1 by unfold sgn2; rw [if_pos (by omega)]] at h3
      exact h3)
    obtain ⟨I, hI⟩ : ∃ I, I = subE (ckN ns) (ckN nr) ns nr := ⟨_, rfl⟩
    obtain ⟨nd, hnd⟩ : ∃ k, k = or0 I (ns - nr) := ⟨_, rfl⟩
    have K4 : Hid (∀ v u w', NV w' v ns → NV w' u nr → Calls Tryd.prog 23 #[v, u] w' (RetNE w' nd I)) := Lib.hid (by intro v u w' h h2; rw [hnd, hI]; exact nsub_any v u _ _ _ _ w' (NA.ofNV h) (NA.ofNV h2))
    have L1 : Hid (ok2 F G = true → ns = na) := Lib.hid (by
      intro h
      obtain ⟨h1, h2⟩ := ok2_of h
      rw [hns, hnp, h1, h2, or0_zero, or0_zero, eq1, er1, Nat.mul_comm]
      exact Nat.div_add_mod na nb)
    have L2 : Hid (ok3 F G I = true → nd = np) := Lib.hid (by
      intro h
      obtain ⟨h1, h2, h3⟩ := ok3_of h
      rw [hnd, hns, h2, h3, or0_zero, or0_zero, Nat.add_sub_cancel])
    have VA := Lib.hid hav
    clear hE hnq hnr hT ha hb hE0 hcc hnb eq1 er1 hav hab hbv hbb hrb hcr hF hnp hG hns hI hnd
    go_enter Tryd.func6, Tryd.ntmps6
    go_wp2_with (first
      | (go_at_call 21; (with_reducible refine (K0.out va vb _ Va.out Vb.out).mono ?_); rintro e w1 ⟨vq, vr, rfl, hnq, hnr, hb⟩; have Vq := Lib.hid hnq; clear hnq; have Vr := Lib.hid hnr; clear hnr; (try replace Va := Lib.hid (Va.out.below hb)); (try replace Vb := Lib.hid (Vb.out.below hb)); (try replace VA := Lib.hid (VA.out.below hb)); replace T1 := Lib.hid (T1.out.below hb); replace B1 := Lib.hid (bl_thru B1.out (Nat.le_refl _) hb); clear hb)
      | (go_at_call 14; refine (natLives_any _ T1.out).mono ?_; rintro e w1 ⟨rfl, hb⟩; (try replace Va := Lib.hid (Va.out.below hb)); (try replace Vb := Lib.hid (Vb.out.below hb)); (try replace VA := Lib.hid (VA.out.below hb)); (try replace Vq := Lib.hid (Vq.out.below hb)); (try replace Vr := Lib.hid (Vr.out.below hb)); (try replace Vp := Lib.hid (Vp.out.below hb)); (try replace Vs := Lib.hid (Vs.out.below hb)); (try replace Vd := Lib.hid (Vd.out.below hb)); replace T1 := Lib.hid (T1.out.below hb); replace B1 := Lib.hid (bl_thru B1.out (Nat.le_refl _) hb); clear hb)
      | (go_at_call 17; (with_reducible refine (K1.out vq vb _ Vq.out Vb.out).mono ?_); rintro e w1 ⟨vp, rfl, hnp, hb⟩; have Vp := Lib.hid hnp; clear hnp; (try replace Va := Lib.hid (Va.out.below hb)); (try replace Vb := Lib.hid (Vb.out.below hb)); (try replace VA := Lib.hid (VA.out.below hb)); (try replace Vq := Lib.hid (Vq.out.below hb)); (try replace Vr := Lib.hid (Vr.out.below hb)); replace T1 := Lib.hid (T1.out.below hb); replace B1 := Lib.hid (bl_thru B1.out (Nat.le_refl _) hb); clear hb)
      | (go_at_call 13; (with_reducible refine (K2.out vp vr _ Vp.out Vr.out).mono ?_); rintro e w1 ⟨vs, rfl, hns, hb⟩; have Vs := Lib.hid hns; clear hns; (try replace Va := Lib.hid (Va.out.below hb)); (try replace Vb := Lib.hid (Vb.out.below hb)); (try replace VA := Lib.hid (VA.out.below hb)); (try replace Vq := Lib.hid (Vq.out.below hb)); (try replace Vr := Lib.hid (Vr.out.below hb)); (try replace Vp := Lib.hid (Vp.out.below hb)); replace T1 := Lib.hid (T1.out.below hb); replace B1 := Lib.hid (bl_thru B1.out (Nat.le_refl _) hb); clear hb)
      | (go_at_call 22; (with_reducible refine (K3.out vr vb _ Vr.out Vb.out).mono ?_); rintro e w1 ⟨rfl, hb⟩; (try replace Va := Lib.hid (Va.out.below hb)); (try replace Vb := Lib.hid (Vb.out.below hb)); (try replace VA := Lib.hid (VA.out.below hb)); (try replace Vq := Lib.hid (Vq.out.below hb)); (try replace Vr := Lib.hid (Vr.out.below hb)); (try replace Vp := Lib.hid (Vp.out.below hb)); (try replace Vs := Lib.hid (Vs.out.below hb)); replace T1 := Lib.hid (T1.out.below hb); replace B1 := Lib.hid (bl_thru B1.out (Nat.le_refl _) hb); clear hb)
      | (go_at_call 23; (with_reducible refine (K4.out vs vr _ Vs.out Vr.out).mono ?_); rintro e w1 ⟨vd, rfl, hnd, hb⟩; have Vd := Lib.hid hnd; clear hnd; (try replace Va := Lib.hid (Va.out.below hb)); (try replace Vb := Lib.hid (Vb.out.below hb)); (try replace VA := Lib.hid (VA.out.below hb)); (try replace Vq := Lib.hid (Vq.out.below hb)); (try replace Vr := Lib.hid (Vr.out.below hb)); (try replace Vp := Lib.hid (Vp.out.below hb)); (try replace Vs := Lib.hid (Vs.out.below hb)); replace T1 := Lib.hid (T1.out.below hb); replace B1 := Lib.hid (bl_thru B1.out (Nat.le_refl _) hb); clear hb)
      | (go_at_call 16; (with_reducible refine (okB2 _ _ _ _ rfl).mono ?_); rintro e w1 ⟨rfl, hb⟩; (try replace Va := Lib.hid (Va.out.below hb)); (try replace Vb := Lib.hid (Vb.out.below hb)); (try replace VA := Lib.hid (VA.out.below hb)); (try replace Vq := Lib.hid (Vq.out.below hb)); (try replace Vr := Lib.hid (Vr.out.below hb)); (try replace Vp := Lib.hid (Vp.out.below hb)); (try replace Vs := Lib.hid (Vs.out.below hb)); (try replace Vd := Lib.hid (Vd.out.below hb)); replace T1 := Lib.hid (T1.out.below hb); replace B1 := Lib.hid (bl_thru B1.out (Nat.le_refl _) hb); clear hb)
      | (go_at_call 16; (with_reducible refine (okB3 _ _ _ _ _ rfl).mono ?_); rintro e w1 ⟨rfl, hb⟩; (try replace Va := Lib.hid (Va.out.below hb)); (try replace Vb := Lib.hid (Vb.out.below hb)); (try replace VA := Lib.hid (VA.out.below hb)); (try replace Vq := Lib.hid (Vq.out.below hb)); (try replace Vr := Lib.hid (Vr.out.below hb)); (try replace Vp := Lib.hid (Vp.out.below hb)); (try replace Vs := Lib.hid (Vs.out.below hb)); (try replace Vd := Lib.hid (Vd.out.below hb)); replace T1 := Lib.hid (T1.out.below hb); replace B1 := Lib.hid (bl_thru B1.out (Nat.le_refl _) hb); clear hb)
      | (go_at_call 15; (with_reducible refine (eqT vs va _ _ _ (L1.out ‹_›) Vs.out VA.out).mono ?_); rintro e w1 ⟨rfl, hb⟩; (try replace Va := Lib.hid (Va.out.below hb)); (try replace Vb := Lib.hid (Vb.out.below hb)); (try replace VA := Lib.hid (VA.out.below hb)); (try replace Vq := Lib.hid (Vq.out.below hb)); (try replace Vr := Lib.hid (Vr.out.below hb)); (try replace Vp := Lib.hid (Vp.out.below hb)); (try replace Vs := Lib.hid (Vs.out.below hb)); (try replace Vd := Lib.hid (Vd.out.below hb)); replace T1 := Lib.hid (T1.out.below hb); replace B1 := Lib.hid (bl_thru B1.out (Nat.le_refl _) hb); clear hb)
      | (go_at_call 15; (with_reducible refine (eqT vd vp _ _ _ (L2.out ‹_›) Vd.out Vp.out).mono ?_); rintro e w1 ⟨rfl, hb⟩; (try replace Va := Lib.hid (Va.out.below hb)); (try replace Vb := Lib.hid (Vb.out.below hb)); (try replace VA := Lib.hid (VA.out.below hb)); (try replace Vq := Lib.hid (Vq.out.below hb)); (try replace Vr := Lib.hid (Vr.out.below hb)); (try replace Vp := Lib.hid (Vp.out.below hb)); (try replace Vs := Lib.hid (Vs.out.below hb)); (try replace Vd := Lib.hid (Vd.out.below hb)); replace T1 := Lib.hid (T1.out.below hb); replace B1 := Lib.hid (bl_thru B1.out (Nat.le_refl _) hb); clear hb))
    all_goals
      go_ret
      exact ⟨rfl, B1.out⟩
  · have ex : nq = 0 := by rw [hnq, or0_ne hE0]
    have ey : nr = 0 := by rw [hnr, or0_ne hE0]
    have hE1 : (E == 0) = false := by rw [beq_eq_false_iff_ne]; exact hE0
    have hE2 := ne_zero_b hE0
    subst ex ey
    clear hE hnq hnr hT ha hb hE0
    go_enter Tryd.func6, Tryd.ntmps6
    go_wp2_with (first
      | (go_at_call 21; (with_reducible refine (K0.out va vb _ Va.out Vb.out).mono ?_); rintro e w1 ⟨vq, vr, rfl, hnq, hnr, hb⟩; have Vq := Lib.hid hnq; clear hnq; have Vr := Lib.hid hnr; clear hnr; obtain ⟨ax, cx, rfl⟩ := nv_nil0 Vq.out; obtain ⟨ay, cy, rfl⟩ := nv_nil0 Vr.out; (try replace Va := Lib.hid (Va.out.below hb)); (try replace Vb := Lib.hid (Vb.out.below hb)); replace T1 := Lib.hid (T1.out.below hb); replace B1 := Lib.hid (bl_thru B1.out (Nat.le_refl _) hb); clear hb)
      | (go_at_call 14; refine (natLives_any _ T1.out).mono ?_; rintro e w1 ⟨rfl, hb⟩; (try replace Va := Lib.hid (Va.out.below hb)); (try replace Vb := Lib.hid (Vb.out.below hb)); (try replace Vq := Lib.hid (Vq.out.below hb)); (try replace Vr := Lib.hid (Vr.out.below hb)); replace T1 := Lib.hid (T1.out.below hb); replace B1 := Lib.hid (bl_thru B1.out (Nat.le_refl _) hb); clear hb))
    go_ret
    exact ⟨rfl, B1.out⟩
end Go.Proofs.YthlocmhfjandlaaDoor
