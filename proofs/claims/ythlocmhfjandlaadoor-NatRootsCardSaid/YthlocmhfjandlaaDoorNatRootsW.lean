/-
  THE WALK of the law NatRoots.
-/
import Derived.Test.YthlocmhfjandlaaDoorNatShiftsW
set_option linter.unusedVariables false
set_option linter.unusedSimpArgs false
namespace Go.Proofs.YthlocmhfjandlaaDoor
open Go.RowKit Nt Fm

theorem isq_sq (a : Nat) : isq (a * a) = a := isq_of (by unfold IsRoot; exact ⟨Nat.le_refl _, by rw [Nat.add_mul, Nat.mul_add]; omega⟩)
theorem isq_sq1 {a : Nat} (h : a ≠ 0) : isq (a * a + 1) = a := isq_of (by unfold IsRoot; exact ⟨by omega, by rw [Nat.add_mul, Nat.mul_add]; omega⟩)
theorem rt_sq (a : Nat) : rtL (a * a) = false := by
  unfold rtL; rw [isq_sq]
  have : sgn2 ((a * a : Nat) : Int) ((a * a : Nat) : Int) = 0 := by unfold sgn2; rw [if_neg (by omega), if_neg (by omega)]
  rw [this]; rfl
theorem rt_sq1 {a : Nat} (h : a ≠ 0) : rtL (a * a + 1) = true := by
  unfold rtL; rw [isq_sq1 h]
  have : sgn2 ((a * a : Nat) : Int) ((a * a + 1 : Nat) : Int) = -1 := by unfold sgn2; rw [if_pos (by omega)]
  rw [this]; rfl
set_option maxRecDepth 100000 in
set_option maxHeartbeats 16000000 in
theorem walkNatRoots (va : Value) (la : List Nat) (w : World) (hT : Tab10 w) (ha : Lim w va la) :
    Calls Tryd.prog 5 #[va] w fun e w' => e = .returned (.bool true) ∧ Below w.heap.size w w' := by
  have Va := Lib.hid (NA.ofLim ha)
  generalize checkN la = ca at *
  generalize val la = na at *
  obtain ⟨E, hE⟩ : ∃ E, E = e2 ca ca := ⟨_, rfl⟩
  obtain ⟨np, hnp⟩ : ∃ k, k = or0 E (na * na) := ⟨_, rfl⟩
  have K0 : Hid (∀ va w', NA w' va ca na → Calls Tryd.prog 17 #[va, va] w' (RetNE w' np E)) := Lib.hid (by intro va w' h; rw [hnp, hE]; exact nmul_any va va _ _ _ _ w' h h)
  obtain ⟨F, hF⟩ : ∃ F, F = ckN np := ⟨_, rfl⟩
  obtain ⟨nr, hnr⟩ : ∃ k, k = or0 F (isq np) := ⟨_, rfl⟩
  obtain ⟨lr, hlr⟩ : ∃ k, k = orF F (rtL np) := ⟨_, rfl⟩
  have K1 : Hid (∀ v w', NV w' v np → Calls Tryd.prog 20 #[v] w' (RetNBE w' nr lr F)) := Lib.hid (by intro v w' h; rw [hnr, hlr, hF]; exact nroot_any v _ _ w' (NA.ofNV h))
  have T1 := Lib.hid hT
  have B1 := Lib.hid (Below.refl w.heap.size w)
  cases hok : ok2 E F
  · clear hE hnp hF hnr hlr hT ha
    go_enter Tryd.func5, Tryd.ntmps5
    go_wp2_with (first
      | (go_at_call 17; (with_reducible refine (K0.out va _ Va.out).mono ?_); rintro e w1 ⟨vp, rfl, hnp, hb⟩; have Vp := Lib.hid hnp; clear hnp; (try replace Va := Lib.hid (Va.out.below hb)); replace T1 := Lib.hid (T1.out.below hb); replace B1 := Lib.hid (bl_thru B1.out (Nat.le_refl _) hb); clear hb)
      | (go_at_call 20; (with_reducible refine (K1.out vp _ Vp.out).mono ?_); rintro e w1 ⟨vr, rfl, hnr, hb⟩; have Vr := Lib.hid hnr; clear hnr; (try replace Va := Lib.hid (Va.out.below hb)); (try replace Vp := Lib.hid (Vp.out.below hb)); replace T1 := Lib.hid (T1.out.below hb); replace B1 := Lib.hid (bl_thru B1.out (Nat.le_refl _) hb); clear hb)
      | (go_at_call 14; refine (natLives_any _ T1.out).mono ?_; rintro e w1 ⟨rfl, hb⟩; (try replace Va := Lib.hid (Va.out.below hb)); (try replace Vp := Lib.hid (Vp.out.below hb)); (try replace Vr := Lib.hid (Vr.out.below hb)); replace T1 := Lib.hid (T1.out.below hb); replace B1 := Lib.hid (bl_thru B1.out (Nat.le_refl _) hb); clear hb)
      | (go_at_call 16; (with_reducible refine (okB2 _ _ _ _ rfl).mono ?_); rintro e w1 ⟨rfl, hb⟩; (try replace Va := Lib.hid (Va.out.below hb)); (try replace Vp := Lib.hid (Vp.out.below hb)); (try replace Vr := Lib.hid (Vr.out.below hb)); replace T1 := Lib.hid (T1.out.below hb); replace B1 := Lib.hid (bl_thru B1.out (Nat.le_refl _) hb); clear hb))
    go_ret
    exact ⟨rfl, B1.out⟩
  · obtain ⟨h1, h2⟩ := ok2_of hok
    have hca : ca = 0 := (e2_zero.1 (hE.symm.trans h1)).1
    subst hca
    have ep : np = na * na := by rw [hnp, h1, or0_zero]
    have er : nr = na := by rw [hnr, h2, or0_zero, ep, isq_sq]
    have el : lr = false := by rw [hlr, h2, orF_zero, ep, rt_sq]
    rw [h1] at K0
    rw [h2, el] at K1
    rw [h1, h2] at hok
    obtain ⟨hav, hab⟩ := Va.out.nv rfl
    obtain ⟨nm, hnm⟩ : ∃ k, k = np + 1 := ⟨_, rfl⟩
    have hc1 : ckN np = 0 := hF.symm.trans h2
    have K2 : Hid (∀ v w', NV w' v np → Calls Tryd.prog 13 #[v, .slice (some ⟨w'.heap.size, 0, none⟩) 1 1] (w'.alloc (.cells #[.int .u32 1] 28)) fun e w'' => ∃ u, e = .returned (.tuple #[u, .int .i64 0]) ∧ NV w'' u nm ∧ Below w'.heap.size w' w'') := Lib.hid (by
      intro v w' h
      have h3 := NA.of0 (nv_new1 w' 1 28 (by omega) (by omega)) (Nat.le_trans (blen_le_of (k := 1) (n := 1) (by decide)) (by omega))
      have h4 := nadd_any v _ (ckN np) 0 np 1 _ (NA.ofNV (h.alloc (.cells #[.int .u32 ((1 : Nat) : Int)] 28))) h3
      rw [hc1, show e2 0 0 = 0 from rfl, or0_zero, ← hnm] at h4
      exact h4.mono fun e w'' ⟨u, e1, e2, e3⟩ => ⟨u, e1, e2, bl2 _ e3⟩)
    obtain ⟨H, hH⟩ : ∃ H, H = ckN nm := ⟨_, rfl⟩
    obtain ⟨ns, hns⟩ : ∃ k, k = or0 H (isq nm) := ⟨_, rfl⟩
    obtain ⟨lo, hlo⟩ : ∃ k, k = orF H (rtL nm) := ⟨_, rfl⟩
    have K3 : Hid (∀ v w', NV w' v nm → Calls Tryd.prog 20 #[v] w' (RetNBE w' ns lo H)) := Lib.hid (by intro v w' h; rw [hns, hlo, hH]; exact nroot_any v _ _ w' (NA.ofNV h))
    obtain ⟨aa, ka, kc, hsh, hkc, hkm, hcase⟩ := nv_len hav
    subst hsh
    have VA := Lib.hid hav
    have HR : Hid (nr = na ∧ True) := Lib.hid ⟨er, trivial⟩
    by_cases hH0 : H = 0
    · rcases hcase with ⟨hz, rfl⟩ | ⟨hz, hk1⟩
      · have hlo1 : Hid (lo = lo ∧ True) := Lib.hid ⟨rfl, trivial⟩
        subst hH0
        clear hE hnp hF hnr hlr hT ha h1 h2 ep er el hav hab hnm hc1 hH hns hlo hz
        go_enter Tryd.func5, Tryd.ntmps5
        go_wp2_with (first
          | (go_at_call 17; (with_reducible refine (K0.out (.slice aa 0 kc) _ Va.out).mono ?_); rintro e w1 ⟨vp, rfl, hnp, hb⟩; have Vp := Lib.hid hnp; clear hnp; (try replace Va := Lib.hid (Va.out.below hb)); (try replace VA := Lib.hid (VA.out.below hb)); replace T1 := Lib.hid (T1.out.below hb); replace B1 := Lib.hid (bl_thru B1.out (Nat.le_refl _) hb); clear hb)
          | (go_at_call 20; (with_reducible refine (K1.out vp _ Vp.out).mono ?_); rintro e w1 ⟨vr, rfl, hnr, hb⟩; have Vr := Lib.hid hnr; clear hnr; (try replace Va := Lib.hid (Va.out.below hb)); (try replace VA := Lib.hid (VA.out.below hb)); (try replace Vp := Lib.hid (Vp.out.below hb)); replace T1 := Lib.hid (T1.out.below hb); replace B1 := Lib.hid (bl_thru B1.out (Nat.le_refl _) hb); clear hb)
          | (go_at_call 14; refine (natLives_any _ T1.out).mono ?_; rintro e w1 ⟨rfl, hb⟩; (try replace Va := Lib.hid (Va.out.below hb)); (try replace VA := Lib.hid (VA.out.below hb)); (try replace Vp := Lib.hid (Vp.out.below hb)); (try replace Vr := Lib.hid (Vr.out.below hb)); (try replace Vm := Lib.hid (Vm.out.below hb)); (try replace Vs := Lib.hid (Vs.out.below hb)); replace T1 := Lib.hid (T1.out.below hb); replace B1 := Lib.hid (bl_thru B1.out (Nat.le_refl _) hb); clear hb)
          | (go_at_call 16; (with_reducible refine (okB2 _ _ _ _ rfl).mono ?_); rintro e w1 ⟨rfl, hb⟩; (try replace Va := Lib.hid (Va.out.below hb)); (try replace VA := Lib.hid (VA.out.below hb)); (try replace Vp := Lib.hid (Vp.out.below hb)); (try replace Vr := Lib.hid (Vr.out.below hb)); (try replace Vm := Lib.hid (Vm.out.below hb)); (try replace Vs := Lib.hid (Vs.out.below hb)); replace T1 := Lib.hid (T1.out.below hb); replace B1 := Lib.hid (bl_thru B1.out (Nat.le_refl _) hb); clear hb)
          | (go_at_call 13; (with_reducible refine (K2.out vp _ Vp.out).mono ?_); rintro e w1 ⟨vm, rfl, hnm, hb⟩; have Vm := Lib.hid hnm; clear hnm; (try replace Va := Lib.hid (Va.out.below hb)); (try replace VA := Lib.hid (VA.out.below hb)); (try replace Vp := Lib.hid (Vp.out.below hb)); (try replace Vr := Lib.hid (Vr.out.below hb)); replace T1 := Lib.hid (T1.out.below hb); replace B1 := Lib.hid (bl_thru B1.out (Nat.le_refl _) hb); clear hb)
          | (go_at_call 20; (with_reducible refine (K3.out vm _ Vm.out).mono ?_); rintro e w1 ⟨vs, rfl, hns, hb⟩; have Vs := Lib.hid hns; clear hns; (try replace Va := Lib.hid (Va.out.below hb)); (try replace VA := Lib.hid (VA.out.below hb)); (try replace Vp := Lib.hid (Vp.out.below hb)); (try replace Vr := Lib.hid (Vr.out.below hb)); (try replace Vm := Lib.hid (Vm.out.below hb)); replace T1 := Lib.hid (T1.out.below hb); replace B1 := Lib.hid (bl_thru B1.out (Nat.le_refl _) hb); clear hb)
          | (go_at_call 15; (with_reducible refine (eqT vr (.slice aa 0 kc) _ _ _ HR.out.1 Vr.out VA.out).mono ?_); rintro e w1 ⟨rfl, hb⟩; (try replace Va := Lib.hid (Va.out.below hb)); (try replace VA := Lib.hid (VA.out.below hb)); (try replace Vp := Lib.hid (Vp.out.below hb)); (try replace Vr := Lib.hid (Vr.out.below hb)); (try replace Vm := Lib.hid (Vm.out.below hb)); (try replace Vs := Lib.hid (Vs.out.below hb)); replace T1 := Lib.hid (T1.out.below hb); replace B1 := Lib.hid (bl_thru B1.out (Nat.le_refl _) hb); clear hb)
          | (go_at_call 15; (with_reducible refine (eqT vs (.slice aa 0 kc) _ _ _ HS.out.1 Vs.out VA.out).mono ?_); rintro e w1 ⟨rfl, hb⟩; (try replace Va := Lib.hid (Va.out.below hb)); (try replace VA := Lib.hid (VA.out.below hb)); (try replace Vp := Lib.hid (Vp.out.below hb)); (try replace Vr := Lib.hid (Vr.out.below hb)); (try replace Vm := Lib.hid (Vm.out.below hb)); (try replace Vs := Lib.hid (Vs.out.below hb)); replace T1 := Lib.hid (T1.out.below hb); replace B1 := Lib.hid (bl_thru B1.out (Nat.le_refl _) hb); clear hb))
        all_goals
          go_ret
          exact ⟨rfl, B1.out⟩
      · have es : ns = na := by rw [hns, hH0, or0_zero, hnm, ep, isq_sq1 hz]
        have eo : lo = true := by rw [hlo, hH0, orF_zero, hnm, ep, rt_sq1 hz]
        have HS : Hid (ns = na ∧ True) := Lib.hid ⟨es, trivial⟩
        have hk2 : ((ka : Int) == 0) = false := by rw [beq_eq_false_iff_ne]; omega
        subst hH0
        rw [eo] at K3
        clear hE hnp hF hnr hlr hT ha h1 h2 ep er el hav hab hnm hc1 hH hns hlo hz es eo
        go_enter Tryd.func5, Tryd.ntmps5
        go_wp2_with (first
          | (go_at_call 17; (with_reducible refine (K0.out (.slice aa ka kc) _ Va.out).mono ?_); rintro e w1 ⟨vp, rfl, hnp, hb⟩; have Vp := Lib.hid hnp; clear hnp; (try replace Va := Lib.hid (Va.out.below hb)); (try replace VA := Lib.hid (VA.out.below hb)); replace T1 := Lib.hid (T1.out.below hb); replace B1 := Lib.hid (bl_thru B1.out (Nat.le_refl _) hb); clear hb)
          | (go_at_call 20; (with_reducible refine (K1.out vp _ Vp.out).mono ?_); rintro e w1 ⟨vr, rfl, hnr, hb⟩; have Vr := Lib.hid hnr; clear hnr; (try replace Va := Lib.hid (Va.out.below hb)); (try replace VA := Lib.hid (VA.out.below hb)); (try replace Vp := Lib.hid (Vp.out.below hb)); replace T1 := Lib.hid (T1.out.below hb); replace B1 := Lib.hid (bl_thru B1.out (Nat.le_refl _) hb); clear hb)
          | (go_at_call 14; refine (natLives_any _ T1.out).mono ?_; rintro e w1 ⟨rfl, hb⟩; (try replace Va := Lib.hid (Va.out.below hb)); (try replace VA := Lib.hid (VA.out.below hb)); (try replace Vp := Lib.hid (Vp.out.below hb)); (try replace Vr := Lib.hid (Vr.out.below hb)); (try replace Vm := Lib.hid (Vm.out.below hb)); (try replace Vs := Lib.hid (Vs.out.below hb)); replace T1 := Lib.hid (T1.out.below hb); replace B1 := Lib.hid (bl_thru B1.out (Nat.le_refl _) hb); clear hb)
          | (go_at_call 16; (with_reducible refine (okB2 _ _ _ _ rfl).mono ?_); rintro e w1 ⟨rfl, hb⟩; (try replace Va := Lib.hid (Va.out.below hb)); (try replace VA := Lib.hid (VA.out.below hb)); (try replace Vp := Lib.hid (Vp.out.below hb)); (try replace Vr := Lib.hid (Vr.out.below hb)); (try replace Vm := Lib.hid (Vm.out.below hb)); (try replace Vs := Lib.hid (Vs.out.below hb)); replace T1 := Lib.hid (T1.out.below hb); replace B1 := Lib.hid (bl_thru B1.out (Nat.le_refl _) hb); clear hb)
          | (go_at_call 13; (with_reducible refine (K2.out vp _ Vp.out).mono ?_); rintro e w1 ⟨vm, rfl, hnm, hb⟩; have Vm := Lib.hid hnm; clear hnm; (try replace Va := Lib.hid (Va.out.below hb)); (try replace VA := Lib.hid (VA.out.below hb)); (try replace Vp := Lib.hid (Vp.out.below hb)); (try replace Vr := Lib.hid (Vr.out.below hb)); replace T1 := Lib.hid (T1.out.below hb); replace B1 := Lib.hid (bl_thru B1.out (Nat.le_refl _) hb); clear hb)
          | (go_at_call 20; (with_reducible refine (K3.out vm _ Vm.out).mono ?_); rintro e w1 ⟨vs, rfl, hns, hb⟩; have Vs := Lib.hid hns; clear hns; (try replace Va := Lib.hid (Va.out.below hb)); (try replace VA := Lib.hid (VA.out.below hb)); (try replace Vp := Lib.hid (Vp.out.below hb)); (try replace Vr := Lib.hid (Vr.out.below hb)); (try replace Vm := Lib.hid (Vm.out.below hb)); replace T1 := Lib.hid (T1.out.below hb); replace B1 := Lib.hid (bl_thru B1.out (Nat.le_refl _) hb); clear hb)
          | (go_at_call 15; (with_reducible refine (eqT vr (.slice aa ka kc) _ _ _ HR.out.1 Vr.out VA.out).mono ?_); rintro e w1 ⟨rfl, hb⟩; (try replace Va := Lib.hid (Va.out.below hb)); (try replace VA := Lib.hid (VA.out.below hb)); (try replace Vp := Lib.hid (Vp.out.below hb)); (try replace Vr := Lib.hid (Vr.out.below hb)); (try replace Vm := Lib.hid (Vm.out.below hb)); (try replace Vs := Lib.hid (Vs.out.below hb)); replace T1 := Lib.hid (T1.out.below hb); replace B1 := Lib.hid (bl_thru B1.out (Nat.le_refl _) hb); clear hb)
          | (go_at_call 15; (with_reducible refine (eqT vs (.slice aa ka kc) _ _ _ HS.out.1 Vs.out VA.out).mono ?_); rintro e w1 ⟨rfl, hb⟩; (try replace Va := Lib.hid (Va.out.below hb)); (try replace VA := Lib.hid (VA.out.below hb)); (try replace Vp := Lib.hid (Vp.out.below hb)); (try replace Vr := Lib.hid (Vr.out.below hb)); (try replace Vm := Lib.hid (Vm.out.below hb)); (try replace Vs := Lib.hid (Vs.out.below hb)); replace T1 := Lib.hid (T1.out.below hb); replace B1 := Lib.hid (bl_thru B1.out (Nat.le_refl _) hb); clear hb))
        all_goals
          go_ret
          exact ⟨rfl, B1.out⟩
    · have hok2 : ok2 0 H = false := by unfold ok2; simp [hH0]
      clear hE hnp hF hnr hlr hT ha h1 h2 ep er el hav hab hnm hc1 hH hns hlo hH0
      go_enter Tryd.func5, Tryd.ntmps5
      go_wp2_with (first
        | (go_at_call 17; (with_reducible refine (K0.out (.slice aa ka kc) _ Va.out).mono ?_); rintro e w1 ⟨vp, rfl, hnp, hb⟩; have Vp := Lib.hid hnp; clear hnp; (try replace Va := Lib.hid (Va.out.below hb)); (try replace VA := Lib.hid (VA.out.below hb)); replace T1 := Lib.hid (T1.out.below hb); replace B1 := Lib.hid (bl_thru B1.out (Nat.le_refl _) hb); clear hb)
        | (go_at_call 20; (with_reducible refine (K1.out vp _ Vp.out).mono ?_); rintro e w1 ⟨vr, rfl, hnr, hb⟩; have Vr := Lib.hid hnr; clear hnr; (try replace Va := Lib.hid (Va.out.below hb)); (try replace VA := Lib.hid (VA.out.below hb)); (try replace Vp := Lib.hid (Vp.out.below hb)); replace T1 := Lib.hid (T1.out.below hb); replace B1 := Lib.hid (bl_thru B1.out (Nat.le_refl _) hb); clear hb)
        | (go_at_call 14; refine (natLives_any _ T1.out).mono ?_; rintro e w1 ⟨rfl, hb⟩; (try replace Va := Lib.hid (Va.out.below hb)); (try replace VA := Lib.hid (VA.out.below hb)); (try replace Vp := Lib.hid (Vp.out.below hb)); (try replace Vr := Lib.hid (Vr.out.below hb)); (try replace Vm := Lib.hid (Vm.out.below hb)); (try replace Vs := Lib.hid (Vs.out.below hb)); replace T1 := Lib.hid (T1.out.below hb); replace B1 := Lib.hid (bl_thru B1.out (Nat.le_refl _) hb); clear hb)
        | (go_at_call 16; (with_reducible refine (okB2 _ _ _ _ rfl).mono ?_); rintro e w1 ⟨rfl, hb⟩; (try replace Va := Lib.hid (Va.out.below hb)); (try replace VA := Lib.hid (VA.out.below hb)); (try replace Vp := Lib.hid (Vp.out.below hb)); (try replace Vr := Lib.hid (Vr.out.below hb)); (try replace Vm := Lib.hid (Vm.out.below hb)); (try replace Vs := Lib.hid (Vs.out.below hb)); replace T1 := Lib.hid (T1.out.below hb); replace B1 := Lib.hid (bl_thru B1.out (Nat.le_refl _) hb); clear hb)
        | (go_at_call 13; (with_reducible refine (K2.out vp _ Vp.out).mono ?_); rintro e w1 ⟨vm, rfl, hnm, hb⟩; have Vm := Lib.hid hnm; clear hnm; (try replace Va := Lib.hid (Va.out.below hb)); (try replace VA := Lib.hid (VA.out.below hb)); (try replace Vp := Lib.hid (Vp.out.below hb)); (try replace Vr := Lib.hid (Vr.out.below hb)); replace T1 := Lib.hid (T1.out.below hb); replace B1 := Lib.hid (bl_thru B1.out (Nat.le_refl _) hb); clear hb)
        | (go_at_call 20; (with_reducible refine (K3.out vm _ Vm.out).mono ?_); rintro e w1 ⟨vs, rfl, hns, hb⟩; have Vs := Lib.hid hns; clear hns; (try replace Va := Lib.hid (Va.out.below hb)); (try replace VA := Lib.hid (VA.out.below hb)); (try replace Vp := Lib.hid (Vp.out.below hb)); (try replace Vr := Lib.hid (Vr.out.below hb)); (try replace Vm := Lib.hid (Vm.out.below hb)); replace T1 := Lib.hid (T1.out.below hb); replace B1 := Lib.hid (bl_thru B1.out (Nat.le_refl _) hb); clear hb)
        | (go_at_call 15; (with_reducible refine (eqT vr (.slice aa ka kc) _ _ _ HR.out.1 Vr.out VA.out).mono ?_); rintro e w1 ⟨rfl, hb⟩; (try replace Va := Lib.hid (Va.out.below hb)); (try replace VA := Lib.hid (VA.out.below hb)); (try replace Vp := Lib.hid (Vp.out.below hb)); (try replace Vr := Lib.hid (Vr.out.below hb)); (try replace Vm := Lib.hid (Vm.out.below hb)); (try replace Vs := Lib.hid (Vs.out.below hb)); replace T1 := Lib.hid (T1.out.below hb); replace B1 := Lib.hid (bl_thru B1.out (Nat.le_refl _) hb); clear hb)
        | (go_at_call 15; (with_reducible refine (eqT vs (.slice aa ka kc) _ _ _ HS.out.1 Vs.out VA.out).mono ?_); rintro e w1 ⟨rfl, hb⟩; (try replace Va := Lib.hid (Va.out.below hb)); (try replace VA := Lib.hid (VA.out.below hb)); (try replace Vp := Lib.hid (Vp.out.below hb)); (try replace Vr := Lib.hid (Vr.out.below hb)); (try replace Vm := Lib.hid (Vm.out.below hb)); (try replace Vs := Lib.hid (Vs.out.below hb)); replace T1 := Lib.hid (T1.out.below hb); replace B1 := Lib.hid (bl_thru B1.out (Nat.le_refl _) hb); clear hb))
      all_goals
        go_ret
        exact ⟨rfl, B1.out⟩
end Go.Proofs.YthlocmhfjandlaaDoor
