/-
  THE WALK of the law NatShifts.
-/
import Derived.Test.YthlocmhfjandlaaDoorNatRingW
set_option linter.unusedVariables false
set_option linter.unusedSimpArgs false
namespace Go.Proofs.YthlocmhfjandlaaDoor
open Go.RowKit Nt Fm

theorem nv_nil0 {w : World} {v : Value} (h : NV w v 0) : ∃ (ao : Option Addr) (c : Nat), v = .slice ao 0 c := by
  obtain ⟨ao, n, c, rfl, -, -, h3⟩ := nv_len h
  rcases h3 with ⟨-, rfl⟩ | ⟨h4, -⟩
  · exact ⟨ao, c, rfl⟩
  · exact absurd rfl h4
theorem blen_shift {a n : Nat} (h : a ≠ 0) : blen (a * 2 ^ n) = blen a + n := by
  obtain ⟨k, hk⟩ : ∃ k, k = a.log2 := ⟨_, rfl⟩
  have h1 : 2 ^ k ≤ a := by rw [hk]; exact Nat.log2_self_le h
  have h2 : a < 2 ^ (k + 1) := by rw [hk]; exact Nat.lt_log2_self
  have e1 : blen a = k + 1 := blen_uniq h1 h2
  have e2 : blen (a * 2 ^ n) = (k + n) + 1 := by
    apply blen_uniq
    · rw [Nat.pow_add]; exact Nat.mul_le_mul_right _ h1
    · rw [show k + n + 1 = (k + 1) + n by omega, Nat.pow_add]; exact Nat.mul_lt_mul_of_pos_right h2 (Nat.two_pow_pos _)
  rw [e1, e2]; omega
theorem lost_up (a n : Nat) : lostB (a * 2 ^ n) n = false := by unfold lostB; simp
theorem sh_err {c n : Int} (h : shE c n ≠ 0) : (shE c n == 0) = false := by rw [beq_eq_false_iff_ne]; exact h
set_option maxRecDepth 100000 in
set_option maxHeartbeats 16000000 in
theorem walkNatShifts (va : Value) (la : List Nat) (n : Int) (n0 : -9223372036854775808 ≤ n) (n1 : n ≤ 9223372036854775807) (w : World) (hT : Tab10 w) (ha : Lim w va la) :
    Calls Tryd.prog 4 #[va, .int .i64 n] w fun e w' => e = .returned (.bool true) ∧ Below w.heap.size w w' := by
  have Va := Lib.hid (NA.ofLim ha)
  generalize checkN la = ca at *
  generalize val la = na at *
  obtain ⟨E, hE⟩ : ∃ E, E = shE ca n := ⟨_, rfl⟩
  obtain ⟨nx, hnx⟩ : ∃ k, k = or0 E (shN na n) := ⟨_, rfl⟩
  obtain ⟨lx, hlx⟩ : ∃ k, k = orF E (shL na n) := ⟨_, rfl⟩
  have K0 : Hid (∀ va w', NA w' va ca na → Calls Tryd.prog 18 #[va, .int .i64 n] w' (RetNBE w' nx lx E)) := Lib.hid (by intro va w' h; rw [hnx, hlx, hE]; exact nshift_any va _ _ n n0 n1 w' h)
  have T1 := Lib.hid hT
  have B1 := Lib.hid (Below.refl w.heap.size w)
  by_cases hE0 : E = 0
  · have hr : ca = 0 ∧ -20000 ≤ n ∧ n ≤ 20000 := by
      rw [hE] at hE0
      unfold shE at hE0
      split at hE0
      · split at hE0
        · omega
        · exact ⟨by assumption, by omega, by omega⟩
      · exact absurd hE0 (by assumption)
    obtain ⟨hca, r0, r1⟩ := hr
    by_cases hn : n < 0
    · rw [hE0] at K0
      clear hE hnx hlx hT ha hE0 n0 n1
      go_enter Tryd.func4, Tryd.ntmps4
      go_wp2_with (first
        | (go_at_call 18; (with_reducible refine (K0.out va _ Va.out).mono ?_); rintro e w1 ⟨vx, rfl, hnx, hb⟩; have Vx := Lib.hid hnx; clear hnx; (try replace Va := Lib.hid (Va.out.below hb)); replace T1 := Lib.hid (T1.out.below hb); replace B1 := Lib.hid (bl_thru B1.out (Nat.le_refl _) hb); clear hb)
        | (go_at_call 14; refine (natLives_any _ T1.out).mono ?_; rintro e w1 ⟨rfl, hb⟩; (try replace Va := Lib.hid (Va.out.below hb)); (try replace Vx := Lib.hid (Vx.out.below hb)); replace T1 := Lib.hid (T1.out.below hb); replace B1 := Lib.hid (bl_thru B1.out (Nat.le_refl _) hb); clear hb))
      go_ret
      exact ⟨rfl, B1.out⟩
    · obtain ⟨N, rfl⟩ : ∃ N : Nat, n = (N : Int) := ⟨n.toNat, by omega⟩
      have ex : nx = na * 2 ^ N := by rw [hnx, hE0, or0_zero]; unfold shN; rw [if_pos (by omega)]; simp
      have el : lx = false := by rw [hlx, hE0, orF_zero]; unfold shL; rw [if_pos (by omega)]
      rw [hE0, el] at K0
      subst hca
      obtain ⟨H, hH⟩ : ∃ H, H = ckN nx := ⟨_, rfl⟩
      obtain ⟨ny, hny⟩ : ∃ k, k = or0 H na := ⟨_, rfl⟩
      obtain ⟨F, hF⟩ : ∃ F, F = H := ⟨_, rfl⟩
      have K1 : Hid (∀ v w', NV w' v nx → Calls Tryd.prog 18 #[v, .int .i64 (-(N : Int))] w' (RetNBE w' ny false F)) := Lib.hid (by
        intro v w' h
        have h2 := nshift_any v (ckN nx) nx (-(N : Int)) (by omega) (by omega) w' (NA.ofNV h)
        have e1 : shE (ckN nx) (-(N : Int)) = H := by
          unfold shE
          rw [← hH]
          split
          · rw [if_neg (by omega)]; omega
          · rfl
        have e2 : shN nx (-(N : Int)) = na := by
          unfold shN
          split
          · obtain rfl : N = 0 := by omega
            rw [ex]; simp
          · rw [ex, show (- -(N : Int)).toNat = N by omega, Nat.mul_div_cancel _ (Nat.two_pow_pos _)]
        have e3 : shL nx (-(N : Int)) = false := by
          unfold shL
          split
          · rfl
          · rw [ex, show (- -(N : Int)).toNat = N by omega]; exact lost_up _ _
        rw [e1, e2, e3] at h2
        have e4 : orF H false = false := by unfold orF; split <;> rfl
        rw [e4, ← hny] at h2
        rw [hF]
        exact h2)
      obtain ⟨M, hM⟩ : ∃ M, M = or0 H (blen nx) := ⟨_, rfl⟩
      obtain ⟨K, hK⟩ : ∃ K, K = blen na := ⟨_, rfl⟩
      obtain ⟨hav, hab⟩ := Va.out.nv rfl
      have hK1 : K ≤ 12800 := by omega
      have K2 : Hid (∀ v w', NA w' v 0 na → Calls Tryd.prog 19 #[v] w' fun e w'' => e = .returned (.tuple #[.int .i64 (K : Nat), .int .i64 0]) ∧ Below w'.heap.size w' w'') := Lib.hid (by
        intro v w' h
        have h2 := nbits_any v 0 na w' h
        rw [or0_zero, ← hK] at h2
        exact h2.mono fun e w'' ⟨h3, h4⟩ => ⟨h3, by subst h4; exact Below.refl _ _⟩)
      have K3 : Hid (∀ v w', NV w' v nx → Calls Tryd.prog 19 #[v] w' fun e w'' => e = .returned (.tuple #[.int .i64 (M : Nat), .int .i64 H]) ∧ Below w'.heap.size w' w'') := Lib.hid (by
        intro v w' h
        have h2 := nbits_any v (ckN nx) nx w' (NA.ofNV h)
        rw [← hH, ← hM] at h2
        exact h2.mono fun e w'' ⟨h3, h4⟩ => ⟨h3, by subst h4; exact Below.refl _ _⟩)
      obtain ⟨I, hI⟩ : ∃ I, I = e2 H H := ⟨_, rfl⟩
      obtain ⟨nt, hnt⟩ : ∃ k, k = or0 I (nx + nx) := ⟨_, rfl⟩
      have K4 : Hid (∀ v w', NV w' v nx → Calls Tryd.prog 13 #[v, v] w' (RetNE w' nt I)) := Lib.hid (by
        intro v w' h
        have h2 := nadd_any v v _ _ nx nx w' (NA.ofNV h) (NA.ofNV h)
        rw [← hH, ← hI, ← hnt] at h2
        exact h2)
      obtain ⟨J, hJ⟩ : ∃ J, J = shE 0 ((N : Int) + 1) := ⟨_, rfl⟩
      obtain ⟨nz, hnz⟩ : ∃ k, k = or0 J (shN na ((N : Int) + 1)) := ⟨_, rfl⟩
      obtain ⟨lz, hlz⟩ : ∃ k, k = orF J (shL na ((N : Int) + 1)) := ⟨_, rfl⟩
      have K5 : Hid (∀ va w', NA w' va 0 na → Calls Tryd.prog 18 #[va, .int .i64 ((N : Int) + 1)] w' (RetNBE w' nz lz J)) := Lib.hid (by intro va w' h; rw [hnz, hlz, hJ]; exact nshift_any va _ _ _ (by omega) (by omega) w' h)
      have L5 : Hid (ok2 I J = true → nt = nz) := Lib.hid (by
        intro h
        obtain ⟨h1, h2⟩ := ok2_of h
        rw [hnt, hnz, h1, h2, or0_zero, or0_zero, ex]
        unfold shN
        rw [if_pos (by omega), show ((N : Int) + 1).toNat = N + 1 by omega, Nat.pow_succ, ← Nat.mul_assoc]
        omega)
      obtain ⟨aa, ka, kc, hsh, hkc, hkm, hcase⟩ := nv_len hav
      subst hsh
      have A1 := Lib.hid hav
      by_cases hH0 : H = 0
      · have e1 : ny = na := by rw [hny, hH0, or0_zero]
        have HY : Hid (ny = na ∧ True) := Lib.hid ⟨e1, trivial⟩
        have hF0 : F = 0 := hF.trans hH0
        subst hF0
        have hM2 : M = blen nx := by rw [hM, hH0, or0_zero]
        subst hH0
        have k2 := ok2_mk
        rcases hcase with ⟨hz, rfl⟩ | ⟨hz, hk1⟩
        · clear hE hnx hlx hT ha hE0 n0 n1 hn ex el hH hny hF hM hK hav hab hI hnt hJ hnz hlz hM2 e1 hz
          go_enter Tryd.func4, Tryd.ntmps4
          go_wp2_with (first
            | (go_at_call 18; (with_reducible refine (K0.out (.slice aa 0 kc) _ Va.out).mono ?_); rintro e w1 ⟨vx, rfl, hnx_, hb⟩; have Vx := Lib.hid hnx_; clear hnx_; (try replace Va := Lib.hid (Va.out.below hb)); (try replace A1 := Lib.hid (A1.out.below hb)); replace T1 := Lib.hid (T1.out.below hb); replace B1 := Lib.hid (bl_thru B1.out (Nat.le_refl _) hb); clear hb)
            | (go_at_call 14; refine (natLives_any _ T1.out).mono ?_; rintro e w1 ⟨rfl, hb⟩; (try replace Va := Lib.hid (Va.out.below hb)); (try replace A1 := Lib.hid (A1.out.below hb)); (try replace Vx := Lib.hid (Vx.out.below hb)); (try replace Vy := Lib.hid (Vy.out.below hb)); (try replace Vt := Lib.hid (Vt.out.below hb)); (try replace Vz := Lib.hid (Vz.out.below hb)); replace T1 := Lib.hid (T1.out.below hb); replace B1 := Lib.hid (bl_thru B1.out (Nat.le_refl _) hb); clear hb)
            | (go_at_call 18; (with_reducible refine (K1.out vx _ Vx.out).mono ?_); rintro e w1 ⟨vy, rfl, hny, hb⟩; have Vy := Lib.hid hny; clear hny; (try replace Va := Lib.hid (Va.out.below hb)); (try replace A1 := Lib.hid (A1.out.below hb)); (try replace Vx := Lib.hid (Vx.out.below hb)); replace T1 := Lib.hid (T1.out.below hb); replace B1 := Lib.hid (bl_thru B1.out (Nat.le_refl _) hb); clear hb)
            | (go_at_call 19; (with_reducible refine (K2.out (.slice aa 0 kc) _ Va.out).mono ?_); rintro e w1 ⟨rfl, hb⟩; (try replace Va := Lib.hid (Va.out.below hb)); (try replace A1 := Lib.hid (A1.out.below hb)); (try replace Vx := Lib.hid (Vx.out.below hb)); (try replace Vy := Lib.hid (Vy.out.below hb)); replace T1 := Lib.hid (T1.out.below hb); replace B1 := Lib.hid (bl_thru B1.out (Nat.le_refl _) hb); clear hb)
            | (go_at_call 19; (with_reducible refine (K3.out vx _ Vx.out).mono ?_); rintro e w1 ⟨rfl, hb⟩; (try replace Va := Lib.hid (Va.out.below hb)); (try replace A1 := Lib.hid (A1.out.below hb)); (try replace Vx := Lib.hid (Vx.out.below hb)); (try replace Vy := Lib.hid (Vy.out.below hb)); replace T1 := Lib.hid (T1.out.below hb); replace B1 := Lib.hid (bl_thru B1.out (Nat.le_refl _) hb); clear hb)
            | (go_at_call 15; (with_reducible refine (eqT vy (.slice aa 0 kc) _ _ _ HY.out.1 Vy.out A1.out).mono ?_); rintro e w1 ⟨rfl, hb⟩; (try replace Va := Lib.hid (Va.out.below hb)); (try replace A1 := Lib.hid (A1.out.below hb)); (try replace Vx := Lib.hid (Vx.out.below hb)); (try replace Vy := Lib.hid (Vy.out.below hb)); replace T1 := Lib.hid (T1.out.below hb); replace B1 := Lib.hid (bl_thru B1.out (Nat.le_refl _) hb); clear hb)
            | (go_at_call 16; (with_reducible refine (okB2 _ _ _ _ rfl).mono ?_); rintro e w1 ⟨rfl, hb⟩; (try replace Va := Lib.hid (Va.out.below hb)); (try replace A1 := Lib.hid (A1.out.below hb)); (try replace Vx := Lib.hid (Vx.out.below hb)); (try replace Vy := Lib.hid (Vy.out.below hb)); (try replace Vt := Lib.hid (Vt.out.below hb)); (try replace Vz := Lib.hid (Vz.out.below hb)); replace T1 := Lib.hid (T1.out.below hb); replace B1 := Lib.hid (bl_thru B1.out (Nat.le_refl _) hb); clear hb)
            | (go_at_call 13; (with_reducible refine (K4.out vx _ Vx.out).mono ?_); rintro e w1 ⟨vt, rfl, hnt, hb⟩; have Vt := Lib.hid hnt; clear hnt; (try replace Va := Lib.hid (Va.out.below hb)); (try replace A1 := Lib.hid (A1.out.below hb)); (try replace Vx := Lib.hid (Vx.out.below hb)); (try replace Vy := Lib.hid (Vy.out.below hb)); replace T1 := Lib.hid (T1.out.below hb); replace B1 := Lib.hid (bl_thru B1.out (Nat.le_refl _) hb); clear hb)
            | (go_at_call 18; (with_reducible refine (K5.out (.slice aa 0 kc) _ Va.out).mono ?_); rintro e w1 ⟨vz, rfl, hnz, hb⟩; have Vz := Lib.hid hnz; clear hnz; (try replace Va := Lib.hid (Va.out.below hb)); (try replace A1 := Lib.hid (A1.out.below hb)); (try replace Vx := Lib.hid (Vx.out.below hb)); (try replace Vy := Lib.hid (Vy.out.below hb)); (try replace Vt := Lib.hid (Vt.out.below hb)); replace T1 := Lib.hid (T1.out.below hb); replace B1 := Lib.hid (bl_thru B1.out (Nat.le_refl _) hb); clear hb)
            | (go_at_call 15; (with_reducible refine (eqT vt vz _ _ _ (L5.out ‹_›) Vt.out Vz.out).mono ?_); rintro e w1 ⟨rfl, hb⟩; (try replace Va := Lib.hid (Va.out.below hb)); (try replace A1 := Lib.hid (A1.out.below hb)); (try replace Vx := Lib.hid (Vx.out.below hb)); (try replace Vy := Lib.hid (Vy.out.below hb)); (try replace Vt := Lib.hid (Vt.out.below hb)); (try replace Vz := Lib.hid (Vz.out.below hb)); replace T1 := Lib.hid (T1.out.below hb); replace B1 := Lib.hid (bl_thru B1.out (Nat.le_refl _) hb); clear hb))
          all_goals
            go_ret
            exact ⟨rfl, B1.out⟩
        · have hMK : (M : Int) = (K : Int) + (N : Int) := by rw [hM2, ex, blen_shift hz, hK]; omega
          clear hE hnx hlx hT ha hE0 n0 n1 hn ex el hH hny hF hM hK hav hab hI hnt hJ hnz hlz hM2 e1 hz
          go_enter Tryd.func4, Tryd.ntmps4
          go_wp2_with (first
            | (go_at_call 18; (with_reducible refine (K0.out (.slice aa ka kc) _ Va.out).mono ?_); rintro e w1 ⟨vx, rfl, hnx_, hb⟩; have Vx := Lib.hid hnx_; clear hnx_; (try replace Va := Lib.hid (Va.out.below hb)); (try replace A1 := Lib.hid (A1.out.below hb)); replace T1 := Lib.hid (T1.out.below hb); replace B1 := Lib.hid (bl_thru B1.out (Nat.le_refl _) hb); clear hb)
            | (go_at_call 14; refine (natLives_any _ T1.out).mono ?_; rintro e w1 ⟨rfl, hb⟩; (try replace Va := Lib.hid (Va.out.below hb)); (try replace A1 := Lib.hid (A1.out.below hb)); (try replace Vx := Lib.hid (Vx.out.below hb)); (try replace Vy := Lib.hid (Vy.out.below hb)); (try replace Vt := Lib.hid (Vt.out.below hb)); (try replace Vz := Lib.hid (Vz.out.below hb)); replace T1 := Lib.hid (T1.out.below hb); replace B1 := Lib.hid (bl_thru B1.out (Nat.le_refl _) hb); clear hb)
            | (go_at_call 18; (with_reducible refine (K1.out vx _ Vx.out).mono ?_); rintro e w1 ⟨vy, rfl, hny, hb⟩; have Vy := Lib.hid hny; clear hny; (try replace Va := Lib.hid (Va.out.below hb)); (try replace A1 := Lib.hid (A1.out.below hb)); (try replace Vx := Lib.hid (Vx.out.below hb)); replace T1 := Lib.hid (T1.out.below hb); replace B1 := Lib.hid (bl_thru B1.out (Nat.le_refl _) hb); clear hb)
            | (go_at_call 19; (with_reducible refine (K2.out (.slice aa ka kc) _ Va.out).mono ?_); rintro e w1 ⟨rfl, hb⟩; (try replace Va := Lib.hid (Va.out.below hb)); (try replace A1 := Lib.hid (A1.out.below hb)); (try replace Vx := Lib.hid (Vx.out.below hb)); (try replace Vy := Lib.hid (Vy.out.below hb)); replace T1 := Lib.hid (T1.out.below hb); replace B1 := Lib.hid (bl_thru B1.out (Nat.le_refl _) hb); clear hb)
            | (go_at_call 19; (with_reducible refine (K3.out vx _ Vx.out).mono ?_); rintro e w1 ⟨rfl, hb⟩; (try replace Va := Lib.hid (Va.out.below hb)); (try replace A1 := Lib.hid (A1.out.below hb)); (try replace Vx := Lib.hid (Vx.out.below hb)); (try replace Vy := Lib.hid (Vy.out.below hb)); replace T1 := Lib.hid (T1.out.below hb); replace B1 := Lib.hid (bl_thru B1.out (Nat.le_refl _) hb); clear hb)
            | (go_at_call 15; (with_reducible refine (eqT vy (.slice aa ka kc) _ _ _ HY.out.1 Vy.out A1.out).mono ?_); rintro e w1 ⟨rfl, hb⟩; (try replace Va := Lib.hid (Va.out.below hb)); (try replace A1 := Lib.hid (A1.out.below hb)); (try replace Vx := Lib.hid (Vx.out.below hb)); (try replace Vy := Lib.hid (Vy.out.below hb)); replace T1 := Lib.hid (T1.out.below hb); replace B1 := Lib.hid (bl_thru B1.out (Nat.le_refl _) hb); clear hb)
            | (go_at_call 16; (with_reducible refine (okB2 _ _ _ _ rfl).mono ?_); rintro e w1 ⟨rfl, hb⟩; (try replace Va := Lib.hid (Va.out.below hb)); (try replace A1 := Lib.hid (A1.out.below hb)); (try replace Vx := Lib.hid (Vx.out.below hb)); (try replace Vy := Lib.hid (Vy.out.below hb)); (try replace Vt := Lib.hid (Vt.out.below hb)); (try replace Vz := Lib.hid (Vz.out.below hb)); replace T1 := Lib.hid (T1.out.below hb); replace B1 := Lib.hid (bl_thru B1.out (Nat.le_refl _) hb); clear hb)
            | (go_at_call 13; (with_reducible refine (K4.out vx _ Vx.out).mono ?_); rintro e w1 ⟨vt, rfl, hnt, hb⟩; have Vt := Lib.hid hnt; clear hnt; (try replace Va := Lib.hid (Va.out.below hb)); (try replace A1 := Lib.hid (A1.out.below hb)); (try replace Vx := Lib.hid (Vx.out.below hb)); (try replace Vy := Lib.hid (Vy.out.below hb)); replace T1 := Lib.hid (T1.out.below hb); replace B1 := Lib.hid (bl_thru B1.out (Nat.le_refl _) hb); clear hb)
            | (go_at_call 18; (with_reducible refine (K5.out (.slice aa ka kc) _ Va.out).mono ?_); rintro e w1 ⟨vz, rfl, hnz, hb⟩; have Vz := Lib.hid hnz; clear hnz; (try replace Va := Lib.hid (Va.out.below hb)); (try replace A1 := Lib.hid (A1.out.below hb)); (try replace Vx := Lib.hid (Vx.out.below hb)); (try replace Vy := Lib.hid (Vy.out.below hb)); (try replace Vt := Lib.hid (Vt.out.below hb)); replace T1 := Lib.hid (T1.out.below hb); replace B1 := Lib.hid (bl_thru B1.out (Nat.le_refl _) hb); clear hb)
            | (go_at_call 15; (with_reducible refine (eqT vt vz _ _ _ (L5.out ‹_›) Vt.out Vz.out).mono ?_); rintro e w1 ⟨rfl, hb⟩; (try replace Va := Lib.hid (Va.out.below hb)); (try replace A1 := Lib.hid (A1.out.below hb)); (try replace Vx := Lib.hid (Vx.out.below hb)); (try replace Vy := Lib.hid (Vy.out.below hb)); (try replace Vt := Lib.hid (Vt.out.below hb)); (try replace Vz := Lib.hid (Vz.out.below hb)); replace T1 := Lib.hid (T1.out.below hb); replace B1 := Lib.hid (bl_thru B1.out (Nat.le_refl _) hb); clear hb))
          all_goals
            go_ret
            exact ⟨rfl, B1.out⟩
      · have hF1 : (F == 0) = false := by rw [beq_eq_false_iff_ne, hF]; exact hH0
        have hok : ok2 0 H = false := by unfold ok2; simp [hH0]
        have hok2 : ok2 I J = false := by
          cases h : ok2 I J
          · rfl
          · have := (ok2_of h).1
            rw [hI] at this
            exact absurd (e2_zero.1 this).1 hH0
        clear hE hnx hlx hT ha hE0 n0 n1 hn ex el hH hny hF hM hK hav hab hI hnt hJ hnz hlz hH0
        go_enter Tryd.func4, Tryd.ntmps4
        go_wp2_with (first
          | (go_at_call 18; (with_reducible refine (K0.out (.slice aa ka kc) _ Va.out).mono ?_); rintro e w1 ⟨vx, rfl, hnx_, hb⟩; have Vx := Lib.hid hnx_; clear hnx_; (try replace Va := Lib.hid (Va.out.below hb)); (try replace A1 := Lib.hid (A1.out.below hb)); replace T1 := Lib.hid (T1.out.below hb); replace B1 := Lib.hid (bl_thru B1.out (Nat.le_refl _) hb); clear hb)
          | (go_at_call 14; refine (natLives_any _ T1.out).mono ?_; rintro e w1 ⟨rfl, hb⟩; (try replace Va := Lib.hid (Va.out.below hb)); (try replace A1 := Lib.hid (A1.out.below hb)); (try replace Vx := Lib.hid (Vx.out.below hb)); (try replace Vy := Lib.hid (Vy.out.below hb)); (try replace Vt := Lib.hid (Vt.out.below hb)); (try replace Vz := Lib.hid (Vz.out.below hb)); replace T1 := Lib.hid (T1.out.below hb); replace B1 := Lib.hid (bl_thru B1.out (Nat.le_refl _) hb); clear hb)
          | (go_at_call 18; (with_reducible refine (K1.out vx _ Vx.out).mono ?_); rintro e w1 ⟨vy, rfl, hny, hb⟩; have Vy := Lib.hid hny; clear hny; (try replace Va := Lib.hid (Va.out.below hb)); (try replace A1 := Lib.hid (A1.out.below hb)); (try replace Vx := Lib.hid (Vx.out.below hb)); replace T1 := Lib.hid (T1.out.below hb); replace B1 := Lib.hid (bl_thru B1.out (Nat.le_refl _) hb); clear hb)
          | (go_at_call 19; (with_reducible refine (K2.out (.slice aa ka kc) _ Va.out).mono ?_); rintro e w1 ⟨rfl, hb⟩; (try replace Va := Lib.hid (Va.out.below hb)); (try replace A1 := Lib.hid (A1.out.below hb)); (try replace Vx := Lib.hid (Vx.out.below hb)); (try replace Vy := Lib.hid (Vy.out.below hb)); replace T1 := Lib.hid (T1.out.below hb); replace B1 := Lib.hid (bl_thru B1.out (Nat.le_refl _) hb); clear hb)
          | (go_at_call 19; (with_reducible refine (K3.out vx _ Vx.out).mono ?_); rintro e w1 ⟨rfl, hb⟩; (try replace Va := Lib.hid (Va.out.below hb)); (try replace A1 := Lib.hid (A1.out.below hb)); (try replace Vx := Lib.hid (Vx.out.below hb)); (try replace Vy := Lib.hid (Vy.out.below hb)); replace T1 := Lib.hid (T1.out.below hb); replace B1 := Lib.hid (bl_thru B1.out (Nat.le_refl _) hb); clear hb)
          | (go_at_call 15; (with_reducible refine (eqT vy (.slice aa ka kc) _ _ _ HY.out.1 Vy.out A1.out).mono ?_); rintro e w1 ⟨rfl, hb⟩; (try replace Va := Lib.hid (Va.out.below hb)); (try replace A1 := Lib.hid (A1.out.below hb)); (try replace Vx := Lib.hid (Vx.out.below hb)); (try replace Vy := Lib.hid (Vy.out.below hb)); replace T1 := Lib.hid (T1.out.below hb); replace B1 := Lib.hid (bl_thru B1.out (Nat.le_refl _) hb); clear hb)
          | (go_at_call 16; (with_reducible refine (okB2 _ _ _ _ rfl).mono ?_); rintro e w1 ⟨rfl, hb⟩; (try replace Va := Lib.hid (Va.out.below hb)); (try replace A1 := Lib.hid (A1.out.below hb)); (try replace Vx := Lib.hid (Vx.out.below hb)); (try replace Vy := Lib.hid (Vy.out.below hb)); (try replace Vt := Lib.hid (Vt.out.below hb)); (try replace Vz := Lib.hid (Vz.out.below hb)); replace T1 := Lib.hid (T1.out.below hb); replace B1 := Lib.hid (bl_thru B1.out (Nat.le_refl _) hb); clear hb)
          | (go_at_call 13; (with_reducible refine (K4.out vx _ Vx.out).mono ?_); rintro e w1 ⟨vt, rfl, hnt, hb⟩; have Vt := Lib.hid hnt; clear hnt; (try replace Va := Lib.hid (Va.out.below hb)); (try replace A1 := Lib.hid (A1.out.below hb)); (try replace Vx := Lib.hid (Vx.out.below hb)); (try replace Vy := Lib.hid (Vy.out.below hb)); replace T1 := Lib.hid (T1.out.below hb); replace B1 := Lib.hid (bl_thru B1.out (Nat.le_refl _) hb); clear hb)
          | (go_at_call 18; (with_reducible refine (K5.out (.slice aa ka kc) _ Va.out).mono ?_); rintro e w1 ⟨vz, rfl, hnz, hb⟩; have Vz := Lib.hid hnz; clear hnz; (try replace Va := Lib.hid (Va.out.below hb)); (try replace A1 := Lib.hid (A1.out.below hb)); (try replace Vx := Lib.hid (Vx.out.below hb)); (try replace Vy := Lib.hid (Vy.out.below hb)); (try replace Vt := Lib.hid (Vt.out.below hb)); replace T1 := Lib.hid (T1.out.below hb); replace B1 := Lib.hid (bl_thru B1.out (Nat.le_refl _) hb); clear hb)
          | (go_at_call 15; (with_reducible refine (eqT vt vz _ _ _ (L5.out ‹_›) Vt.out Vz.out).mono ?_); rintro e w1 ⟨rfl, hb⟩; (try replace Va := Lib.hid (Va.out.below hb)); (try replace A1 := Lib.hid (A1.out.below hb)); (try replace Vx := Lib.hid (Vx.out.below hb)); (try replace Vy := Lib.hid (Vy.out.below hb)); (try replace Vt := Lib.hid (Vt.out.below hb)); (try replace Vz := Lib.hid (Vz.out.below hb)); replace T1 := Lib.hid (T1.out.below hb); replace B1 := Lib.hid (bl_thru B1.out (Nat.le_refl _) hb); clear hb))
        all_goals
          go_ret
          exact ⟨rfl, B1.out⟩
  · have ex : nx = 0 := by rw [hnx, or0_ne hE0]
    have hE1 : (E == 0) = false := by rw [beq_eq_false_iff_ne]; exact hE0
    have hE2 := ne_zero_b hE0
    subst ex
    clear hE hnx hlx hT ha hE0
    go_enter Tryd.func4, Tryd.ntmps4
    go_wp2_with (first
      | (go_at_call 18; (with_reducible refine (K0.out va _ Va.out).mono ?_); rintro e w1 ⟨vx, rfl, hnx, hb⟩; have Vx := Lib.hid hnx; clear hnx; obtain ⟨ax, cx, rfl⟩ := nv_nil0 Vx.out; (try replace Va := Lib.hid (Va.out.below hb)); replace T1 := Lib.hid (T1.out.below hb); replace B1 := Lib.hid (bl_thru B1.out (Nat.le_refl _) hb); clear hb)
      | (go_at_call 14; refine (natLives_any _ T1.out).mono ?_; rintro e w1 ⟨rfl, hb⟩; (try replace Va := Lib.hid (Va.out.below hb)); (try replace Vx := Lib.hid (Vx.out.below hb)); replace T1 := Lib.hid (T1.out.below hb); replace B1 := Lib.hid (bl_thru B1.out (Nat.le_refl _) hb); clear hb))
    go_ret
    exact ⟨rfl, B1.out⟩
end Go.Proofs.YthlocmhfjandlaaDoor
