/-
  THE WALK of dyad.Make.
-/
import Derived.Test.YtmpdbmaokbhcjaaDoorBw
set_option linter.unusedVariables false
set_option linter.unusedSimpArgs false
namespace Go.Proofs.YtmpdbmaokbhcjaaDoor
open Go.RowKit Nt Fm

def mkE (g : Bool) (l : List Nat) (x : Int) : Int := if checkN l = 0 then (if x < -10000 ∨ 10000 < x then 1 else fitE (norm g (val l) x)) else checkN l
def mkR (g : Bool) (l : List Nat) (x : Int) : D := if mkE g l x = 0 then norm g (val l) x else nz
theorem mkR_fit (g : Bool) (l : List Nat) (x : Int) : Fit (mkR g l x) := by
  unfold mkR
  split
  · rename_i h
    unfold mkE at h
    split at h
    · split at h
      · omega
      · exact fitE_fit (norm_nf _ _ _) h
    · contradiction
  · exact Fit.nz
set_option maxHeartbeats 4000000 in
theorem make_any (g : Bool) (v : Value) (l : List Nat) (x : Int) (w : World) (hT : Tab w) (hv : Lim w v l) (x0 : -9223372036854775808 ≤ x) (x1 : x ≤ 9223372036854775807) :
    Calls Tryd.prog 11 #[.bool g, v, .int .i64 x] w (RetR w (mkE g l x) (mkR g l x)) := by
  have hck := fun w' (h : Below w.heap.size w w') => natCheck_any v l w' (hv.below h)
  have hv' := hv
  obtain ⟨hl, ao, cap, rfl, h1, h2, h3⟩ := hv
  clear h3
  have CK := Lib.hid hck
  have HT := Lib.hid hT
  clear hck hT h2
  by_cases hc : checkN l = 0
  · rw [hc] at CK
    obtain ⟨hn, hlen⟩ := checkN_nrm hc hl
    by_cases hx : x < -10000 ∨ 10000 < x
    · have e : mkE g l x = 1 := by unfold mkE; rw [if_pos hc, if_pos hx]
      have e2 : mkR g l x = nz := by unfold mkR; rw [e]; rfl
      rw [e, e2]
      clear e e2 hc hv'
      rcases Int.lt_or_le x (-10000) with h | h
      all_goals
        first
          | have h2 : 10000 < x := by omega
          | skip
        clear hx
        go_enter Tryd.func11, Tryd.ntmps11
        go_wp2_with fail
        refine (CK.out _ ((Below.refl _ _).alloc (Nat.le_refl _) _)).mono ?_
        rintro r w1 ⟨rfl, rfl⟩
        go_wp2
        refine bodyPost_ret (v := .tuple #[.agg #[.bool false, .slice none 0 0, .int .i64 0], .int .i64 1]) (by simp [results, Tryd.results11, go_sem]) rfl ?_
        exact ⟨none, 0, 0, rfl, NV.nil _, by go_grown⟩
    · have e : mkE g l x = fitE (norm g (val l) x) := by unfold mkE; rw [if_pos hc, if_neg hx]
      have e2 : mkR g l x = if fitE (norm g (val l) x) = 0 then norm g (val l) x else nz := by unfold mkR; rw [e]
      rw [e, e2]
      obtain ⟨k, hk, hm⟩ : ∃ k, k ≤ 20000 ∧ val l < 2 ^ k := ⟨32 * l.length, by omega, val_lt hl⟩
      have hbd := fun v w' hh => bounded_any v (norm g (val l) x) w' hh
      have hop := fun w' h0 hh => dnorm_any g (.slice ao l.length cap) (val l) k x w' h0 hh hm (by omega) (by omega) (by omega)
      have hnv := hv'.nrm hn
      generalize norm g (val l) x = S at *
      generalize hR : (if fitE S = 0 then S else nz) = R at *
      generalize fitE S = E at *
      have y0 : -10000 ≤ x := by omega
      have y1 : x ≤ 10000 := by omega
      have HV := Lib.hid hnv
      have HOP := Lib.hid hop
      have HBD := Lib.hid hbd
      clear hop hbd hnv hv' hm e e2 hR hx hc
      go_enter Tryd.func11, Tryd.ntmps11
      go_wp2_with fail
      refine (CK.out _ ((Below.refl _ _).alloc (Nat.le_refl _) _)).mono ?_
      rintro r w1 ⟨rfl, rfl⟩
      go_wp2_with fail
      refine (HOP.out _ (HT.out.alloc _) (HV.out.alloc _)).mono ?_
      rintro r w2 ⟨v2, rfl, hv, hb⟩
      have B2 := Lib.hid (bl_thru ((Below.refl w.heap.size w).alloc (Nat.le_refl _) _) (Nat.le_refl _) hb)
      have Z2 := Lib.hid ((Box.new w _ _ _ _).below hb)
      have HV2 := Lib.hid hv
      clear hv hb
      go_wp2_with fail
      refine (HBD.out _ _ HV2.out).mono ?_
      rintro r w3 ⟨a3, n3, c3, rfl, hv, hb⟩
      have B3 := Lib.hid (bl_thru B2.out (Nat.le_refl _) hb)
      have Z3 := Lib.hid (Z2.out.below hb)
      have HV3 := Lib.hid hv
      obtain ⟨s0, s1, s2, t0, t1, t2⟩ := Z3.out.cells
      clear hv hb
      go_wp2
      refine bodyPost_ret (v := .tuple #[.agg #[.bool R.neg, .slice a3 n3 c3, .int .i64 R.e], .int .i64 E]) (by simp [results, Tryd.results11, go_sem, s0, s1, s2]) rfl ?_
      exact ⟨a3, n3, c3, rfl, HV3.out.setD Z3.out, bl_set3 B3.out (Nat.le_refl _) _ _ _⟩
  · have e : mkE g l x = checkN l := by unfold mkE; rw [if_neg hc]
    have e2 : mkR g l x = nz := by unfold mkR; rw [e, if_neg hc]
    rw [e, e2]
    generalize checkN l = E at *
    have hE : (E != 0) = true := by rw [bne_iff_ne]; exact hc
    clear e e2 hc hv'
    go_enter Tryd.func11, Tryd.ntmps11
    go_wp2_with fail
    refine (CK.out _ ((Below.refl _ _).alloc (Nat.le_refl _) _)).mono ?_
    rintro r w1 ⟨rfl, rfl⟩
    go_wp2
    refine bodyPost_ret (v := .tuple #[.agg #[.bool false, .slice none 0 0, .int .i64 0], .int .i64 E]) (by simp [results, Tryd.results11, go_sem]) rfl ?_
    exact ⟨none, 0, 0, rfl, NV.nil _, by go_grown⟩
end Go.Proofs.YtmpdbmaokbhcjaaDoor
