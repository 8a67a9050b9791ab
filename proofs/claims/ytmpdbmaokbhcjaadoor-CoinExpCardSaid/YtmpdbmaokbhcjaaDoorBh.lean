/-
  SOME OF MY TEXTS in one: Mu. Each says what it proves.
-/
import Derived.Test.YtmpdbmaokbhcjaaDoorBe
import Derived.Test.YtmpdbmaokbhcjaaDoorTzy
import Derived.Test.YtmpdbmaokbhcjaaDoorBa
set_option linter.unusedVariables false
set_option linter.unusedSimpArgs false
/-
  THE WALKS of round.Multiple, round.Cut.
-/
namespace Go.Proofs.YtmpdbmaokbhcjaaDoor
open Go.RowKit Nt Fm

def mulD (d : D) (pl mode : Int) : D := if pl ≤ d.e ∨ d.m = 0 then norm d.neg d.m d.e else norm d.neg (cutM d.neg d.m (pl - d.e) mode) pl
def mulC (d : D) (pl : Int) : Bool := if pl ≤ d.e ∨ d.m = 0 then false else cutC d.m (pl - d.e)
def RetDB (w : World) (R : D) (C : Bool) (r : Ending) (w' : World) : Prop := ∃ a n c, r = .returned (.tuple #[.agg #[.bool R.neg, .slice a n c, .int .i64 R.e], .bool C]) ∧ NV w' (.slice a n c) R.m ∧ Below w.heap.size w w'
theorem cutM_lt {neg : Bool} {m k0 : Nat} {k mode : Int} (hm : m < 2 ^ k0) (hk : 0 < k) : cutM neg m k mode < 2 ^ (k0 + 1) := by
  have h1 : m / 2 ^ k.toNat ≤ m := Nat.div_le_self _ _
  unfold cutM
  rw [if_neg (by omega), Nat.pow_succ]
  split
  · omega
  · split <;> omega

set_option maxRecDepth 100000 in
set_option maxHeartbeats 4000000 in
theorem multiple_any (v : Value) (d : D) (k0 : Nat) (pl mode : Int) (w : World) (hT : Tab w) (hd : DV w v d) (hm : d.m < 2 ^ k0) (hk0 : k0 ≤ 16000000000000) (e0 : -16000000000000 ≤ d.e) (e1 : d.e ≤ 16000000000000) (p0 : -16000000000000 ≤ pl) (p1 : pl ≤ 16000000000000) (m0 : 0 ≤ mode) (m1 : mode ≤ 4) :
    Calls Tryd.prog 81 #[v, .int .i64 pl, .int .i64 mode] w (RetDB w (mulD d pl mode) (mulC d pl)) := by
  obtain ⟨neg, m, e⟩ := d
  obtain ⟨s, rfl, hs⟩ := hd
  simp only at hm e0 e1 hs
  obtain ⟨ao, n, c, rfl, l1, l2, lz⟩ := nv_len hs
  have HT := Lib.hid hT
  have HS := Lib.hid hs
  have HM := Lib.hid hm
  clear hT hs
  by_cases hcase : pl ≤ e ∨ m = 0
  · have q : mulD ⟨neg, m, e⟩ pl mode = norm neg m e := by unfold mulD; rw [if_pos hcase]
    have q2 : mulC ⟨neg, m, e⟩ pl = false := by unfold mulC; rw [if_pos hcase]
    rw [q, q2]
    have hop := fun w' h0 hh => dnorm_any neg (.slice ao n c) m k0 e w' h0 hh hm (by omega) (by omega) (by omega)
    generalize norm neg m e = R at *
    have HOP := Lib.hid hop
    have hsplit : (pl ≤ e) ∨ (decide (pl ≤ e) = false ∧ ((n : Int) == 0) = true) := by
      by_cases h : pl ≤ e
      · exact Or.inl h
      · right; exact ⟨by rw [decide_eq_false_iff_not]; exact h, by rw [beq_iff_eq]; omega⟩
    clear q q2 hcase hm hop lz
    rcases hsplit with hp | ⟨hp, hn⟩
    all_goals
      go_enter Tryd.func81, Tryd.ntmps81
      go_wp2_with fail
      refine (HOP.out _ (HT.out.below (bl_alloc2 _ _ _)) (HS.out.below (bl_alloc2 _ _ _))).mono ?_
      rintro r w1 ⟨v1, rfl, ⟨s1, rfl, hv⟩, hb⟩
      obtain ⟨a1, n1, c1, rfl⟩ := hv.shape
      have B1 := Lib.hid (bl_thru (bl_alloc2 w _ _) (Nat.le_refl _) hb)
      have Z1 := Lib.hid ((Box.new2 w _ _ _ _ _).below hb)
      have HV := Lib.hid hv
      obtain ⟨s0, s1, s2, t0, t1, t2⟩ := Z1.out.cells
      clear hv hb
      go_wp2
      refine bodyPost_ret (v := .tuple #[.agg #[.bool R.neg, .slice a1 n1 c1, .int .i64 R.e], .bool false]) (by simp [results, Tryd.results81, go_sem, s0, s1, s2]) rfl ?_
      exact ⟨a1, n1, c1, rfl, HV.out.setD Z1.out, bl_set3 B1.out (by omega) _ _ _⟩
  · have q : mulD ⟨neg, m, e⟩ pl mode = norm neg (cutM neg m (pl - e) mode) pl := by unfold mulD; rw [if_neg hcase]
    have q2 : mulC ⟨neg, m, e⟩ pl = cutC m (pl - e) := by unfold mulC; rw [if_neg hcase]
    rw [q, q2]
    have hlt : cutM neg m (pl - e) mode < 2 ^ (k0 + 1) := cutM_lt hm (by omega)
    have hcut := fun w' hh => cut_any neg (.slice ao n c) m k0 (pl - e) mode w' hh hm (by omega) (by omega) (by omega) m0 m1
    generalize cutM neg m (pl - e) mode = Q at *
    have hop := fun v w' h0 hh => dnorm_any neg v Q (k0 + 1) pl w' h0 hh hlt (by omega) (by omega) (by omega)
    generalize norm neg Q pl = R at *
    generalize cutC m (pl - e) = C at *
    have HOP := Lib.hid hop
    have HCUT := Lib.hid hcut
    have hp : e < pl := by omega
    have hn : ((n : Int) == 0) = false := by rw [beq_eq_false_iff_ne]; omega
    clear q q2 hcase hm hop lz hlt hcut
    go_enter Tryd.func81, Tryd.ntmps81
    go_wp2_with fail
    refine (HCUT.out _ (HS.out.below (bl_alloc2 _ _ _))).mono ?_
    rintro r w1 ⟨v1, rfl, hv, hb⟩
    obtain ⟨a1, n1, c1, rfl⟩ := hv.shape
    have B1 := Lib.hid (bl_thru (bl_alloc2 w _ _) (Nat.le_refl _) hb)
    have X1 := Lib.hid (((Box.new w _ _ _ _).alloc _).below hb)
    have Z1 := Lib.hid ((Box.new2 w _ _ _ _ _).below hb)
    have HV := Lib.hid hv
    obtain ⟨q0, q1, q2, f0, f1, f2⟩ := X1.out.cells
    clear hv hb
    go_wp2_with fail
    refine (HOP.out _ _ (HT.out.below B1.out) HV.out).mono ?_
    rintro r w2 ⟨v2, rfl, ⟨s2, rfl, hv⟩, hb⟩
    obtain ⟨a2, n2, c2, rfl⟩ := hv.shape
    have B2 := Lib.hid (bl_thru B1.out (Nat.le_refl _) hb)
    have Z2 := Lib.hid (Z1.out.below hb)
    have HV2 := Lib.hid hv
    obtain ⟨s0, s1, s2, t0, t1, t2⟩ := Z2.out.cells
    clear hv hb
    go_wp2
    refine bodyPost_ret (v := .tuple #[.agg #[.bool R.neg, .slice a2 n2 c2, .int .i64 R.e], .bool C]) (by simp [results, Tryd.results81, go_sem, s0, s1, s2]) rfl ?_
    exact ⟨a2, n2, c2, rfl, HV2.out.setD Z2.out, bl_set3 B2.out (by omega) _ _ _⟩
end Go.Proofs.YtmpdbmaokbhcjaaDoor
