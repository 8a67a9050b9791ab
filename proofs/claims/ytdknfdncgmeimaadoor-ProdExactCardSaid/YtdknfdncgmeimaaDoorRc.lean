/-
  SOME OF MY TEXTS in one: Op Mu Wi Ex Ex2 Ex3 Mk Fd Vl. Each says what it proves.
-/
import Derived.Test.YtdknfdncgmeimaaDoorDc
import Derived.Test.YtdknfdncgmeimaaDoorDb
import Derived.Test.YtdknfdncgmeimaaDoorRb
import Derived.Test.YtdknfdncgmeimaaDoorBa
import Derived.Deep.RegionWith
import Derived.Test.YtdknfdncgmeimaaDoorNa
set_option linter.unusedVariables false
set_option linter.unusedSimpArgs false
/-
  THE WALKS of dyad.Opp, dyad.Compare.
-/
namespace Go.Proofs.YtdknfdncgmeimaaDoor
open Go.RowKit Nt Fm

set_option maxHeartbeats 2000000 in
theorem opp_any (vd : Value) (d : D) (k0 : Nat) (w : World) (hd : DV w vd d) (hdm : d.m < 2 ^ k0) (hk0 : k0 ≤ 400000) :
    Calls Tryd.prog 73 #[vd] w (RetD w (opp d)) := by
  obtain ⟨g, m, x⟩ := d
  obtain ⟨s, rfl, hs⟩ := hd
  simp only at *
  obtain ⟨ao, n, c, rfl, l1, l2, lz⟩ := nv_len hs
  have hcl := fun w1 h1 => clone_any (.slice ao n c) m k0 w1 h1 hdm (by omega)
  have hcase : (g = true ∧ opp ⟨g, m, x⟩ = ⟨false, m, x⟩) ∨ (g = false ∧ n = 0 ∧ opp ⟨g, m, x⟩ = ⟨false, m, x⟩) ∨ (g = false ∧ decide (0 < n) = true ∧ opp ⟨g, m, x⟩ = ⟨true, m, x⟩) := by
    unfold opp
    cases g
    · right
      rcases lz with ⟨h1, h2⟩ | ⟨h1, h2⟩
      · left; exact ⟨rfl, h2, by simp [h1]⟩
      · right; exact ⟨rfl, by simp; omega, by simp [h1]⟩
    · left; exact ⟨rfl, by simp⟩
  generalize opp ⟨g, m, x⟩ = S at *
  have HCL := Lib.hid hcl
  have HS := Lib.hid hs
  clear hcl hs hdm lz
  rcases hcase with ⟨rfl, rfl⟩ | ⟨rfl, rfl, rfl⟩ | ⟨rfl, hn, rfl⟩
  all_goals
    go_enter Tryd.func73, Tryd.ntmps73
    go_wp2_with fail
    refine (HCL.out _ (HS.out.below (bl_alloc2 _ _ _))).mono ?_
    rintro r w1 ⟨v, rfl, hv, hb⟩
    obtain ⟨a1, n1, c1, rfl⟩ := hv.shape
    have X1 := Lib.hid (((Box.new w _ _ _ _).alloc _).below hb)
    have Z1 := Lib.hid ((Box.new2 w _ _ _ _ _).below hb)
    have B1 := Lib.hid (bl_thru (bl_alloc2 w _ _) (Nat.le_refl _) hb)
    have HV := Lib.hid hv
    obtain ⟨q0, q1, q2, f0, f1, f2⟩ := X1.out.cells
    obtain ⟨p0, p1, p2, g0, g1, g2⟩ := Z1.out.cells
    clear hv hb
    go_wp2
    first
      | (refine bodyPost_ret (v := .agg #[.bool false, .slice a1 n1 c1, .int .i64 x]) ?_ rfl ?_; focus (simp [results, Tryd.results73, go_sem, p0, p1, p2]; done))
      | (refine bodyPost_ret (v := .agg #[.bool true, .slice a1 n1 c1, .int .i64 x]) ?_ rfl ?_; focus (simp [results, Tryd.results73, go_sem, p0, p1, p2]; done))
    exact ⟨_, rfl, ⟨.slice a1 n1 c1, rfl, (HV.out.setBox X1.out (noLimb_bool _) (noLimb_slice _ _ _) (noLimb_i64 _) _ _).setD (Z1.out.set (by omega) _)⟩, bl_set3 (B1.out.setCell (Nat.le_refl _) _) (by omega) _ _ _⟩
theorem opp_m (d : D) : (opp d).m = d.m := rfl
theorem opp_e (d : D) : (opp d).e = d.e := rfl

set_option maxRecDepth 100000 in
set_option maxHeartbeats 4000000 in
theorem compareD_any (vc vd : Value) (c d : D) (k0 : Nat) (w : World) (hT : Tab w) (hc : DV w vc c) (hd : DV w vd d) (hcm : c.m < 2 ^ k0) (hdm : d.m < 2 ^ k0) (hk0 : k0 ≤ 400000) (ec0 : -400000 ≤ c.e) (ec1 : c.e ≤ 400000) (ed0 : -400000 ≤ d.e) (ed1 : d.e ≤ 400000) :
    Calls Tryd.prog 72 #[vc, vd] w fun r w' => r = .returned (.int .i64 (cmp c d)) ∧ Below w.heap.size w w' := by
  have hop := fun w1 h1 => opp_any vd d k0 w1 h1 hdm hk0
  have hpl := fun vo w1 h0 h1 h2 => dplus_any vc vo c (opp d) k0 w1 h0 h1 h2 hcm hdm hk0 ec0 ec1 ed0 ed1
  have hsg := fun v w1 h1 => sign_any v (plus c (opp d)) w1 h1
  have hc' := hc
  have hd' := hd
  show Calls _ _ _ _ (fun r w' => r = .returned (.int .i64 (sign (plus c (opp d)))) ∧ Below w.heap.size w w')
  generalize plus c (opp d) = S at *
  generalize opp d = od at *
  generalize sign S = K at *
  obtain ⟨gc, mc, xc⟩ := c
  obtain ⟨gd, md, xd⟩ := d
  obtain ⟨sc, rfl, hsc⟩ := hc
  obtain ⟨sd, rfl, hsd⟩ := hd
  simp only at *
  obtain ⟨ac, nc, cc, rfl⟩ := hsc.shape
  obtain ⟨ad, nd, cd, rfl⟩ := hsd.shape
  have HT := Lib.hid hT
  have HC := Lib.hid hc'
  have HD := Lib.hid hd'
  have HOP := Lib.hid hop
  have HPL := Lib.hid hpl
  have HSG := Lib.hid hsg
  clear hT hsc hsd hcm hdm hc' hd' hop hpl hsg
  go_enter Tryd.func72, Tryd.ntmps72
  go_wp2_with fail
  have XC := Lib.hid (((Box.new w (.bool gc) (.slice ac nc cc) (.int .i64 xc) 25).alloc (.cells #[.bool gd, .slice ad nd cd, .int .i64 xd] 25)).drew)
  have B0 := Lib.hid (bl_alloc2 w (.cells #[.bool gc, .slice ac nc cc, .int .i64 xc] 25) (.cells #[.bool gd, .slice ad nd cd, .int .i64 xd] 25)).drew
  go_region_with (first
    | (go_at_call 73; refine (HOP.out _ (HD.out.below B0.out)).mono ?_; rintro r w1 ⟨v1, rfl, ⟨s1, rfl, hv1⟩, hb1⟩; obtain ⟨a1, n1, c1, rfl⟩ := hv1.shape; have HV1 := Lib.hid hv1; have B1 := Lib.hid (bl_thru B0.out (Nat.le_refl _) hb1); have X1 := Lib.hid (XC.out.below hb1); obtain ⟨q0, q1, q2, f0, f1, f2⟩ := X1.out.cells; clear hv1 hb1)
    | (go_at_call 68; refine (HPL.out _ _ (HT.out.below B1.out) (HC.out.below B1.out) ⟨_, rfl, HV1.out⟩).mono ?_; rintro r w2 ⟨v2, rfl, hv2, hb2⟩; have HV2 := Lib.hid hv2; have B2 := Lib.hid (bl_thru B1.out (Nat.le_refl _) hb2); clear hv2 hb2)
    | (go_at_call 94; refine (HSG.out _ _ HV2.out).mono ?_; rintro r w3 ⟨rfl, hb3⟩; have B3 := Lib.hid (bl_thru B2.out (Nat.le_refl _) hb3); clear hb3))
  all_goals
    go_wp2
    go_ret
    exact ⟨rfl, B3.out⟩
end Go.Proofs.YtdknfdncgmeimaaDoor

/-
  THE WALKS of round.Multiple, round.Cut.
-/
namespace Go.Proofs.YtdknfdncgmeimaaDoor
open Go.RowKit Nt Fm

def mulD (d : D) (pl mode : Int) : D := if pl ≤ d.e ∨ d.m = 0 then norm d.neg d.m d.e else norm d.neg (cutM d.neg d.m (pl - d.e) mode) pl
def mulC (d : D) (pl : Int) : Bool := if pl ≤ d.e ∨ d.m = 0 then false else cutC d.m (pl - d.e)
def RetDB (w : World) (R : D) (C : Bool) (r : Ending) (w' : World) : Prop := ∃ a n c, r = .returned (.tuple #[.agg #[.bool R.neg, .slice a n c, .int .i64 R.e], .bool C]) ∧ NV w' (.slice a n c) R.m ∧ Below w.heap.size w w'
theorem cutM_lt {neg : Bool} {m k0 : Nat} {k mode : Int} (hm : m < 2 ^ k0) (hk : 0 < k) : cutM neg m k mode < 2 ^ (k0 + 1) := by
  have h1 : m / 2 ^ k.toNat ≤ m := Nat.div_le_self _ _
  unfold cutM
  rw [if_neg (by omega), Nat.pow_succ]
  split
  · omega
  · split <;> omega

set_option maxRecDepth 100000 in
set_option maxHeartbeats 4000000 in
theorem multiple_any (v : Value) (d : D) (k0 : Nat) (pl mode : Int) (w : World) (hT : Tab w) (hd : DV w v d) (hm : d.m < 2 ^ k0) (hk0 : k0 ≤ 400000) (e0 : -400000 ≤ d.e) (e1 : d.e ≤ 400000) (p0 : -400000 ≤ pl) (p1 : pl ≤ 400000) (m0 : 0 ≤ mode) (m1 : mode ≤ 4) :
    Calls Tryd.prog 77 #[v, .int .i64 pl, .int .i64 mode] w (RetDB w (mulD d pl mode) (mulC d pl)) := by
  obtain ⟨neg, m, e⟩ := d
  obtain ⟨s, rfl, hs⟩ := hd
  simp only at hm e0 e1 hs
  obtain ⟨ao, n, c, rfl, l1, l2, lz⟩ := nv_len hs
  have HT := Lib.hid hT
  have HS := Lib.hid hs
  have HM := Lib.hid hm
  clear hT hs
  by_cases hcase : pl ≤ e ∨ m = 0
  · have q : mulD ⟨neg, m, e⟩ pl mode = norm neg m e := by unfold mulD; rw [if_pos hcase]
    have q2 : mulC ⟨neg, m, e⟩ pl = false := by unfold mulC; rw [if_pos hcase]
    rw [q, q2]
    have hop := fun w' h0 hh => dnorm_any neg (.slice ao n c) m k0 e w' h0 hh hm (by omega) (by omega) (by omega)
    generalize norm neg m e = R at *
    have HOP := Lib.hid hop
    have hsplit : (pl ≤ e) ∨ (decide (pl ≤ e) = false ∧ ((n : Int) == 0) = true) := by
      by_cases h : pl ≤ e
      · exact Or.inl h
      · right; exact ⟨by rw [decide_eq_false_iff_not]; exact h, by rw [beq_iff_eq]; omega⟩
    clear q q2 hcase hm hop lz
    rcases hsplit with hp | ⟨hp, hn⟩
    all_goals
      go_enter Tryd.func77, Tryd.ntmps77
      go_wp2_with fail
      refine (HOP.out _ (HT.out.below (bl_alloc2 _ _ _)) (HS.out.below (bl_alloc2 _ _ _))).mono ?_
      rintro r w1 ⟨v1, rfl, ⟨s1, rfl, hv⟩, hb⟩
      obtain ⟨a1, n1, c1, rfl⟩ := hv.shape
      have B1 := Lib.hid (bl_thru (bl_alloc2 w _ _) (Nat.le_refl _) hb)
      have Z1 := Lib.hid ((Box.new2 w _ _ _ _ _).below hb)
      have HV := Lib.hid hv
      obtain ⟨s0, s1, s2, t0, t1, t2⟩ := Z1.out.cells
      clear hv hb
      go_wp2
      refine bodyPost_ret (v := .tuple #[.agg #[.bool R.neg, .slice a1 n1 c1, .int .i64 R.e], .bool false]) (by simp [results, Tryd.results77, go_sem, s0, s1, s2]) rfl ?_
      exact ⟨a1, n1, c1, rfl, HV.out.setD Z1.out, bl_set3 B1.out (by omega) _ _ _⟩
  · have q : mulD ⟨neg, m, e⟩ pl mode = norm neg (cutM neg m (pl - e) mode) pl := by unfold mulD; rw [if_neg hcase]
    have q2 : mulC ⟨neg, m, e⟩ pl = cutC m (pl - e) := by unfold mulC; rw [if_neg hcase]
    rw [q, q2]
    have hlt : cutM neg m (pl - e) mode < 2 ^ (k0 + 1) := cutM_lt hm (by omega)
    have hcut := fun w' hh => cut_any neg (.slice ao n c) m k0 (pl - e) mode w' hh hm (by omega) (by omega) (by omega) m0 m1
    generalize cutM neg m (pl - e) mode = Q at *
    have hop := fun v w' h0 hh => dnorm_any neg v Q (k0 + 1) pl w' h0 hh hlt (by omega) (by omega) (by omega)
    generalize norm neg Q pl = R at *
    generalize cutC m (pl - e) = C at *
    have HOP := Lib.hid hop
    have HCUT := Lib.hid hcut
    have hp : e < pl := by omega
    have hn : ((n : Int) == 0) = false := by rw [beq_eq_false_iff_ne]; omega
    clear q q2 hcase hm hop lz hlt hcut
    go_enter Tryd.func77, Tryd.ntmps77
    go_wp2_with fail
    refine (HCUT.out _ (HS.out.below (bl_alloc2 _ _ _))).mono ?_
    rintro r w1 ⟨v1, rfl, hv, hb⟩
    obtain ⟨a1, n1, c1, rfl⟩ := hv.shape
    have B1 := Lib.hid (bl_thru (bl_alloc2 w _ _) (Nat.le_refl _) hb)
    have X1 := Lib.hid (((Box.new w _ _ _ _).alloc _).below hb)
    have Z1 := Lib.hid ((Box.new2 w _ _ _ _ _).below hb)
    have HV := Lib.hid hv
    obtain ⟨q0, q1, q2, f0, f1, f2⟩ := X1.out.cells
    clear hv hb
    go_wp2_with fail
    refine (HOP.out _ _ (HT.out.below B1.out) HV.out).mono ?_
    rintro r w2 ⟨v2, rfl, ⟨s2, rfl, hv⟩, hb⟩
    obtain ⟨a2, n2, c2, rfl⟩ := hv.shape
    have B2 := Lib.hid (bl_thru B1.out (Nat.le_refl _) hb)
    have Z2 := Lib.hid (Z1.out.below hb)
    have HV2 := Lib.hid hv
    obtain ⟨s0, s1, s2, t0, t1, t2⟩ := Z2.out.cells
    clear hv hb
    go_wp2
    refine bodyPost_ret (v := .tuple #[.agg #[.bool R.neg, .slice a2 n2 c2, .int .i64 R.e], .bool C]) (by simp [results, Tryd.results77, go_sem, s0, s1, s2]) rfl ?_
    exact ⟨a2, n2, c2, rfl, HV2.out.setD Z2.out, bl_set3 B2.out (by omega) _ _ _⟩
end Go.Proofs.YtdknfdncgmeimaaDoor

/-
  PLAIN: exact numbers cut at a place. No Go function here.
-/
namespace Go.Proofs.YtdknfdncgmeimaaDoor
open Go.RowKit Nt Fm Fl

/-- what 'n is no more than V rounded to a multiple of U' says -/
def Ik (k V U n : Nat) : Prop :=
  match k with
  | 0 => n * U ≤ V
  | 1 => n = 0 ∨ (n - 1) * U < V
  | 2 => n = 0 ∨ (n - 1) * U + n * U < 2 * V ∨ ((n - 1) * U + n * U = 2 * V ∧ n % 2 = 0)
  | _ => n = 0 ∨ (n - 1) * U + n * U ≤ 2 * V
theorem Ik_mono {k V V' U n : Nat} (h : V ≤ V') (hp : Ik k V U n) : Ik k V' U n := by
  rcases k with _ | _ | _ | k <;> simp only [Ik] at * <;> omega
theorem Ik_scale {k V U n c : Nat} (hc : 0 < c) : Ik k (V * c) (U * c) n ↔ Ik k V U n := by
  have e1 : n * (U * c) = n * U * c := (Nat.mul_assoc _ _ _).symm
  have e2 : (n - 1) * (U * c) = (n - 1) * U * c := (Nat.mul_assoc _ _ _).symm
  have e3 : 2 * (V * c) = 2 * V * c := (Nat.mul_assoc _ _ _).symm
  have e4 : (n - 1) * U * c + n * U * c = ((n - 1) * U + n * U) * c := (Nat.add_mul _ _ _).symm
  rcases k with _ | _ | _ | k <;> simp only [Ik] <;> (try rw [e1]) <;> (try rw [e2]) <;> (try rw [e3]) <;> (try rw [e4])
  · exact ⟨fun h => Nat.le_of_mul_le_mul_right h hc, fun h => Nat.mul_le_mul_right _ h⟩
  · rw [Nat.mul_lt_mul_right hc]
  · rw [Nat.mul_lt_mul_right hc, Nat.mul_right_cancel_iff hc]
  · constructor
    · rintro (h | h)
      · exact Or.inl h
      · exact Or.inr (Nat.le_of_mul_le_mul_right h hc)
    · rintro (h | h)
      · exact Or.inl h
      · exact Or.inr (Nat.mul_le_mul_right _ h)
theorem Ik_exact {k I U n : Nat} (hU : 0 < U) : n ≤ I ↔ Ik k (I * U) U n := by
  have a : n ≤ I → n * U ≤ I * U := fun h => Nat.mul_le_mul_right _ h
  have b : I < n → I * U + U ≤ n * U := fun h => by
    have := Nat.mul_le_mul_right U (show I + 1 ≤ n from h); rw [Nat.add_mul, Nat.one_mul] at this; exact this
  have c : n ≠ 0 → (n - 1) * U + U = n * U := fun h => by
    rw [← Nat.succ_mul]; congr 1; omega
  rcases k with _ | _ | _ | k <;> simp only [Ik]
  · exact ⟨a, fun h => by
      rcases Nat.lt_or_ge I n with h1 | h1
      · have := b h1; omega
      · exact h1⟩
  · constructor
    · intro h; have := a h; by_cases hz : n = 0
      · exact Or.inl hz
      · have := c hz; right; omega
    · intro h
      rcases Nat.lt_or_ge I n with h1 | h1
      · have := b h1; have := c (by omega); omega
      · exact h1
  · constructor
    · intro h; have := a h; by_cases hz : n = 0
      · exact Or.inl hz
      · have := c hz; right; left; omega
    · intro h
      rcases Nat.lt_or_ge I n with h1 | h1
      · have := b h1; have := c (by omega); omega
      · exact h1
  · constructor
    · intro h; have := a h; by_cases hz : n = 0
      · exact Or.inl hz
      · have := c hz; right; omega
    · intro h
      rcases Nat.lt_or_ge I n with h1 | h1
      · have := b h1; have := c (by omega); omega
      · exact h1
theorem cutM_iff {neg : Bool} {m : Nat} {k mode : Int} (hk : 0 < k) (m0 : 0 ≤ mode) (m1 : mode ≤ 4) (n : Nat) : n ≤ cutM neg m k mode ↔ Ik (kd neg mode) m (2 ^ k.toNat) n := by
  unfold cutM
  rw [if_neg (by omega)]
  obtain ⟨h, hh⟩ : ∃ h, h = 2 ^ (k.toNat - 1) := ⟨_, rfl⟩
  have hP : 2 ^ k.toNat = 2 * h := by rw [hh, ← Nat.pow_succ']; congr 1; omega
  have hh0 : 0 < h := by rw [hh]; exact Nat.two_pow_pos _
  rw [← hh]
  generalize 2 ^ k.toNat = P at *
  have hd := Nat.div_add_mod m P
  have hr := Nat.mod_lt m (show P > 0 by omega)
  generalize m / P = q at *
  generalize m % P = r at *
  have c : n ≠ 0 → (n - 1) * P + P = n * P := fun h => by
    rw [← Nat.succ_mul]; congr 1; omega
  have e0 : P * q = q * P := Nat.mul_comm _ _
  have key : (n ≤ q ∧ n * P ≤ q * P) ∨ (n = q + 1 ∧ n * P = q * P + P ∧ (n - 1) * P = q * P) ∨ (q + 2 ≤ n ∧ q * P + 2 * P ≤ n * P) := by
    rcases Nat.lt_trichotomy n (q + 1) with h | h | h
    · exact Or.inl ⟨by omega, Nat.mul_le_mul_right _ (by omega)⟩
    · right; left; subst h; refine ⟨rfl, by rw [Nat.add_mul, Nat.one_mul], by rw [Nat.add_sub_cancel]⟩
    · right; right; refine ⟨by omega, ?_⟩
      have := Nat.mul_le_mul_right P (show q + 2 ≤ n by omega)
      rw [Nat.add_mul] at this; exact this
  have hm : mode = 0 ∨ mode = 1 ∨ mode = 2 ∨ mode = 3 ∨ mode = 4 := by omega
  have hs : sgn2 (r : Int) (h : Int) = if r < h then -1 else if r = h then 0 else 1 := by
    unfold sgn2; split <;> split <;> (try split) <;> (try split) <;> omega
  rw [hs]
  clear hs hh
  obtain ⟨A, hA⟩ : ∃ A, n * P = A := ⟨_, rfl⟩
  obtain ⟨B, hB⟩ : ∃ B, (n - 1) * P = B := ⟨_, rfl⟩
  rw [hA, hB] at key
  rw [hA, hB] at c
  rw [e0] at hd
  generalize q * P = X at *
  clear e0
  rcases hm with rfl | rfl | rfl | rfl | rfl <;> cases neg <;> simp only [kd, upB, Ik, Int.reduceEq, if_true, if_false, Bool.false_eq_true, Bool.not_true, Bool.not_false, Int.reduceNeg, Nat.add_zero, ite_self, reduceCtorEq] <;>
    (try simp only [Bool.or_eq_true, Bool.and_eq_true, decide_eq_true_eq]) <;>
    (try rw [hA]) <;> (try rw [hB]) <;> clear hA hB <;>
    (by_cases hz : r = 0) <;> (try simp only [hz, if_true, if_false]) <;> (repeat' split) <;> omega
/-- what is cut, counted -/
theorem mul_spec (d : D) (pl mode : Int) {T : Nat} (hn : d.Nf) (h1 : 0 ≤ d.e + T) (h2 : 0 ≤ pl + T) (m0 : 0 ≤ mode) (m1 : mode ≤ 4) :
    ∃ I : Nat, (∀ n, n ≤ I ↔ Ik (kd d.neg mode) (d.m * 2 ^ (d.e + T).toNat) (2 ^ (pl + T).toNat) n) ∧
      (mulD d pl mode).vl T = (if d.neg then -((I * 2 ^ (pl + T).toNat : Nat) : Int) else ((I * 2 ^ (pl + T).toNat : Nat) : Int)) ∧
      (mulC d pl = false ↔ d.m * 2 ^ (d.e + T).toNat = I * 2 ^ (pl + T).toNat) ∧ (mulD d pl mode).Nf ∧ (mulD d pl mode = nz ∨ pl ≤ (mulD d pl mode).e) := by
  have hU := Nat.two_pow_pos (pl + T).toNat
  by_cases hc : pl ≤ d.e ∨ d.m = 0
  · have e1 : mulD d pl mode = d := by unfold mulD; rw [if_pos hc, norm_self hn]
    have e2 : mulC d pl = false := by unfold mulC; rw [if_pos hc]
    have hI : d.m * 2 ^ (d.e + T).toNat = d.m * 2 ^ (d.e - pl).toNat * 2 ^ (pl + T).toNat := by
      rcases hc with hc | hc
      · rw [Nat.mul_assoc, ← Nat.pow_add]; congr 2; omega
      · rw [hc]; simp
    refine ⟨d.m * 2 ^ (d.e - pl).toNat, fun n => ?_, ?_, ?_, ?_, ?_⟩
    · rw [hI]; exact Ik_exact hU
    · rw [e1, ← hI]; unfold D.vl D.sm; cases d.neg <;> simp [Int.neg_mul]
    · rw [e2, hI]; simp
    · rw [e1]; exact hn
    · rw [e1]
      rcases hc with hc | hc
      · exact Or.inr hc
      · left
        rcases hn with h | h
        · exact h
        · omega
  · have e1 : mulD d pl mode = norm d.neg (cutM d.neg d.m (pl - d.e) mode) pl := by unfold mulD; rw [if_neg hc]
    have e2 : mulC d pl = cutC d.m (pl - d.e) := by unfold mulC; rw [if_neg hc]
    have hV : (d.e + T).toNat + (pl - d.e).toNat = (pl + T).toNat := by omega
    have hc0 := Nat.two_pow_pos (d.e + T).toNat
    have hU2 : 2 ^ (pl + T).toNat = 2 ^ (pl - d.e).toNat * 2 ^ (d.e + T).toNat := by rw [← Nat.pow_add]; congr 1; omega
    refine ⟨cutM d.neg d.m (pl - d.e) mode, fun n => ?_, ?_, ?_, ?_, ?_⟩
    · rw [cutM_iff (by omega) m0 m1, hU2, Ik_scale hc0]
    · rw [e1, norm_vl _ _ _ _ h2]; unfold D.vl D.sm; simp only; cases d.neg <;> simp [Int.neg_mul]
    · rw [e2, hU2, ← Nat.mul_assoc, Nat.mul_right_cancel_iff hc0]
      unfold cutC lostB cutM
      rw [if_neg (by omega)]
      have hd := Nat.div_add_mod d.m (2 ^ (pl - d.e).toNat)
      have hr := Nat.mod_lt d.m (Nat.two_pow_pos (pl - d.e).toNat)
      have hk : decide (0 < pl - d.e) = true := by simp; omega
      rw [hk, Bool.true_and]
      generalize 2 ^ (pl - d.e).toNat = P at *
      by_cases hz : d.m % P = 0
      · rw [if_pos hz]; simp [hz]
        rw [Nat.mul_comm]; omega
      · rw [if_neg hz]
        simp only [ne_eq, hz, not_false_eq_true, decide_true, Bool.true_eq_false, false_iff]
        intro h
        have : d.m % P = 0 := by rw [h]; exact Nat.mul_mod_left _ _
        exact hz this
    · rw [e1]; exact norm_nf _ _ _
    · rw [e1]; exact norm_e
theorem I_mono {k V V' U I I' : Nat} (h : V ≤ V') (hI : ∀ n, n ≤ I ↔ Ik k V U n) (hI' : ∀ n, n ≤ I' ↔ Ik k V' U n) : I ≤ I' := (hI' I).2 (Ik_mono h ((hI I).1 (Nat.le_refl _)))
theorem I_down {V U I : Nat} (hI : ∀ n, n ≤ I ↔ Ik 0 V U n) : I * U ≤ V := (hI I).1 (Nat.le_refl _)
theorem I_up {V U I : Nat} (hI : ∀ n, n ≤ I ↔ Ik 1 V U n) : V ≤ I * U := by
  have := mt (hI (I + 1)).2 (by omega)
  simp only [Ik, Nat.add_sub_cancel] at this; omega
theorem vl_abs (d : D) (T : Nat) : d.vl T = (if d.neg then -((d.m * 2 ^ (d.e + T).toNat : Nat) : Int) else ((d.m * 2 ^ (d.e + T).toNat : Nat) : Int)) := by
  unfold D.vl D.sm; cases d.neg <;> simp [Int.neg_mul]
/-- of what is more no less -/
theorem mul_mono {c d : D} {pl mode : Int} {T : Nat} (hc : c.Nf) (hd : d.Nf) (h1 : 0 ≤ c.e + T) (h2 : 0 ≤ d.e + T) (h3 : 0 ≤ pl + T) (m0 : 0 ≤ mode) (m1 : mode ≤ 4) (h : c.vl T ≤ d.vl T) : (mulD c pl mode).vl T ≤ (mulD d pl mode).vl T := by
  obtain ⟨I, i1, i2, -⟩ := mul_spec c pl mode hc h1 h3 m0 m1
  obtain ⟨J, j1, j2, -⟩ := mul_spec d pl mode hd h2 h3 m0 m1
  rw [i2, j2]
  rw [vl_abs c, vl_abs d] at h
  have hU := Nat.two_pow_pos (pl + T).toNat
  generalize 2 ^ (pl + T).toNat = U at *
  generalize c.m * 2 ^ (c.e + T).toNat = V at *
  generalize d.m * 2 ^ (d.e + T).toNat = W at *
  have zero : ∀ {k V I : Nat}, V = 0 → (∀ n, n ≤ I ↔ Ik k V U n) → I = 0 := by
    intro k V I hv hI
    have e : (0 : Nat) * U = 0 := Nat.zero_mul _
    have := @Ik_exact k 0 U I hU
    rw [e, ← hv, ← hI] at this
    have := this.2 (Nat.le_refl _); omega
  cases hcn : c.neg <;> cases hdn : d.neg <;> rw [hcn] at h i1 <;> rw [hdn] at h j1 <;> simp only [Bool.false_eq_true, if_false, if_true] at h ⊢
  · have := Nat.mul_le_mul_right U (I_mono (show V ≤ W by omega) i1 j1); omega
  · have a := zero (by omega) i1; have b := zero (by omega) j1; rw [a, b]; simp
  · omega
  · have := Nat.mul_le_mul_right U (I_mono (show W ≤ V by omega) j1 i1); omega
theorem mul_down {d : D} {pl : Int} {T : Nat} (hd : d.Nf) (h2 : 0 ≤ d.e + T) (h3 : 0 ≤ pl + T) : (mulD d pl 2).vl T ≤ d.vl T := by
  obtain ⟨J, j1, j2, -⟩ := mul_spec d pl 2 hd h2 h3 (by decide) (by decide)
  rw [j2, vl_abs d]
  cases hdn : d.neg <;> rw [hdn] at j1 <;> simp only [Bool.false_eq_true, if_false, if_true]
  · have := I_down j1; omega
  · have := I_up j1; omega
theorem mul_up {d : D} {pl : Int} {T : Nat} (hd : d.Nf) (h2 : 0 ≤ d.e + T) (h3 : 0 ≤ pl + T) : d.vl T ≤ (mulD d pl 1).vl T := by
  obtain ⟨J, j1, j2, -⟩ := mul_spec d pl 1 hd h2 h3 (by decide) (by decide)
  rw [j2, vl_abs d]
  cases hdn : d.neg <;> rw [hdn] at j1 <;> simp only [Bool.false_eq_true, if_false, if_true]
  · have := I_up j1; omega
  · have := I_down j1; omega
/-- nothing is lost: it is itself -/
theorem mul_same {d : D} {pl mode : Int} (hd : d.Nf) (m0 : 0 ≤ mode) (m1 : mode ≤ 4) : mulC d pl = false ↔ mulD d pl mode = d := by
  obtain ⟨T, h1, h2⟩ := exT d.e pl
  obtain ⟨J, j1, j2, j3, j4, j5⟩ := mul_spec d pl mode hd h1 h2 m0 m1
  rw [j3]
  have eT : 0 ≤ (mulD d pl mode).e + (T : Int) := by
    rcases j5 with h | h
    · rw [h]; unfold nz; simp only; omega
    · omega
  constructor
  · intro h
    refine nf_inj j4 hd eT h1 ?_
    rw [j2, vl_abs d, h]
  · intro h
    rw [h, vl_abs d] at j2
    cases hn : d.neg <;> rw [hn] at j2 <;> simp only [Bool.false_eq_true, if_false, if_true] at j2 <;> omega
/-- by as many places, or fewer, it is cut no more -/
theorem mul_again {d : D} {pl few mode : Int} (hd : d.Nf) (m0 : 0 ≤ mode) (m1 : mode ≤ 4) (hf : few ≤ pl) (mode' : Int) : mulD (mulD d pl mode) few mode' = mulD d pl mode ∧ mulC (mulD d pl mode) few = false := by
  obtain ⟨T, h1, h2⟩ := exT d.e pl
  obtain ⟨J, j1, j2, j3, j4, j5⟩ := mul_spec d pl mode hd h1 h2 m0 m1
  generalize mulD d pl mode = R at *
  have hc : few ≤ R.e ∨ R.m = 0 := by
    rcases j5 with h | h
    · right; rw [h]; rfl
    · left; omega
  refine ⟨?_, ?_⟩
  · unfold mulD; rw [if_pos hc, norm_self j4]
  · unfold mulC; rw [if_pos hc]
end Go.Proofs.YtdknfdncgmeimaaDoor

/-
  THE WALKS of dyad.Add, Sub, Mul, Cmp.
-/
namespace Go.Proofs.YtdknfdncgmeimaaDoor
open Go.RowKit Nt Fm

theorem fit_k {d : D} (h : Fit d) : ∃ k, k ≤ 20000 ∧ d.m < 2 ^ k := ⟨12800, by omega, h.2.1⟩
theorem opE_ck {c1 c2 : Int} (S : D) (h : ck2 c1 c2 ≠ 0) : opE c1 c2 S = ck2 c1 c2 ∧ opR c1 c2 S = nz := by
  have e : opE c1 c2 S = ck2 c1 c2 := by
    unfold ck2 at h
    unfold opE ck2
    split
    · rename_i h1; rw [if_pos h1] at h; rw [if_neg h]
    · rfl
  refine ⟨e, ?_⟩
  unfold opR; rw [e, if_neg h]
theorem ck2_zero {c1 c2 : Int} (h : ck2 c1 c2 = 0) : c1 = 0 ∧ c2 = 0 := by
  unfold ck2 at h
  split at h
  · exact ⟨by assumption, h⟩
  · contradiction
theorem opE_zero (S : D) : opE 0 0 S = fitE S ∧ opR 0 0 S = if fitE S = 0 then S else nz := by
  have e : opE 0 0 S = fitE S := by unfold opE; rw [if_pos rfl, if_pos rfl]
  exact ⟨e, by unfold opR; rw [e]⟩
theorem opR_fit {c1 c2 : Int} {S : D} (h : S.Nf) : Fit (opR c1 c2 S) := by
  unfold opR
  split
  · rename_i h1
    unfold opE at h1
    split at h1
    · split at h1
      · exact fitE_fit h h1
      · contradiction
    · contradiction
  · exact Fit.nz
theorem plus_nf (c d : D) : (plus c d).Nf := ofInt_nf _ _
theorem times_nf (c d : D) : (times c d).Nf := ofInt_nf _ _
theorem opp_fit {d : D} (h : Fit d) : Fit (opp d) := by
  obtain ⟨h1, h2, h3, h4⟩ := h
  refine ⟨?_, h2, h3, h4⟩
  rcases h1 with h1 | h1
  · left; rw [h1]; rfl
  · right; exact h1

set_option maxRecDepth 100000 in
set_option maxHeartbeats 4000000 in
theorem add_any (v1 v2 : Value) (c1 c2 : Int) (d1 d2 : D) (w : World) (hT : Tab w) (h1 : RD w v1 c1 d1) (h2 : RD w v2 c2 d2) :
    Calls Tryd.prog 28 #[v1, v2] w (RetR w (opE c1 c2 (plus d1 d2)) (opR c1 c2 (plus d1 d2))) := by
  have hck := fun w' hb => check2_any v1 v2 c1 c2 d1 d2 w' (RD.below h1 (w' := w') hb) (RD.below h2 hb)
  have h1' := h1
  have h2' := h2
  obtain ⟨g1, a1, n1, p1, x1, rfl, -⟩ := h1
  obtain ⟨g2, a2, n2, p2, x2, rfl, -⟩ := h2
  have CK := Lib.hid hck
  have HT := Lib.hid hT
  clear hck hT
  by_cases hc : ck2 c1 c2 = 0
  · obtain ⟨rfl, rfl⟩ := ck2_zero hc
    rw [(opE_zero _).1, (opE_zero _).2]
    have e : ck2 0 0 = 0 := rfl
    rw [e] at CK
    obtain ⟨k1, hk1, hm1⟩ := fit_k h1'.fit
    obtain ⟨k2, hk2, hm2⟩ := fit_k h2'.fit
    have f1 := h1'.fit
    have f2 := h2'.fit
    obtain ⟨k, hk, hm1', hm2'⟩ : ∃ k, k ≤ 40000 ∧ d1.m < 2 ^ k ∧ d2.m < 2 ^ k := ⟨k1 + k2, by omega, lt_pow hm1 (by omega), lt_pow hm2 (by omega)⟩
    have q1 := f1.2.2
    have q2 := f2.2.2
    have hop := fun w' h0 hh1 hh2 => dplus_any (.agg #[.bool g1, .slice a1 n1 p1, .int .i64 x1]) (.agg #[.bool g2, .slice a2 n2 p2, .int .i64 x2]) d1 d2 k w' h0 hh1 hh2 hm1' hm2' (by omega) (by omega) (by omega) (by omega) (by omega)
    have hbd := fun v w' hh => bounded_any v (plus d1 d2) w' hh
    generalize plus d1 d2 = S at *
    generalize hR : (if fitE S = 0 then S else nz) = R at *
    generalize fitE S = E at *
    have D1 := Lib.hid h1'.dv
    have D2 := Lib.hid h2'.dv
    have HOP := Lib.hid hop
    have HBD := Lib.hid hbd
    clear hop hbd hm1 hm2 hm1' hm2' f1 f2 q1 q2 h1' h2' hc e hR
    go_enter Tryd.func28, Tryd.ntmps28
    go_wp2_with fail
    refine (CK.out _ (bl_alloc3 _ _ _ _)).mono ?_
    rintro r w1 ⟨rfl, hb⟩
    have B1 := Lib.hid (bl_thru (bl_alloc3 w _ _ _) (Nat.le_refl _) hb)
    have X1 := Lib.hid (((Box.new w _ _ _ _).alloc _ |>.alloc _).below hb)
    have Y1 := Lib.hid (((Box.new2 w _ _ _ _ _).alloc _).below hb)
    have Z1 := Lib.hid ((Box.new3 w _ _ _ _ _ _).below hb)
    obtain ⟨q0, q1, q2, f0, f1, f2⟩ := X1.out.cells
    obtain ⟨p0, p1', p2', g0, g1', g2'⟩ := Y1.out.cells
    clear hb
    go_wp2_with fail
    refine (HOP.out _ (HT.out.below B1.out) (D1.out.below B1.out) (D2.out.below B1.out)).mono ?_
    rintro r w2 ⟨v2, rfl, hv, hb⟩
    have B2 := Lib.hid (bl_thru B1.out (Nat.le_refl _) hb)
    have Z2 := Lib.hid (Z1.out.below hb)
    have HV2 := Lib.hid hv
    clear hv hb
    go_wp2_with fail
    refine (HBD.out _ _ HV2.out).mono ?_
    rintro r w3 ⟨a3, n3, c3, rfl, hv, hb⟩
    have B3 := Lib.hid (bl_thru B2.out (Nat.le_refl _) hb)
    have Z3 := Lib.hid (Z2.out.below hb)
    have HV3 := Lib.hid hv
    obtain ⟨s0, s1, s2, t0, t1, t2⟩ := Z3.out.cells
    clear hv hb
    go_wp2
    refine bodyPost_ret (v := .tuple #[.agg #[.bool R.neg, .slice a3 n3 c3, .int .i64 R.e], .int .i64 E]) (by simp [results, Tryd.results28, go_sem, s0, s1, s2]) rfl ?_
    exact ⟨a3, n3, c3, rfl, HV3.out.setD Z3.out, bl_set3 B3.out (by omega) _ _ _⟩
  · obtain ⟨e1, e2⟩ := opE_ck (plus d1 d2) hc
    rw [e1, e2]
    generalize ck2 c1 c2 = E at *
    have hE : (E != 0) = true := by rw [bne_iff_ne]; exact hc
    clear h1' h2' e1 e2 hc
    go_enter Tryd.func28, Tryd.ntmps28
    go_wp2_with fail
    refine (CK.out _ (bl_alloc3 _ _ _ _)).mono ?_
    rintro r w1 ⟨rfl, hb⟩
    have B1 := Lib.hid (bl_thru (bl_alloc3 w _ _ _) (Nat.le_refl _) hb)
    have Z1 := Lib.hid ((Box.new3 w _ _ _ _ _ _).below hb)
    obtain ⟨s0, s1, s2, t0, t1, t2⟩ := Z1.out.cells
    clear hb
    go_wp2
    refine bodyPost_ret (v := .tuple #[.agg #[.bool false, .slice none 0 0, .int .i64 0], .int .i64 E]) (by simp [results, Tryd.results28, go_sem, s0, s1, s2]) rfl ?_
    exact ⟨none, 0, 0, rfl, NV.nil _, bl_set3 B1.out (by omega) _ _ _⟩

set_option maxRecDepth 100000 in
set_option maxHeartbeats 4000000 in
theorem mul_any (v1 v2 : Value) (c1 c2 : Int) (d1 d2 : D) (w : World) (hT : Tab w) (h1 : RD w v1 c1 d1) (h2 : RD w v2 c2 d2) :
    Calls Tryd.prog 32 #[v1, v2] w (RetR w (opE c1 c2 (times d1 d2)) (opR c1 c2 (times d1 d2))) := by
  have hck := fun w' hb => check2_any v1 v2 c1 c2 d1 d2 w' (RD.below h1 (w' := w') hb) (RD.below h2 hb)
  have h1' := h1
  have h2' := h2
  obtain ⟨g1, a1, n1, p1, x1, rfl, -⟩ := h1
  obtain ⟨g2, a2, n2, p2, x2, rfl, -⟩ := h2
  have CK := Lib.hid hck
  have HT := Lib.hid hT
  clear hck hT
  by_cases hc : ck2 c1 c2 = 0
  · obtain ⟨rfl, rfl⟩ := ck2_zero hc
    rw [(opE_zero _).1, (opE_zero _).2]
    have e : ck2 0 0 = 0 := rfl
    rw [e] at CK
    obtain ⟨k1, hk1, hm1⟩ := fit_k h1'.fit
    obtain ⟨k2, hk2, hm2⟩ := fit_k h2'.fit
    have f1 := h1'.fit
    have f2 := h2'.fit
    obtain ⟨k, hk, hm1', hm2'⟩ : ∃ k, k ≤ 40000 ∧ d1.m < 2 ^ k ∧ d2.m < 2 ^ k := ⟨k1 + k2, by omega, lt_pow hm1 (by omega), lt_pow hm2 (by omega)⟩
    have q1 := f1.2.2
    have q2 := f2.2.2
    have hop := fun w' h0 hh1 hh2 => dtimes_any (.agg #[.bool g1, .slice a1 n1 p1, .int .i64 x1]) (.agg #[.bool g2, .slice a2 n2 p2, .int .i64 x2]) d1 d2 k w' h0 hh1 hh2 hm1' hm2' (by omega) (by omega) (by omega) (by omega) (by omega)
    have hbd := fun v w' hh => bounded_any v (times d1 d2) w' hh
    generalize times d1 d2 = S at *
    generalize hR : (if fitE S = 0 then S else nz) = R at *
    generalize fitE S = E at *
    have D1 := Lib.hid h1'.dv
    have D2 := Lib.hid h2'.dv
    have HOP := Lib.hid hop
    have HBD := Lib.hid hbd
    clear hop hbd hm1 hm2 hm1' hm2' f1 f2 q1 q2 h1' h2' hc e hR
    go_enter Tryd.func32, Tryd.ntmps32
    go_wp2_with fail
    refine (CK.out _ (bl_alloc3 _ _ _ _)).mono ?_
    rintro r w1 ⟨rfl, hb⟩
    have B1 := Lib.hid (bl_thru (bl_alloc3 w _ _ _) (Nat.le_refl _) hb)
    have X1 := Lib.hid (((Box.new w _ _ _ _).alloc _ |>.alloc _).below hb)
    have Y1 := Lib.hid (((Box.new2 w _ _ _ _ _).alloc _).below hb)
    have Z1 := Lib.hid ((Box.new3 w _ _ _ _ _ _).below hb)
    obtain ⟨q0, q1, q2, f0, f1, f2⟩ := X1.out.cells
    obtain ⟨p0, p1', p2', g0, g1', g2'⟩ := Y1.out.cells
    clear hb
    go_wp2_with fail
    refine (HOP.out _ (HT.out.below B1.out) (D1.out.below B1.out) (D2.out.below B1.out)).mono ?_
    rintro r w2 ⟨v2, rfl, hv, hb⟩
    have B2 := Lib.hid (bl_thru B1.out (Nat.le_refl _) hb)
    have Z2 := Lib.hid (Z1.out.below hb)
    have HV2 := Lib.hid hv
    clear hv hb
    go_wp2_with fail
    refine (HBD.out _ _ HV2.out).mono ?_
    rintro r w3 ⟨a3, n3, c3, rfl, hv, hb⟩
    have B3 := Lib.hid (bl_thru B2.out (Nat.le_refl _) hb)
    have Z3 := Lib.hid (Z2.out.below hb)
    have HV3 := Lib.hid hv
    obtain ⟨s0, s1, s2, t0, t1, t2⟩ := Z3.out.cells
    clear hv hb
    go_wp2
    refine bodyPost_ret (v := .tuple #[.agg #[.bool R.neg, .slice a3 n3 c3, .int .i64 R.e], .int .i64 E]) (by simp [results, Tryd.results32, go_sem, s0, s1, s2]) rfl ?_
    exact ⟨a3, n3, c3, rfl, HV3.out.setD Z3.out, bl_set3 B3.out (by omega) _ _ _⟩
  · obtain ⟨e1, e2⟩ := opE_ck (times d1 d2) hc
    rw [e1, e2]
    generalize ck2 c1 c2 = E at *
    have hE : (E != 0) = true := by rw [bne_iff_ne]; exact hc
    clear h1' h2' e1 e2 hc
    go_enter Tryd.func32, Tryd.ntmps32
    go_wp2_with fail
    refine (CK.out _ (bl_alloc3 _ _ _ _)).mono ?_
    rintro r w1 ⟨rfl, hb⟩
    have B1 := Lib.hid (bl_thru (bl_alloc3 w _ _ _) (Nat.le_refl _) hb)
    have Z1 := Lib.hid ((Box.new3 w _ _ _ _ _ _).below hb)
    obtain ⟨s0, s1, s2, t0, t1, t2⟩ := Z1.out.cells
    clear hb
    go_wp2
    refine bodyPost_ret (v := .tuple #[.agg #[.bool false, .slice none 0 0, .int .i64 0], .int .i64 E]) (by simp [results, Tryd.results32, go_sem, s0, s1, s2]) rfl ?_
    exact ⟨none, 0, 0, rfl, NV.nil _, bl_set3 B1.out (by omega) _ _ _⟩

end Go.Proofs.YtdknfdncgmeimaaDoor

/-
  THE WALK of dyad.Sub.
-/
namespace Go.Proofs.YtdknfdncgmeimaaDoor
open Go.RowKit Nt Fm

set_option maxRecDepth 100000 in
set_option maxHeartbeats 4000000 in
theorem sub_any (v1 v2 : Value) (c1 c2 : Int) (d1 d2 : D) (w : World) (hT : Tab w) (h1 : RD w v1 c1 d1) (h2 : RD w v2 c2 d2) :
    Calls Tryd.prog 34 #[v1, v2] w (RetR w (opE c1 c2 (plus d1 (opp d2))) (opR c1 c2 (plus d1 (opp d2)))) := by
  have hck := fun w' hb => check2_any v1 v2 c1 c2 d1 d2 w' (RD.below h1 (w' := w') hb) (RD.below h2 hb)
  have h1' := h1
  have h2' := h2
  obtain ⟨g1, a1, n1, p1, x1, rfl, -⟩ := h1
  obtain ⟨g2, a2, n2, p2, x2, rfl, -⟩ := h2
  have CK := Lib.hid hck
  have HT := Lib.hid hT
  clear hck hT
  by_cases hc : ck2 c1 c2 = 0
  · obtain ⟨rfl, rfl⟩ := ck2_zero hc
    rw [(opE_zero _).1, (opE_zero _).2]
    have e : ck2 0 0 = 0 := rfl
    rw [e] at CK
    obtain ⟨k1, hk1, hm1⟩ := fit_k h1'.fit
    obtain ⟨k2, hk2, hm2⟩ := fit_k h2'.fit
    have f1 := h1'.fit
    have f2 := h2'.fit
    obtain ⟨k, hk, hm1', hm2'⟩ : ∃ k, k ≤ 40000 ∧ d1.m < 2 ^ k ∧ d2.m < 2 ^ k := ⟨k1 + k2, by omega, lt_pow hm1 (by omega), lt_pow hm2 (by omega)⟩
    have q1 := f1.2.2
    have q2 := f2.2.2
    have hopp := fun w' hh2 => opp_any (.agg #[.bool g2, .slice a2 n2 p2, .int .i64 x2]) d2 k w' hh2 hm2' (by omega)
    have hop := fun vo w' h0 hh1 hh2 => dplus_any (.agg #[.bool g1, .slice a1 n1 p1, .int .i64 x1]) vo d1 (opp d2) k w' h0 hh1 hh2 hm1' hm2' (by omega) (by omega) (by omega) (by rw [opp_e]; omega) (by rw [opp_e]; omega)
    have hbd := fun v w' hh => bounded_any v (plus d1 (opp d2)) w' hh
    generalize plus d1 (opp d2) = S at *
    generalize opp d2 = od at *
    have HOPP := Lib.hid hopp
    clear hopp
    generalize hR : (if fitE S = 0 then S else nz) = R at *
    generalize fitE S = E at *
    have D1 := Lib.hid h1'.dv
    have D2 := Lib.hid h2'.dv
    have HOP := Lib.hid hop
    have HBD := Lib.hid hbd
    clear hop hbd hm1 hm2 hm1' hm2' f1 f2 q1 q2 h1' h2' hc e hR
    go_enter Tryd.func34, Tryd.ntmps34
    go_wp2_with fail
    refine (CK.out _ (bl_alloc3 _ _ _ _)).mono ?_
    rintro r w1 ⟨rfl, hb⟩
    have B1 := Lib.hid (bl_thru (bl_alloc3 w _ _ _) (Nat.le_refl _) hb)
    have X1 := Lib.hid (((Box.new w _ _ _ _).alloc _ |>.alloc _).below hb)
    have Y1 := Lib.hid (((Box.new2 w _ _ _ _ _).alloc _).below hb)
    have Z1 := Lib.hid ((Box.new3 w _ _ _ _ _ _).below hb)
    obtain ⟨q0, q1, q2, f0, f1, f2⟩ := X1.out.cells
    obtain ⟨p0, p1', p2', g0, g1', g2'⟩ := Y1.out.cells
    clear hb
    have B1d := Lib.hid B1.out.drew
    go_wp2
    go_region_with (first
      | (go_at_call 73; refine (HOPP.out _ (D2.out.below B1d.out)).mono ?_; rintro r w4 ⟨v4, rfl, ⟨s4, rfl, hv⟩, hb⟩; obtain ⟨a4, n4, c4, rfl⟩ := hv.shape; have HV4 := Lib.hid hv; have B4 := Lib.hid (bl_thru B1d.out (Nat.le_refl _) hb); have X4 := Lib.hid (X1.out.drew.below hb); have Z4 := Lib.hid (Z1.out.drew.below hb); obtain ⟨q0, q1, q2, f0, f1, f2⟩ := X4.out.cells; clear hv hb)
      | (go_at_call 68; refine (HOP.out _ _ (HT.out.below B4.out) (D1.out.below B4.out) ⟨_, rfl, HV4.out⟩).mono ?_; rintro r w2 ⟨v2, rfl, hv, hb⟩; have B2 := Lib.hid (bl_thru B4.out (Nat.le_refl _) hb); have Z2 := Lib.hid (Z4.out.below hb); have HV2 := Lib.hid hv; clear hv hb)
      | (go_at_call 67; refine (HBD.out _ _ HV2.out).mono ?_; rintro r w3 ⟨a3, n3, c3, rfl, hv, hb⟩; have B3 := Lib.hid (bl_thru B2.out (Nat.le_refl _) hb); have Z3 := Lib.hid (Z2.out.below hb); have HV3 := Lib.hid hv; obtain ⟨s0, s1, s2, t0, t1, t2⟩ := Z3.out.cells; clear hv hb))
    all_goals
      go_wp2
      refine bodyPost_ret (v := .tuple #[.agg #[.bool R.neg, .slice a3 n3 c3, .int .i64 R.e], .int .i64 E]) (by simp [results, Tryd.results34, go_sem, s0, s1, s2]) rfl ?_
      exact ⟨a3, n3, c3, rfl, HV3.out.setD Z3.out, bl_set3 B3.out (by omega) _ _ _⟩
  · obtain ⟨e1, e2⟩ := opE_ck (plus d1 (opp d2)) hc
    rw [e1, e2]
    generalize ck2 c1 c2 = E at *
    have hE : (E != 0) = true := by rw [bne_iff_ne]; exact hc
    clear h1' h2' e1 e2 hc
    go_enter Tryd.func34, Tryd.ntmps34
    go_wp2_with fail
    refine (CK.out _ (bl_alloc3 _ _ _ _)).mono ?_
    rintro r w1 ⟨rfl, hb⟩
    have B1 := Lib.hid (bl_thru (bl_alloc3 w _ _ _) (Nat.le_refl _) hb)
    have Z1 := Lib.hid ((Box.new3 w _ _ _ _ _ _).below hb)
    obtain ⟨s0, s1, s2, t0, t1, t2⟩ := Z1.out.cells
    clear hb
    go_wp2
    refine bodyPost_ret (v := .tuple #[.agg #[.bool false, .slice none 0 0, .int .i64 0], .int .i64 E]) (by simp [results, Tryd.results34, go_sem, s0, s1, s2]) rfl ?_
    exact ⟨none, 0, 0, rfl, NV.nil _, bl_set3 B1.out (by omega) _ _ _⟩

end Go.Proofs.YtdknfdncgmeimaaDoor

/-
  THE WALKS of dyad.Cmp, Same, Shift, Make.
-/
namespace Go.Proofs.YtdknfdncgmeimaaDoor
open Go.RowKit Nt Fm

def cmE (c1 c2 : Int) (d1 d2 : D) : Int := if ck2 c1 c2 = 0 then cmp d1 d2 else 0
set_option maxHeartbeats 4000000 in
theorem cmp_any (v1 v2 : Value) (c1 c2 : Int) (d1 d2 : D) (w : World) (hT : Tab w) (h1 : RD w v1 c1 d1) (h2 : RD w v2 c2 d2) :
    Calls Tryd.prog 33 #[v1, v2] w fun r w' => r = .returned (.tuple #[.int .i64 (cmE c1 c2 d1 d2), .int .i64 (ck2 c1 c2)]) ∧ Below w.heap.size w w' := by
  have hck := fun w' hb => check2_any v1 v2 c1 c2 d1 d2 w' (RD.below h1 (w' := w') hb) (RD.below h2 hb)
  have h1' := h1
  have h2' := h2
  obtain ⟨g1, a1, n1, p1, x1, rfl, -⟩ := h1
  obtain ⟨g2, a2, n2, p2, x2, rfl, -⟩ := h2
  have CK := Lib.hid hck
  have HT := Lib.hid hT
  clear hck hT
  by_cases hc : ck2 c1 c2 = 0
  · obtain ⟨rfl, rfl⟩ := ck2_zero hc
    have e0 : cmE 0 0 d1 d2 = cmp d1 d2 := by unfold cmE; rw [if_pos hc]
    have e : ck2 0 0 = 0 := rfl
    rw [e0, e]
    rw [e] at CK
    obtain ⟨k1, hk1, hm1⟩ := fit_k h1'.fit
    obtain ⟨k2, hk2, hm2⟩ := fit_k h2'.fit
    have f1 := h1'.fit
    have f2 := h2'.fit
    obtain ⟨k, hk, hm1', hm2'⟩ : ∃ k, k ≤ 40000 ∧ d1.m < 2 ^ k ∧ d2.m < 2 ^ k := ⟨k1 + k2, by omega, lt_pow hm1 (by omega), lt_pow hm2 (by omega)⟩
    have q1 := f1.2.2
    have q2 := f2.2.2
    have hop := fun w' h0 hh1 hh2 => compareD_any (.agg #[.bool g1, .slice a1 n1 p1, .int .i64 x1]) (.agg #[.bool g2, .slice a2 n2 p2, .int .i64 x2]) d1 d2 k w' h0 hh1 hh2 hm1' hm2' (by omega) (by omega) (by omega) (by omega) (by omega)
    generalize cmp d1 d2 = K at *
    have D1 := Lib.hid h1'.dv
    have D2 := Lib.hid h2'.dv
    have HOP := Lib.hid hop
    clear hop hm1 hm2 hm1' hm2' f1 f2 q1 q2 h1' h2' hc e e0
    go_enter Tryd.func33, Tryd.ntmps33
    go_wp2_with fail
    refine (CK.out _ (bl_alloc2 _ _ _)).mono ?_
    rintro r w1 ⟨rfl, hb⟩
    have B1 := Lib.hid (bl_thru (bl_alloc2 w _ _) (Nat.le_refl _) hb)
    have X1 := Lib.hid (((Box.new w _ _ _ _).alloc _).below hb)
    have Y1 := Lib.hid ((Box.new2 w _ _ _ _ _).below hb)
    obtain ⟨q0, q1, q2, f0, f1, f2⟩ := X1.out.cells
    obtain ⟨p0, p1', p2', g0, g1', g2'⟩ := Y1.out.cells
    clear hb
    go_wp2_with fail
    refine (HOP.out _ (HT.out.below B1.out) (D1.out.below B1.out) (D2.out.below B1.out)).mono ?_
    rintro r w2 ⟨rfl, hb⟩
    have B2 := Lib.hid (bl_thru B1.out (Nat.le_refl _) hb)
    clear hb
    go_wp2
    go_ret2
    exact ⟨rfl, B2.out⟩
  · have e0 : cmE c1 c2 d1 d2 = 0 := by unfold cmE; rw [if_neg hc]
    rw [e0]
    generalize ck2 c1 c2 = E at *
    have hE : (E != 0) = true := by rw [bne_iff_ne]; exact hc
    clear h1' h2' e0 hc
    go_enter Tryd.func33, Tryd.ntmps33
    go_wp2_with fail
    refine (CK.out _ (bl_alloc2 _ _ _)).mono ?_
    rintro r w1 ⟨rfl, hb⟩
    have B1 := Lib.hid (bl_thru (bl_alloc2 w _ _) (Nat.le_refl _) hb)
    clear hb
    go_wp2
    go_ret2
    exact ⟨rfl, B1.out⟩

/-- are all three fields the same? -/
def sameB (c d : D) : Bool := (c.neg == d.neg) && (c.e == d.e) && decide (c.m = d.m)
theorem sameB_iff {c d : D} : sameB c d = true ↔ c = d := by
  cases c; cases d; simp [sameB, and_assoc]
  exact fun _ => And.comm
theorem sameB_refl (d : D) : sameB d d = true := sameB_iff.2 rfl
set_option maxHeartbeats 4000000 in
theorem same_any (v1 v2 : Value) (d1 d2 : D) (w : World) (h1 : DV w v1 d1) (h2 : DV w v2 d2) :
    Calls Tryd.prog 30 #[v1, v2] w fun r w' => r = .returned (.bool (sameB d1 d2)) ∧ Below w.heap.size w w' := by
  obtain ⟨g1, m1, x1⟩ := d1
  obtain ⟨g2, m2, x2⟩ := d2
  obtain ⟨s1, rfl, hs1⟩ := h1
  obtain ⟨s2, rfl, hs2⟩ := h2
  simp only at *
  obtain ⟨a1, n1, p1, rfl⟩ := hs1.shape
  obtain ⟨a2, n2, p2, rfl⟩ := hs2.shape
  have heq := fun w' hb => equal_any (.slice a1 n1 p1) (.slice a2 n2 p2) m1 m2 w' (hs1.below (w' := w') hb) (hs2.below hb)
  have HEQ := Lib.hid heq
  clear heq hs1 hs2
  have hcase : (g1 = true ∧ g2 = false ∧ sameB ⟨g1, m1, x1⟩ ⟨g2, m2, x2⟩ = false) ∨ (g1 = false ∧ g2 = true ∧ sameB ⟨g1, m1, x1⟩ ⟨g2, m2, x2⟩ = false) ∨ ((g1 == g2) = true ∧ (x1 == x2) = false ∧ sameB ⟨g1, m1, x1⟩ ⟨g2, m2, x2⟩ = false) ∨
      ((g1 == g2) = true ∧ (x1 == x2) = true ∧ sameB ⟨g1, m1, x1⟩ ⟨g2, m2, x2⟩ = decide (m1 = m2)) := by
    unfold sameB
    simp only
    cases h : (x1 == x2) <;> cases g1 <;> cases g2 <;> simp
  generalize sameB ⟨g1, m1, x1⟩ ⟨g2, m2, x2⟩ = R at *
  rcases hcase with ⟨rfl, rfl, rfl⟩ | ⟨rfl, rfl, rfl⟩ | ⟨hg, hx, rfl⟩ | ⟨hg, hx, rfl⟩
  · go_enter Tryd.func30, Tryd.ntmps30
    go_wp2
    go_ret
    exact ⟨rfl, bl_alloc2 _ _ _⟩
  · go_enter Tryd.func30, Tryd.ntmps30
    go_wp2
    go_ret
    exact ⟨rfl, bl_alloc2 _ _ _⟩
  · obtain rfl : g1 = g2 := by simpa using hg
    cases g1
    all_goals
      go_enter Tryd.func30, Tryd.ntmps30
      go_wp2
      go_ret
      exact ⟨rfl, bl_alloc2 _ _ _⟩
  · obtain rfl : g1 = g2 := by simpa using hg
    obtain rfl : x1 = x2 := by simpa using hx
    generalize decide (m1 = m2) = R at *
    cases g1
    all_goals
      go_enter Tryd.func30, Tryd.ntmps30
      go_wp2_with fail
      refine (HEQ.out _ (bl_alloc2 _ _ _)).mono ?_
      rintro r w1 ⟨rfl, nw, rfl⟩
      go_wp2
      go_ret
      exact ⟨rfl, below_to_drewN (bl_alloc2 _ _ _)⟩

def shE (c n : Int) (S : D) : Int := if c = 0 then (if n < -20000 ∨ 20000 < n then 1 else fitE S) else c
def shR (c n : Int) (S : D) : D := if shE c n S = 0 then S else nz
set_option maxHeartbeats 4000000 in
theorem shift_any (v1 : Value) (c1 n : Int) (d1 : D) (w : World) (hT : Tab w) (h1 : RD w v1 c1 d1) (m0 : -9223372036854775808 ≤ n) (m1 : n ≤ 9223372036854775807) :
    Calls Tryd.prog 36 #[v1, .int .i64 n] w (RetR w (shE c1 n (norm d1.neg d1.m (d1.e + n))) (shR c1 n (norm d1.neg d1.m (d1.e + n)))) := by
  have hck := fun w' hb => (RD.below h1 (w' := w') hb).check
  have h1' := h1
  obtain ⟨g1, a1, n1, p1, x1, rfl, l1, l2, -, hd, -⟩ := h1
  have CK := Lib.hid hck
  have HT := Lib.hid hT
  clear hck hT
  by_cases hc : c1 = 0
  · subst hc
    obtain ⟨hv, rfl, rfl, hf⟩ := hd rfl
    obtain ⟨k1, hk1, hm1⟩ := fit_k hf
    have q1 := hf.2.2
    by_cases hn : n < -20000 ∨ 20000 < n
    · have e : shE 0 n (norm d1.neg d1.m (d1.e + n)) = 1 := by unfold shE; rw [if_pos rfl, if_pos hn]
      have e2 : shR 0 n (norm d1.neg d1.m (d1.e + n)) = nz := by unfold shR; rw [e]; rfl
      rw [e, e2]
      clear e e2 hv hd hf hm1 h1'
      rcases Int.lt_or_le n (-20000) with h | h
      all_goals
        first
          | have h2 : 20000 < n := by omega
          | skip
        clear hn
        go_enter Tryd.func36, Tryd.ntmps36
        go_wp2_with fail
        refine (CK.out _ (bl_alloc2 _ _ _)).mono ?_
        rintro r w1 ⟨rfl, hb⟩
        have B1 := Lib.hid (bl_thru (bl_alloc2 w _ _) (Nat.le_refl _) hb)
        have Z1 := Lib.hid ((Box.new2 w _ _ _ _ _).below hb)
        obtain ⟨s0, s1, s2, t0, t1, t2⟩ := Z1.out.cells
        clear hb
        go_wp2
        refine bodyPost_ret (v := .tuple #[.agg #[.bool false, .slice none 0 0, .int .i64 0], .int .i64 1]) (by simp [results, Tryd.results36, go_sem, s0, s1, s2]) rfl ?_
        exact ⟨none, 0, 0, rfl, NV.nil _, bl_set3 B1.out (by omega) _ _ _⟩
    · have e : shE 0 n (norm d1.neg d1.m (d1.e + n)) = fitE (norm d1.neg d1.m (d1.e + n)) := by unfold shE; rw [if_pos rfl, if_neg hn]
      have e2 : shR 0 n (norm d1.neg d1.m (d1.e + n)) = if fitE (norm d1.neg d1.m (d1.e + n)) = 0 then norm d1.neg d1.m (d1.e + n) else nz := by unfold shR; rw [e]
      rw [e, e2]
      have hbd := fun v w' hh => bounded_any v (norm d1.neg d1.m (d1.e + n)) w' hh
      have hop := fun w' h0 hh => dnorm_any d1.neg (.slice a1 n1 p1) d1.m k1 (d1.e + n) w' h0 hh hm1 (by omega) (by omega) (by omega)
      generalize norm d1.neg d1.m (d1.e + n) = S at *
      generalize hR : (if fitE S = 0 then S else nz) = R at *
      generalize fitE S = E at *
      have n0 : -20000 ≤ n := by omega
      have n1' : n ≤ 20000 := by omega
      have x0 : -10000 ≤ d1.e := by omega
      have x1' : d1.e ≤ 10000 := by omega
      generalize d1.e = x at *
      generalize d1.neg = g at *
      have HV := Lib.hid hv
      have HOP := Lib.hid hop
      have HBD := Lib.hid hbd
      clear hop hbd hv hd hf hm1 h1' e e2 hR hn q1
      go_enter Tryd.func36, Tryd.ntmps36
      go_wp2_with fail
      refine (CK.out _ (bl_alloc2 _ _ _)).mono ?_
      rintro r w1 ⟨rfl, hb⟩
      have B1 := Lib.hid (bl_thru (bl_alloc2 w _ _) (Nat.le_refl _) hb)
      have X1 := Lib.hid (((Box.new w _ _ _ _).alloc _).below hb)
      have Z1 := Lib.hid ((Box.new2 w _ _ _ _ _).below hb)
      obtain ⟨q0, q1, q2, f0, f1, f2⟩ := X1.out.cells
      clear hb
      go_wp2_with fail
      refine (HOP.out _ (HT.out.below B1.out) (HV.out.below B1.out)).mono ?_
      rintro r w2 ⟨v2, rfl, hv, hb⟩
      have B2 := Lib.hid (bl_thru B1.out (Nat.le_refl _) hb)
      have Z2 := Lib.hid (Z1.out.below hb)
      have HV2 := Lib.hid hv
      clear hv hb
      go_wp2_with fail
      refine (HBD.out _ _ HV2.out).mono ?_
      rintro r w3 ⟨a3, n3, c3, rfl, hv, hb⟩
      have B3 := Lib.hid (bl_thru B2.out (Nat.le_refl _) hb)
      have Z3 := Lib.hid (Z2.out.below hb)
      have HV3 := Lib.hid hv
      obtain ⟨s0, s1, s2, t0, t1, t2⟩ := Z3.out.cells
      clear hv hb
      go_wp2
      refine bodyPost_ret (v := .tuple #[.agg #[.bool R.neg, .slice a3 n3 c3, .int .i64 R.e], .int .i64 E]) (by simp [results, Tryd.results36, go_sem, s0, s1, s2]) rfl ?_
      exact ⟨a3, n3, c3, rfl, HV3.out.setD Z3.out, bl_set3 B3.out (by omega) _ _ _⟩
  · have e : shE c1 n (norm d1.neg d1.m (d1.e + n)) = c1 := by unfold shE; rw [if_neg hc]
    have e2 : shR c1 n (norm d1.neg d1.m (d1.e + n)) = nz := by unfold shR; rw [e, if_neg hc]
    rw [e, e2]
    have hE : (c1 != 0) = true := by rw [bne_iff_ne]; exact hc
    clear h1' hd e e2 hc
    go_enter Tryd.func36, Tryd.ntmps36
    go_wp2_with fail
    refine (CK.out _ (bl_alloc2 _ _ _)).mono ?_
    rintro r w1 ⟨rfl, hb⟩
    have B1 := Lib.hid (bl_thru (bl_alloc2 w _ _) (Nat.le_refl _) hb)
    have Z1 := Lib.hid ((Box.new2 w _ _ _ _ _).below hb)
    obtain ⟨s0, s1, s2, t0, t1, t2⟩ := Z1.out.cells
    clear hb
    go_wp2
    refine bodyPost_ret (v := .tuple #[.agg #[.bool false, .slice none 0 0, .int .i64 0], .int .i64 c1]) (by simp [results, Tryd.results36, go_sem, s0, s1, s2]) rfl ?_
    exact ⟨none, 0, 0, rfl, NV.nil _, bl_set3 B1.out (by omega) _ _ _⟩
end Go.Proofs.YtdknfdncgmeimaaDoor

/-
  THE WALK of dyad.Make.
-/
namespace Go.Proofs.YtdknfdncgmeimaaDoor
open Go.RowKit Nt Fm

def mkE (g : Bool) (l : List Nat) (x : Int) : Int := if checkN l = 0 then (if x < -10000 ∨ 10000 < x then 1 else fitE (norm g (val l) x)) else checkN l
def mkR (g : Bool) (l : List Nat) (x : Int) : D := if mkE g l x = 0 then norm g (val l) x else nz
theorem mkR_fit (g : Bool) (l : List Nat) (x : Int) : Fit (mkR g l x) := by
  unfold mkR
  split
  · rename_i h
    unfold mkE at h
    split at h
    · split at h
      · omega
      · exact fitE_fit (norm_nf _ _ _) h
    · contradiction
  · exact Fit.nz
set_option maxHeartbeats 4000000 in
theorem make_any (g : Bool) (v : Value) (l : List Nat) (x : Int) (w : World) (hT : Tab w) (hv : Lim w v l) (x0 : -9223372036854775808 ≤ x) (x1 : x ≤ 9223372036854775807) :
    Calls Tryd.prog 37 #[.bool g, v, .int .i64 x] w (RetR w (mkE g l x) (mkR g l x)) := by
  have hck := fun w' (h : Below w.heap.size w w') => natCheck_any v l w' (hv.below h)
  have hv' := hv
  obtain ⟨hl, ao, cap, rfl, h1, h2, h3⟩ := hv
  clear h3
  have CK := Lib.hid hck
  have HT := Lib.hid hT
  clear hck hT h2
  by_cases hc : checkN l = 0
  · rw [hc] at CK
    obtain ⟨hn, hlen⟩ := checkN_nrm hc hl
    by_cases hx : x < -10000 ∨ 10000 < x
    · have e : mkE g l x = 1 := by unfold mkE; rw [if_pos hc, if_pos hx]
      have e2 : mkR g l x = nz := by unfold mkR; rw [e]; rfl
      rw [e, e2]
      clear e e2 hc hv'
      rcases Int.lt_or_le x (-10000) with h | h
      all_goals
        first
          | have h2 : 10000 < x := by omega
          | skip
        clear hx
        go_enter Tryd.func37, Tryd.ntmps37
        go_wp2_with fail
        refine (CK.out _ ((Below.refl _ _).alloc (Nat.le_refl _) _)).mono ?_
        rintro r w1 ⟨rfl, rfl⟩
        go_wp2
        refine bodyPost_ret (v := .tuple #[.agg #[.bool false, .slice none 0 0, .int .i64 0], .int .i64 1]) (by simp [results, Tryd.results37, go_sem]) rfl ?_
        exact ⟨none, 0, 0, rfl, NV.nil _, by go_grown⟩
    · have e : mkE g l x = fitE (norm g (val l) x) := by unfold mkE; rw [if_pos hc, if_neg hx]
      have e2 : mkR g l x = if fitE (norm g (val l) x) = 0 then norm g (val l) x else nz := by unfold mkR; rw [e]
      rw [e, e2]
      obtain ⟨k, hk, hm⟩ : ∃ k, k ≤ 20000 ∧ val l < 2 ^ k := ⟨32 * l.length, by omega, val_lt hl⟩
      have hbd := fun v w' hh => bounded_any v (norm g (val l) x) w' hh
      have hop := fun w' h0 hh => dnorm_any g (.slice ao l.length cap) (val l) k x w' h0 hh hm (by omega) (by omega) (by omega)
      have hnv := hv'.nrm hn
      generalize norm g (val l) x = S at *
      generalize hR : (if fitE S = 0 then S else nz) = R at *
      generalize fitE S = E at *
      have y0 : -10000 ≤ x := by omega
      have y1 : x ≤ 10000 := by omega
      have HV := Lib.hid hnv
      have HOP := Lib.hid hop
      have HBD := Lib.hid hbd
      clear hop hbd hnv hv' hm e e2 hR hx hc
      go_enter Tryd.func37, Tryd.ntmps37
      go_wp2_with fail
      refine (CK.out _ ((Below.refl _ _).alloc (Nat.le_refl _) _)).mono ?_
      rintro r w1 ⟨rfl, rfl⟩
      go_wp2_with fail
      refine (HOP.out _ (HT.out.alloc _) (HV.out.alloc _)).mono ?_
      rintro r w2 ⟨v2, rfl, hv, hb⟩
      have B2 := Lib.hid (bl_thru ((Below.refl w.heap.size w).alloc (Nat.le_refl _) _) (Nat.le_refl _) hb)
      have Z2 := Lib.hid ((Box.new w _ _ _ _).below hb)
      have HV2 := Lib.hid hv
      clear hv hb
      go_wp2_with fail
      refine (HBD.out _ _ HV2.out).mono ?_
      rintro r w3 ⟨a3, n3, c3, rfl, hv, hb⟩
      have B3 := Lib.hid (bl_thru B2.out (Nat.le_refl _) hb)
      have Z3 := Lib.hid (Z2.out.below hb)
      have HV3 := Lib.hid hv
      obtain ⟨s0, s1, s2, t0, t1, t2⟩ := Z3.out.cells
      clear hv hb
      go_wp2
      refine bodyPost_ret (v := .tuple #[.agg #[.bool R.neg, .slice a3 n3 c3, .int .i64 R.e], .int .i64 E]) (by simp [results, Tryd.results37, go_sem, s0, s1, s2]) rfl ?_
      exact ⟨a3, n3, c3, rfl, HV3.out.setD Z3.out, bl_set3 B3.out (Nat.le_refl _) _ _ _⟩
  · have e : mkE g l x = checkN l := by unfold mkE; rw [if_neg hc]
    have e2 : mkR g l x = nz := by unfold mkR; rw [e, if_neg hc]
    rw [e, e2]
    generalize checkN l = E at *
    have hE : (E != 0) = true := by rw [bne_iff_ne]; exact hc
    clear e e2 hc hv'
    go_enter Tryd.func37, Tryd.ntmps37
    go_wp2_with fail
    refine (CK.out _ ((Below.refl _ _).alloc (Nat.le_refl _) _)).mono ?_
    rintro r w1 ⟨rfl, rfl⟩
    go_wp2
    refine bodyPost_ret (v := .tuple #[.agg #[.bool false, .slice none 0 0, .int .i64 0], .int .i64 E]) (by simp [results, Tryd.results37, go_sem]) rfl ?_
    exact ⟨none, 0, 0, rfl, NV.nil _, by go_grown⟩
end Go.Proofs.YtdknfdncgmeimaaDoor

/-
  A FIELD of a struct that lies in no memory.
-/
namespace Go.Proofs.YtdknfdncgmeimaaDoor
open Go.RowKit Nt Fm

theorem run_field2 (g : Bool) (s : Value) (e : Int) (w : World) : Sem.run Tryd.prog (Instr.field 25 (.agg #[.bool g, s, .int .i64 e]) 2) w = .ok (.int .i64 e) w := by
  first | kernel_rfl | (simp [Instr.field, go_sem, Tryd.underlying25]; trace_state)
end Go.Proofs.YtdknfdncgmeimaaDoor

/-
  THE WALK of the law's own 'value'; floats that are in order as exact numbers.
-/
namespace Go.Proofs.YtdknfdncgmeimaaDoor
open Go.RowKit Nt Fm Fl

theorem fit_of {d : D} {k : Nat} (hn : d.Nf) (hk : k ≤ 12800) (hm : d.m < 2 ^ k) (h0 : -10000 ≤ d.e) (h1 : d.e ≤ 10000) : Fit d :=
  ⟨hn, @lt_pow _ k 12800 hm hk, h0, h1⟩
theorem ofD_fit (x : Int) (x0 : 0 ≤ x) (x1 : x ≤ 18446744073709551615) : Fit (ofD x) := by
  obtain ⟨a, b, c, d, -⟩ := valD_facts x x0 x1
  unfold ofD
  split
  · exact fit_of a (by omega) b (by omega) (by omega)
  · exact Fit.nz
theorem nv_of_rd {w : World} {g : Bool} {a : Option Addr} {n c : Nat} {x : Int} {d : D} (h : RD w (.agg #[.bool g, .slice a n c, .int .i64 x]) 0 d) : NV w (.slice a n c) d.m := by
  obtain ⟨s, h1, h2⟩ := h.dv
  simp only [Value.agg.injEq, Array.mk.injEq, List.cons.injEq, Value.bool.injEq, Value.int.injEq, and_true, true_and] at h1
  rw [h1.2.1]; exact h2
set_option maxHeartbeats 2000000 in
theorem valu_any (x : Int) (x0 : 0 ≤ x) (x1 : x ≤ 18446744073709551615) (w : World) (hT : Tab w) :
    Calls Tryd.prog 52 #[.int .u64 x] w (RetDB w (ofD x) (hasV x)) := by
  have hof := fun w' h => of_any x x0 x1 w' h
  have hcase : (hasV x = true ∧ ofE x = 0) ∨ (hasV x = false ∧ ofE x = 4) := by
    unfold ofE; cases hasV x
    · right; exact ⟨rfl, rfl⟩
    · left; exact ⟨rfl, rfl⟩
  generalize ofD x = d at *
  generalize ofE x = E at *
  generalize hasV x = b at *
  have HT := Lib.hid hT
  clear hT
  rcases hcase with ⟨rfl, rfl⟩ | ⟨rfl, rfl⟩
  · have HOF := Lib.hid hof
    clear hof
    go_enter Tryd.func52, Tryd.ntmps52
    go_wp2_with fail
    refine (HOF.out _ (HT.out.alloc _)).mono ?_
    rintro r w1 ⟨v, rfl, ⟨s, rfl, hv⟩, hb⟩
    obtain ⟨ao, n, c, rfl⟩ := hv.shape
    have B1 : Hid (Below w.heap.size w w1) := Lib.hid (bl_thru ((Below.refl w.heap.size w).alloc (Nat.le_refl _) _) (Nat.le_refl _) hb)
    have Z1 := Lib.hid ((Box.new w _ _ _ _).below hb)
    have Z2 := Lib.hid (Z1.out.alloc (.cells #[.bool d.neg, .slice ao n c, .int .i64 d.e] 25))
    have V1 := Lib.hid (hv.alloc (.cells #[.bool d.neg, .slice ao n c, .int .i64 d.e] 25))
    have X1 := Lib.hid (Box.new w1 (.bool d.neg) (.slice ao n c) (.int .i64 d.e) 25)
    obtain ⟨q0, q1, q2, f0, f1, f2⟩ := X1.out.cells
    obtain ⟨p0, p1, p2, g0, g1, g2⟩ := Z2.out.cells
    have hz := Z1.out.lt
    have hz2 : w.heap.size ≠ w1.heap.size := by omega
    obtain ⟨y0, y1, y2, y3, y4, y5⟩ := Z1.out.cells
    have Z4 := Lib.hid ((Z1.out.set3 (.bool d.neg) (.slice ao n c) (.int .i64 d.e)).alloc (.cells #[.bool d.neg, .slice ao n c, .int .i64 d.e] 25))
    have V4 := Lib.hid ((hv.setD (g' := d.neg) (ao' := ao) (n' := n) (c' := c) (e' := d.e) Z1.out).alloc (.cells #[.bool d.neg, .slice ao n c, .int .i64 d.e] 25))
    have B4 := Lib.hid ((bl_set3 B1.out (Nat.le_refl _) (.bool d.neg) (.slice ao n c) (.int .i64 d.e)).alloc (by have := B1.out.size; simp [World.setCell]; exact this) (.cells #[.bool d.neg, .slice ao n c, .int .i64 d.e] 25))
    clear hv hb
    go_wp2
    obtain ⟨r0, r1, r2, r3, r4, r5⟩ := Z4.out.cells
    refine bodyPost_ret (v := .tuple #[.agg #[.bool d.neg, .slice ao n c, .int .i64 d.e], .bool true]) (by simp [results, Tryd.results52, go_sem, r0, r1, r2]) rfl ?_
    exact ⟨ao, n, c, rfl, V4.out, B4.out⟩
  · have HOF := Lib.hid hof
    clear hof
    go_enter Tryd.func52, Tryd.ntmps52
    go_wp2_with fail
    refine (HOF.out _ (HT.out.alloc _)).mono ?_
    rintro r w1 ⟨v, rfl, ⟨s, rfl, hv⟩, hb⟩
    obtain ⟨ao, n, c, rfl⟩ := hv.shape
    have B1 : Hid (Below w.heap.size w w1) := Lib.hid (bl_thru ((Below.refl w.heap.size w).alloc (Nat.le_refl _) _) (Nat.le_refl _) hb)
    have Z1 := Lib.hid ((Box.new w _ _ _ _).below hb)
    have Z2 := Lib.hid (Z1.out.alloc (.cells #[.bool d.neg, .slice ao n c, .int .i64 d.e] 25))
    have V1 := Lib.hid (hv.alloc (.cells #[.bool d.neg, .slice ao n c, .int .i64 d.e] 25))
    have X1 := Lib.hid (Box.new w1 (.bool d.neg) (.slice ao n c) (.int .i64 d.e) 25)
    obtain ⟨q0, q1, q2, f0, f1, f2⟩ := X1.out.cells
    obtain ⟨p0, p1, p2, g0, g1, g2⟩ := Z2.out.cells
    have hz := Z1.out.lt
    have hz2 : w.heap.size ≠ w1.heap.size := by omega
    obtain ⟨y0, y1, y2, y3, y4, y5⟩ := Z1.out.cells
    have Z4 := Lib.hid ((Z1.out.set3 (.bool d.neg) (.slice ao n c) (.int .i64 d.e)).alloc (.cells #[.bool d.neg, .slice ao n c, .int .i64 d.e] 25))
    have V4 := Lib.hid ((hv.setD (g' := d.neg) (ao' := ao) (n' := n) (c' := c) (e' := d.e) Z1.out).alloc (.cells #[.bool d.neg, .slice ao n c, .int .i64 d.e] 25))
    have B4 := Lib.hid ((bl_set3 B1.out (Nat.le_refl _) (.bool d.neg) (.slice ao n c) (.int .i64 d.e)).alloc (by have := B1.out.size; simp [World.setCell]; exact this) (.cells #[.bool d.neg, .slice ao n c, .int .i64 d.e] 25))
    clear hv hb
    go_wp2
    obtain ⟨r0, r1, r2, r3, r4, r5⟩ := Z4.out.cells
    refine bodyPost_ret (v := .tuple #[.agg #[.bool d.neg, .slice ao n c, .int .i64 d.e], .bool false]) (by simp [results, Tryd.results52, go_sem, r0, r1, r2]) rfl ?_
    exact ⟨ao, n, c, rfl, V4.out, B4.out⟩
end Go.Proofs.YtdknfdncgmeimaaDoor
