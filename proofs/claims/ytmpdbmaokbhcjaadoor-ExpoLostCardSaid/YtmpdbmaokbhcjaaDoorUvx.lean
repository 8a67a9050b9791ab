/-
  SOME OF MY TEXTS in one: Uv Uw Ux Uy. Each says what it proves.
-/
import Derived.Test.YtmpdbmaokbhcjaaDoorUsu
import Derived.Test.YtmpdbmaokbhcjaaDoorBa
set_option linter.unusedVariables false
set_option linter.unusedSimpArgs false
/-
  PLAIN: the laws of expo.
-/
namespace Go.Proofs.YtmpdbmaokbhcjaaDoor
open Go.RowKit Nt Fm Fl
open Ea (tw Lo Hi)

/-- in this mode the number at the cut is rounded to what has the rank of r -/
def Rw (c : Cut) (mode r : Int) : Prop := ∃ L H : D, c.lb (rv L) ∧ c.ub (rv H) ∧ frank (numR L mode) = frank r ∧ frank (numR H mode) = frank r ∧ frerr r = 0
theorem Rn.rw' {c : Cut} {mode r : Int} (h : Rn c mode r) : Rw c mode r := by
  have hb := h.bd
  obtain ⟨L, H, a1, a2, a3, a4, -⟩ := h
  exact ⟨L, H, a1, a2, by rw [a3], by rw [a4], hb.2.2⟩
theorem Rw.order {c c' : Cut} {mode r r' : Int} (h : ∀ a b, c.lb a → c'.ub b → a ≤ b) (h1 : Rw c mode r) (h2 : Rw c' mode r') : frank r ≤ frank r' := by
  obtain ⟨L, H, a1, -, a3, -⟩ := h1
  obtain ⟨L', H', -, b2, -, b4, -⟩ := h2
  rw [← a3, ← b4]
  exact rank_rv mode (h _ _ a1 b2)
/-- no less than a number that is a lower bound, no more than one that is an upper bound -/
theorem Rw.ge {c : Cut} {mode r : Int} {z : D} (h : ∀ b, c.ub b → rv z ≤ b) (h1 : Rw c mode r) : frank (numR z mode) ≤ frank r := by
  obtain ⟨L, H, -, b2, -, b4, -⟩ := h1
  rw [← b4]
  exact rank_rv mode (h _ b2)
theorem Rw.le {c : Cut} {mode r : Int} {z : D} (h : ∀ a, c.lb a → a ≤ rv z) (h1 : Rw c mode r) : frank r ≤ frank (numR z mode) := by
  obtain ⟨L, H, a1, -, a3, -⟩ := h1
  rw [← a3]
  exact rank_rv mode (h _ a1)
/-- a number with a value -/
def FinV (x : Int) : Prop := 0 ≤ x ∧ x ≤ 18446744073709551615 ∧ fabs x < 9218868437227405312
theorem Fin0.fin {x : Int} (h : Fin0 x) : FinV x := ⟨h.1, h.2.1, h.2.2.1⟩
theorem FinV.zero {x : Int} (h : FinV x) : (fcls x = 1 ∧ fabs x = 0) ∨ (fcls x ≠ 1 ∧ Fin0 x) := by
  by_cases e : fabs x = 0
  · left; refine ⟨?_, e⟩; unfold fcls; rw [if_pos e]
  · right
    have f0 : Fin0 x := ⟨h.1, h.2.1, h.2.2, e⟩
    exact ⟨(fin0_cls f0).2.1, f0⟩
theorem rank0 {x : Int} (h : fabs x = 0) : frank x = 0 ∧ frerr x = 0 := by
  unfold frank frerr
  rw [h]
  constructor
  · rw [if_neg (by decide)]; split <;> decide
  · rw [if_neg (by decide)]
theorem val0 {x : Int} (h : FinV x) (h0 : fabs x = 0) : rv (valD x) = 0 := by
  obtain ⟨x0, x1, x2⟩ := h
  have a := (val_rank x0 x1 (y := 0) (by decide) (by decide) x2 (by decide)).2 (by rw [(rank0 h0).1]; decide)
  have b := (val_rank (x := 0) (by decide) (by decide) x0 x1 (by decide) x2).2 (by rw [(rank0 h0).1]; decide)
  have e : rv (valD 0) = 0 := by
    have : valD 0 = nz := by kernel_rfl
    rw [this]
    unfold rv nz D.sm
    show ((0 : Int) : Rat) * _ = 0
    have e0 : ((0 : Int) : Rat) = 0 := rfl
    rw [e0, Rat.zero_mul]
  rw [e] at a b
  grind
/-- who has a rank -/
theorem rank_ways {x : Int} (u0 : 0 ≤ x) (u1 : x ≤ 18446744073709551615) (h : frerr x = 0) : FinV x ∨ (x = 9218868437227405312 ∧ frank x = 9218868437227405312) ∨ (x = 18442240474082181120 ∧ frank x = -9218868437227405312) := by
  have hb := fabs_bd x
  unfold frerr at h
  by_cases h1 : fabs x < 9218868437227405312
  · exact Or.inl ⟨u0, u1, h1⟩
  · right
    have : fabs x = 9218868437227405312 := by split at h <;> omega
    have h4 : fcls x = 4 := by unfold fcls; rw [if_neg (by omega), if_neg (by omega), if_neg (by omega), if_pos this]
    rcases inf_two u0 u1 h4 with rfl | rfl
    · exact Or.inl ⟨rfl, by decide⟩
    · exact Or.inr ⟨rfl, by decide⟩
theorem rv_nz : rv nz = 0 := by
  unfold rv nz D.sm
  show ((0 : Int) : Rat) * _ = 0
  have e0 : ((0 : Int) : Rat) = 0 := rfl
  rw [e0, Rat.zero_mul]
theorem rank_nz (mode : Int) : frank (numR nz mode) = 0 := by
  rw [(rank_numR nz mode).1]
  unfold rg numk nz
  simp
theorem rank_oneD (mode : Int) : frank (numR (norm false 1 0) mode) = frank 4607182418800017408 := by
  rw [← val_one]; exact rank_val (by decide) (by decide) (by decide) mode
theorem rank_moneD (mode : Int) : frank (numR (opp (norm false 1 0)) mode) = frank 13830554455654793216 := by
  rw [← val_mone]; exact rank_val (by decide) (by decide) (by decide) mode
/-- the answers -/
theorem xp_rw {x mode : Int} (hk : knownB mode = true) (h : FinV x) : Rw (cutE (rv (valD x))) mode (xpV x mode) := by
  rcases h.zero with ⟨h1, h0⟩ | ⟨-, f0⟩
  · rw [(xp_zero hk h1).1, val0 h h0]
    exact ⟨norm false 1 0, norm false 1 0, by rw [rv_oneD]; exact Ea.lo_zero, by rw [rv_oneD]; exact Ea.hi_zero, rank_oneD mode, rank_oneD mode, by decide⟩
  · rw [(xp_fin hk f0).1]
    exact (rnV_rn (exp_ex f0 mode)).rw'
theorem x1_rw {x mode : Int} (hk : knownB mode = true) (h : FinV x) : Rw (cutX (rv (valD x))) mode (x1V x mode) := by
  rcases h.zero with ⟨h1, h0⟩ | ⟨-, f0⟩
  · rw [(x1_zero hk h1).1, val0 h h0]
    have e : (0 : Rat) + 1 = 1 := by grind
    refine ⟨nz, nz, ?_, ?_, by rw [rank_nz, (rank0 h0).1], by rw [rank_nz, (rank0 h0).1], (rank0 h0).2⟩
    · show Lo 0 (_ + 1)
      rw [rv_nz, e]; exact Ea.lo_zero
    · show Hi 0 (_ + 1)
      rw [rv_nz, e]; exact Ea.hi_zero
  · rw [(x1_fin hk f0).1]
    exact (rnV_rn (expm1_ex f0 mode)).rw'
theorem lg_rw {x mode : Int} (hk : knownB mode = true) (h : Fin0 x) (h0 : x < 9223372036854775808) : Rw (cutL (rv (valD x))) mode (lgV x mode) := by
  by_cases h1 : x = 4607182418800017408
  · subst h1
    rw [(lgx_one hk).1, val_one, rv_oneD]
    exact ⟨nz, nz, by rw [rv_nz]; exact Ea.hi_zero, by rw [rv_nz]; exact Ea.lo_zero, by rw [rank_nz]; decide, by rw [rank_nz]; decide, by decide⟩
  · rw [(lg_fin hk h h0 h1).1]
    exact (rnV_rn (log_ex h (pos_of h h0) (fun e => h1 (one_of_val h e h0)) mode)).rw'
theorem lp_rw {x mode : Int} (hk : knownB mode = true) (h : FinV x) (h0 : x < 13830554455654793216) : Rw (cutL (1 + rv (valD x))) mode (lpV x mode) := by
  rcases h.zero with ⟨h1, hz⟩ | ⟨-, f0⟩
  · rw [(lp_self hk h0 (Or.inl h1)).1, val0 h hz]
    have e : (1 : Rat) + 0 = 1 := by grind
    rw [e]
    exact ⟨nz, nz, by rw [rv_nz]; exact Ea.hi_zero, by rw [rv_nz]; exact Ea.lo_zero, by rw [rank_nz, (rank0 hz).1], by rw [rank_nz, (rank0 hz).1], (rank0 hz).2⟩
  · rw [(lp_fin hk f0 h0).1]
    exact (rnV_rn (log1p_ex f0 (above_mone f0 h0) mode)).rw'
theorem cutE_le {x y : Rat} (h : x ≤ y) : ∀ a b, (cutE x).lb a → (cutE y).ub b → a ≤ b := fun a b h1 h2 => Ea.lo_hi (Ea.lo_mono h1 h) h2
theorem cutX_le {x y : Rat} (h : x ≤ y) : ∀ a b, (cutX x).lb a → (cutX y).ub b → a ≤ b := fun a b h1 h2 => by
  have := Ea.lo_hi (Ea.lo_mono h1 h) h2
  grind
theorem cutL_le {x y : Rat} (h : x ≤ y) : ∀ a b, (cutL x).lb a → (cutL y).ub b → a ≤ b := fun a b h1 h2 => by
  refine Rat.not_lt.1 fun e => ?_
  have h1' : Hi a x := h1
  have := Ea.lo_hi_lt e (by have := h1'.pos; grind) h2 h1'
  grind
theorem rank_in {x : Int} (h : FinV x) : -9218868437227405312 < frank x ∧ frank x < 9218868437227405312 := by
  have := fabs_bd x
  have h2 := h.2.2
  unfold frank
  rw [if_neg (by omega)]
  split <;> omega
/-- of what is more no less comes -/
theorem xp_order {x y mode : Int} (hk : knownB mode = true) (u0 : 0 ≤ x) (u1 : x ≤ 18446744073709551615) (v0 : 0 ≤ y) (v1 : y ≤ 18446744073709551615) (hx : frerr x = 0) (hy : frerr y = 0) (h : frank x ≤ frank y) : frank (xpV x mode) ≤ frank (xpV y mode) := by
  rcases rank_ways v0 v1 hy with fy | ⟨rfl, ry⟩ | ⟨rfl, ry⟩
  · rcases rank_ways u0 u1 hx with fx | ⟨rfl, rx⟩ | ⟨rfl, rx⟩
    · exact Rw.order (cutE_le ((val_rank u0 u1 v0 v1 fx.2.2 fy.2.2).2 h)) (xp_rw hk fx) (xp_rw hk fy)
    · have := rank_in fy; omega
    · rw [(xp_minf hk).1]
      have := Rw.ge (z := nz) (fun b hb => by rw [rv_nz]; exact Rat.le_of_lt (Hi.pos hb)) (xp_rw hk fy)
      rw [rank_nz] at this
      exact this
  · rw [(xp_inf hk).1]; have := frank_bd (xpV x mode); omega
  · rw [ry] at h
    rcases rank_ways u0 u1 hx with fx | ⟨rfl, rx⟩ | ⟨rfl, rx⟩
    · have := rank_in fx; omega
    · rw [rx] at h; omega
    · exact Int.le_refl _
theorem x1_order {x y mode : Int} (hk : knownB mode = true) (u0 : 0 ≤ x) (u1 : x ≤ 18446744073709551615) (v0 : 0 ≤ y) (v1 : y ≤ 18446744073709551615) (hx : frerr x = 0) (hy : frerr y = 0) (h : frank x ≤ frank y) : frank (x1V x mode) ≤ frank (x1V y mode) := by
  rcases rank_ways v0 v1 hy with fy | ⟨rfl, ry⟩ | ⟨rfl, ry⟩
  · rcases rank_ways u0 u1 hx with fx | ⟨rfl, rx⟩ | ⟨rfl, rx⟩
    · exact Rw.order (cutX_le ((val_rank u0 u1 v0 v1 fx.2.2 fy.2.2).2 h)) (x1_rw hk fx) (x1_rw hk fy)
    · have := rank_in fy; omega
    · rw [(x1_minf hk).1, ← rank_moneD mode]
      refine Rw.ge (z := opp (norm false 1 0)) (fun b hb => ?_) (x1_rw hk fy)
      rw [rv_mone]
      have := Hi.pos hb
      grind
  · rw [(x1_inf hk).1]; have := frank_bd (x1V x mode); omega
  · rw [ry] at h
    rcases rank_ways u0 u1 hx with fx | ⟨rfl, rx⟩ | ⟨rfl, rx⟩
    · have := rank_in fx; omega
    · rw [rx] at h; omega
    · exact Int.le_refl _
theorem nan_err : frerr 9221120237041090560 ≠ 0 := by decide
theorem neg_rank {x : Int} (h : Fin0 x) : (x < 9223372036854775808 → 0 < frank x) ∧ (9223372036854775808 ≤ x → frank x < 0) := by
  obtain ⟨a, b, c, d⟩ := h
  have := fabs_bd x
  unfold frank
  rw [if_neg (by omega)]
  constructor
  · intro h; rw [if_neg (by omega)]; omega
  · intro h; rw [if_pos h]; omega
theorem lg_order {x y mode : Int} (hk : knownB mode = true) (u0 : 0 ≤ x) (u1 : x ≤ 18446744073709551615) (v0 : 0 ≤ y) (v1 : y ≤ 18446744073709551615) (hx : frerr x = 0) (hy : frerr y = 0) (h : frank x ≤ frank y)
    (ex : frerr (lgV x mode) = 0) (ey : frerr (lgV y mode) = 0) : frank (lgV x mode) ≤ frank (lgV y mode) := by
  have bot : frank 18442240474082181120 = -9218868437227405312 := by decide
  rcases rank_ways u0 u1 hx with fx | ⟨rfl, rx⟩ | ⟨rfl, rx⟩
  · rcases fx.zero with ⟨h1, hz⟩ | ⟨h1, f0⟩
    · rw [(lg_zero hk h1).1, bot]; have := frank_bd (lgV y mode); omega
    · by_cases hn : 9223372036854775808 ≤ x
      · rw [(lg_nan hk h1 (Or.inr hn)).1] at ex; exact absurd ex nan_err
      · have px := (neg_rank f0).1 (by omega)
        rcases rank_ways v0 v1 hy with fy | ⟨rfl, ry⟩ | ⟨rfl, ry⟩
        · rcases fy.zero with ⟨g1, gz⟩ | ⟨g1, g0⟩
          · have := (rank0 gz).1; omega
          · have hy0 : y < 9223372036854775808 := by
              refine Int.not_le.1 fun e => ?_
              have := (neg_rank g0).2 e
              omega
            exact Rw.order (cutL_le ((val_rank u0 u1 v0 v1 fx.2.2 fy.2.2).2 h)) (lg_rw hk f0 (by omega)) (lg_rw hk g0 hy0)
        · rw [(lg_inf hk).1]; have := frank_bd (lgV x mode); omega
        · omega
  · rcases rank_ways v0 v1 hy with fy | ⟨rfl, ry⟩ | ⟨rfl, ry⟩
    · have := rank_in fy; omega
    · exact Int.le_refl _
    · omega
  · rw [(lg_nan hk (by decide) (Or.inr (by decide))).1] at ex; exact absurd ex nan_err
theorem lp_order {x y mode : Int} (hk : knownB mode = true) (u0 : 0 ≤ x) (u1 : x ≤ 18446744073709551615) (v0 : 0 ≤ y) (v1 : y ≤ 18446744073709551615) (hx : frerr x = 0) (hy : frerr y = 0) (h : frank x ≤ frank y)
    (ex : frerr (lpV x mode) = 0) (ey : frerr (lpV y mode) = 0) : frank (lpV x mode) ≤ frank (lpV y mode) := by
  have bot : frank 18442240474082181120 = -9218868437227405312 := by decide
  by_cases xn : 13830554455654793216 < x
  · rw [(lp_nan hk (Or.inr xn)).1] at ex; exact absurd ex nan_err
  by_cases yn : 13830554455654793216 < y
  · rw [(lp_nan hk (Or.inr yn)).1] at ey; exact absurd ey nan_err
  by_cases xm : x = 13830554455654793216
  · subst xm
    rw [(lp_mone hk).1, bot]; have := frank_bd (lpV y mode); omega
  rcases rank_ways v0 v1 hy with fy | ⟨rfl, ry⟩ | ⟨rfl, ry⟩
  · rcases rank_ways u0 u1 hx with fx | ⟨rfl, rx⟩ | ⟨rfl, rx⟩
    · by_cases ym : y = 13830554455654793216
      · exfalso
        subst ym
        have e2 : frank 13830554455654793216 = -4607182418800017408 := by decide
        have := fx.2.2
        have := fabs_bd x
        rw [e2] at h
        unfold frank at h
        unfold fabs at *
        rw [if_neg (by omega)] at h
        split at h <;> omega
      · have hl := (val_rank u0 u1 v0 v1 fx.2.2 fy.2.2).2 h
        exact Rw.order (cutL_le (by grind)) (lp_rw hk fx (by omega)) (lp_rw hk fy (by omega))
    · have := rank_in fy; omega
    · omega
  · rw [(lp_self hk (by decide) (Or.inr rfl)).1]; have := frank_bd (lpV x mode); omega
  · omega
end Go.Proofs.YtmpdbmaokbhcjaaDoor

/-
  PLAIN: the laws of expo: sides, what is lost, there and back, bounds.
-/
namespace Go.Proofs.YtmpdbmaokbhcjaaDoor
open Go.RowKit Nt Fm Fl
open Ea (tw Lo Hi)

/-- either a cut, rounded, or the same in each mode -/
def Ans (V : Int → Int) (C : Bool) : Prop := (C = true ∧ ∃ c : Cut, (∀ m, knownB m = true → Rn c m (V m)) ∧ V 0 = V 4) ∨ (C = false ∧ ∀ m m', knownB m = true → knownB m' = true → V m = V m')
theorem Ans.sides {V : Int → Int} {C : Bool} (h : Ans V C) : (C = true → (V 0 = V 2 ∨ V 0 = V 1) ∧ frank (V 1) = frank (V 2) + 1) ∧ (C = false → V 0 = V 2 ∧ V 1 = V 2) := by
  rcases h with ⟨rfl, c, h, -⟩ | ⟨rfl, h⟩
  · refine ⟨fun _ => ?_, fun h => absurd h (by decide)⟩
    have := Rn.sides (h 2 (by decide)) (h 0 (by decide)) (h 1 (by decide))
    exact ⟨this.2, this.1⟩
  · exact ⟨fun h => absurd h (by decide), fun _ => ⟨h 0 2 (by decide) (by decide), h 1 2 (by decide) (by decide)⟩⟩
theorem Ans.near {V : Int → Int} {C : Bool} (h : Ans V C) : V 0 = V 4 := by
  rcases h with ⟨-, c, -, h⟩ | ⟨-, h⟩
  · exact h
  · exact h 0 4 (by decide) (by decide)
theorem huge_same : numR ⟨false, 1, 2000⟩ 0 = numR ⟨false, 1, 2000⟩ 4 := by decide +kernel
theorem tiny_same : numR ⟨false, 1, -2000⟩ 0 = numR ⟨false, 1, -2000⟩ 4 := by decide +kernel
theorem mone_same : numR (besD (opp (norm false 1 0)) 1) 0 = numR (besD (opp (norm false 1 0)) 1) 4 := by decide +kernel
theorem exp_near {x : Int} (h : Fin0 x) : rnV (cutE (rv (valD x))) 0 = rnV (cutE (rv (valD x))) 4 := by
  have hm := h.m
  obtain ⟨b1, b2, b3, -⟩ := h.bd
  rcases Int.lt_or_le (topD (valD x)) 10 with ht | ht
  · exact Rn.lind (noE hm b1 (by omega) (abs_2048 hm ht)) (rnV_rn (exp_ex h 0)) (rnV_rn (exp_ex h 4))
  · cases hg : (valD x).neg
    · rw [rnV_is (wayE_huge hm hg ht 0).1.1, rnV_is (wayE_huge hm hg ht 4).1.1, huge_same]
    · rw [rnV_is (wayE_tiny hm hg ht 0).1, rnV_is (wayE_tiny hm hg ht 4).1, tiny_same]
theorem expm1_near {x : Int} (h : Fin0 x) : rnV (cutX (rv (valD x))) 0 = rnV (cutX (rv (valD x))) 4 := by
  have hm := h.m
  obtain ⟨b1, b2, b3, -⟩ := h.bd
  rcases Int.lt_or_le (topD (valD x)) 10 with ht | ht
  · exact Rn.lind (noM hm b1 (by omega) (abs_2048 hm ht)) (rnV_rn (expm1_ex h 0)) (rnV_rn (expm1_ex h 4))
  · cases hg : (valD x).neg
    · rw [rnV_is (wayE_huge hm hg ht 0).2, rnV_is (wayE_huge hm hg ht 4).2, huge_same]
    · rw [rnV_is (wayM_one hm hg (by omega) 0).1, rnV_is (wayM_one hm hg (by omega) 4).1, mone_same]
theorem log_near {x : Int} (h : Fin0 x) (h0 : 0 < rv (valD x)) (h1 : rv (valD x) ≠ 1) : rnV (cutL (rv (valD x))) 0 = rnV (cutL (rv (valD x))) 4 := by
  obtain ⟨b1, b2, b3, -⟩ := h.bd
  exact Rn.lind (noL h0 b1 (by omega) (by omega) h1) (rnV_rn (log_ex h h0 h1 0)) (rnV_rn (log_ex h h0 h1 4))
theorem one_vl (p : Nat) : (norm false 1 0).vl p = ((2 ^ p : Nat) : Int) := by
  rw [norm_vl _ _ _ _ (by omega)]
  unfold D.vl D.sm
  simp
theorem incD_bd2 {x : Int} (h : Fin0 x) (ht : topD (valD x) < -60) : (incD x).m < 2 ^ 1280 ∧ -3000 ≤ (incD x).e ∧ (incD x).e ≤ 3000 := by
  obtain ⟨b1, b2, b3, b4⟩ := h.bd
  have e1 : (norm false 1 0).e = 0 := by decide +kernel
  have hv : ((valD x).vl 1074).natAbs < 2 ^ 1014 := by
    rw [vl_natAbs]
    have h0 : (valD x).m < 2 ^ blen (valD x).m := bl_lt _
    have h2 := Nat.mul_lt_mul_of_pos_right h0 (Nat.two_pow_pos ((valD x).e + ((1074 : Nat) : Int)).toNat)
    rw [← Nat.pow_add] at h2
    refine Nat.lt_of_lt_of_le h2 (u_mono _ 1014 ?_)
    unfold topD at ht
    omega
  have v1 := one_vl 1074
  have hp : ((incD x).vl 1074).natAbs < 2 ^ 1075 := by
    unfold incD
    rw [plus_vl _ _ _ (by omega) (by omega), v1]
    have h3 := u_mono 1014 1074 (by decide)
    have h4 : 2 ^ 1075 = 2 * 2 ^ 1074 := by have := Nat.pow_succ (n := 2) (m := 1074); omega
    generalize 2 ^ 1014 = A at *
    generalize 2 ^ 1075 = B at *
    generalize 2 ^ 1074 = C at *
    omega
  have := bd_of_vl (d := incD x) (p := 1074) (K := 1075) (plus_Nf _ _) (plus_eP (by omega) (by omega)) hp
  exact ⟨@lt_pow _ 1075 1280 this.1 (by decide), by omega, by omega⟩
theorem rv_ne {x : Int} (h : Fin0 x) : rv (valD x) ≠ 0 := fun e0 => by
  have a := abs_rv (valD x)
  have b := (top_bd h.m).1
  have c := Ea.tw_pos (topD (valD x))
  have a0 : (0 : Rat).abs = 0 := Rat.abs_of_nonneg (by decide)
  rw [e0, a0] at a
  grind
theorem log1p_near {x : Int} (h : Fin0 x) (h0 : -1 < rv (valD x)) : rnV (cutL (1 + rv (valD x))) 0 = rnV (cutL (1 + rv (valD x))) 4 := by
  have hb : (incD x).m < 2 ^ 1280 ∧ -3000 ≤ (incD x).e ∧ (incD x).e ≤ 3000 := by
    rcases Int.lt_or_le (topD (valD x)) (-60) with ht | ht
    · exact incD_bd2 h ht
    · obtain ⟨a, b, c, -⟩ := incD_bd h ht; exact ⟨a, b, c⟩
  have hne := rv_ne h
  have hno := noL (d := incD x) (by rw [rv_incD]; grind) hb.1 hb.2.1 hb.2.2 (by rw [rv_incD]; grind)
  rw [rv_incD] at hno
  exact Rn.lind hno (rnV_rn (log1p_ex h h0 0)) (rnV_rn (log1p_ex h h0 4))
theorem finB_iff {x : Int} (u0 : 0 ≤ x) (u1 : x ≤ 18446744073709551615) : finB x = true ↔ Fin0 x := ⟨fun h => ⟨u0, u1, (of_decide_eq_true h).1, (of_decide_eq_true h).2⟩, finB_t⟩
theorem finB_no {x : Int} (u0 : 0 ≤ x) (u1 : x ≤ 18446744073709551615) (h : ¬ Fin0 x) : finB x = false := by
  cases hb : finB x
  · rfl
  · exact absurd ((finB_iff u0 u1).1 hb) h
theorem not_fin {x : Int} (u0 : 0 ≤ x) (u1 : x ≤ 18446744073709551615) (h : ¬ Fin0 x) : fcls x = 5 ∨ fcls x = 1 ∨ x = 9218868437227405312 ∨ x = 18442240474082181120 := by
  by_cases h5 : fcls x = 5
  · exact Or.inl h5
  by_cases h1 : fcls x = 1
  · exact Or.inr (Or.inl h1)
  by_cases h4 : fcls x = 4
  · right; right; exact inf_two u0 u1 h4
  · exact absurd (fin0_of u0 u1 h5 h1 h4) h
theorem xp_ans {x : Int} (u0 : 0 ≤ x) (u1 : x ≤ 18446744073709551615) : Ans (fun m => xpV x m) (finB x) := by
  by_cases hf : Fin0 x
  · left
    refine ⟨finB_t hf, cutE (rv (valD x)), fun m hm => ?_, ?_⟩
    · simp only; rw [(xp_fin hm hf).1]; exact rnV_rn (exp_ex hf m)
    · simp only; rw [(xp_fin (by decide) hf).1, (xp_fin (by decide) hf).1]; exact exp_near hf
  · right
    refine ⟨finB_no u0 u1 hf, fun m m' hm hm' => ?_⟩
    simp only
    rcases not_fin u0 u1 hf with h | h | rfl | rfl
    · rw [(xp_nan hm h).1, (xp_nan hm' h).1]
    · rw [(xp_zero hm h).1, (xp_zero hm' h).1]
    · rw [(xp_inf hm).1, (xp_inf hm').1]
    · rw [(xp_minf hm).1, (xp_minf hm').1]
theorem x1_ans {x : Int} (u0 : 0 ≤ x) (u1 : x ≤ 18446744073709551615) : Ans (fun m => x1V x m) (finB x) := by
  by_cases hf : Fin0 x
  · left
    refine ⟨finB_t hf, cutX (rv (valD x)), fun m hm => ?_, ?_⟩
    · simp only; rw [(x1_fin hm hf).1]; exact rnV_rn (expm1_ex hf m)
    · simp only; rw [(x1_fin (by decide) hf).1, (x1_fin (by decide) hf).1]; exact expm1_near hf
  · right
    refine ⟨finB_no u0 u1 hf, fun m m' hm hm' => ?_⟩
    simp only
    rcases not_fin u0 u1 hf with h | h | rfl | rfl
    · rw [(x1_nan hm h).1, (x1_nan hm' h).1]
    · rw [(x1_zero hm h).1, (x1_zero hm' h).1]
    · rw [(x1_inf hm).1, (x1_inf hm').1]
    · rw [(x1_minf hm).1, (x1_minf hm').1]
theorem lg_ans {x : Int} (u0 : 0 ≤ x) (u1 : x ≤ 18446744073709551615) : Ans (fun m => lgV x m) (finB x && decide (x < 9223372036854775808 ∧ x ≠ 4607182418800017408)) := by
  by_cases hf : Fin0 x
  · by_cases h0 : x < 9223372036854775808
    · by_cases h1 : x = 4607182418800017408
      · right
        refine ⟨by rw [decide_eq_false (by omega)]; simp, fun m m' hm hm' => ?_⟩
        simp only
        subst h1
        rw [(lgx_one hm).1, (lgx_one hm').1]
      · left
        have hp := pos_of hf h0
        have hne : rv (valD x) ≠ 1 := fun e => h1 (one_of_val hf e h0)
        refine ⟨by rw [finB_t hf, decide_eq_true ⟨h0, h1⟩]; rfl, cutL (rv (valD x)), fun m hm => ?_, ?_⟩
        · simp only; rw [(lg_fin hm hf h0 h1).1]; exact rnV_rn (log_ex hf hp hne m)
        · simp only; rw [(lg_fin (by decide) hf h0 h1).1, (lg_fin (by decide) hf h0 h1).1]; exact log_near hf hp hne
    · right
      refine ⟨by rw [decide_eq_false (by omega)]; simp, fun m m' hm hm' => ?_⟩
      simp only
      rw [(lg_nan hm (fin0_cls hf).2.1 (Or.inr (by omega))).1, (lg_nan hm' (fin0_cls hf).2.1 (Or.inr (by omega))).1]
  · right
    have hb : finB x = false := finB_no u0 u1 hf
    refine ⟨by rw [hb]; rfl, fun m m' hm hm' => ?_⟩
    simp only
    rcases not_fin u0 u1 hf with h | h | rfl | rfl
    · rw [(lg_nan hm (by omega) (Or.inl h)).1, (lg_nan hm' (by omega) (Or.inl h)).1]
    · rw [(lg_zero hm h).1, (lg_zero hm' h).1]
    · rw [(lg_inf hm).1, (lg_inf hm').1]
    · rw [(lg_nan hm (by decide) (Or.inr (by decide))).1, (lg_nan hm' (by decide) (Or.inr (by decide))).1]
theorem lp_ans {x : Int} (u0 : 0 ≤ x) (u1 : x ≤ 18446744073709551615) : Ans (fun m => lpV x m) (finB x && decide (x < 13830554455654793216)) := by
  by_cases hn : 13830554455654793216 < x
  · right
    refine ⟨by rw [decide_eq_false (by omega)]; simp, fun m m' hm hm' => ?_⟩
    simp only
    rw [(lp_nan hm (Or.inr hn)).1, (lp_nan hm' (Or.inr hn)).1]
  by_cases he : x = 13830554455654793216
  · right
    refine ⟨by rw [decide_eq_false (by omega)]; simp, fun m m' hm hm' => ?_⟩
    simp only
    subst he
    rw [(lp_mone hm).1, (lp_mone hm').1]
  have hlt : x < 13830554455654793216 := by omega
  by_cases hf : Fin0 x
  · left
    have hp := above_mone hf hlt
    refine ⟨by rw [finB_t hf, decide_eq_true hlt]; rfl, cutL (1 + rv (valD x)), fun m hm => ?_, ?_⟩
    · simp only; rw [(lp_fin hm hf hlt).1]; exact rnV_rn (log1p_ex hf hp m)
    · simp only; rw [(lp_fin (by decide) hf hlt).1, (lp_fin (by decide) hf hlt).1]; exact log1p_near hf hp
  · right
    have hb : finB x = false := finB_no u0 u1 hf
    refine ⟨by rw [hb]; rfl, fun m m' hm hm' => ?_⟩
    simp only
    rcases not_fin u0 u1 hf with h | h | rfl | rfl
    · rw [(lp_nan hm (Or.inl h)).1, (lp_nan hm' (Or.inl h)).1]
    · rw [(lp_self hm hlt (Or.inl h)).1, (lp_self hm' hlt (Or.inl h)).1]
    · rw [(lp_self hm hlt (Or.inr rfl)).1, (lp_self hm' hlt (Or.inr rfl)).1]
    · omega
/-- rounded down it is no more than it was, up no less -/
theorem dn_rank (d : D) : frank (numR d 2) ≤ 9218868437227405311 := by
  rw [(rank_numR d 2).1]
  unfold rg
  cases hg : d.neg
  · simp only [Bool.false_eq_true, if_false]
    have k1 : kd false 2 = 0 := by decide
    rw [k1]
    obtain ⟨t, h1, -⟩ := exT (d.e + 1074) (d.e + 1074)
    have := (numk_iff h1 0 _).1 (Nat.le_refl (numk 0 d.m d.e))
    have hMR : MR = 9218868437227405312 := rfl
    simp only [Pk] at this
    omega
  · simp only [if_true]; omega
theorem up_rank (d : D) : -9218868437227405311 ≤ frank (numR d 1) := by
  rw [(rank_numR d 1).1]
  unfold rg
  cases hg : d.neg
  · simp only [Bool.false_eq_true, if_false]; omega
  · simp only [if_true]
    have k1 : kd true 1 = 0 := by decide
    rw [k1]
    obtain ⟨t, h1, -⟩ := exT (d.e + 1074) (d.e + 1074)
    have := (numk_iff h1 0 _).1 (Nat.le_refl (numk 0 d.m d.e))
    have hMR : MR = 9218868437227405312 := rfl
    simp only [Pk] at this
    omega
theorem Rn.down {c : Cut} {r : Int} (hc : ∀ a a', c.lb a → a' ≤ a → c.lb a') (h : Rn c 2 r) : frank r ≤ 9218868437227405311 ∧ (fabs r < 9218868437227405312 → c.lb (rv (valD r))) := by
  obtain ⟨L, H, a1, a2, a3, a4, -⟩ := h
  rw [← a3]
  exact ⟨dn_rank L, fun hv => hc _ _ a1 (down_le hv)⟩
theorem Rn.up {c : Cut} {r : Int} (hc : ∀ a a', c.ub a → a ≤ a' → c.ub a') (h : Rn c 1 r) : -9218868437227405311 ≤ frank r ∧ (fabs r < 9218868437227405312 → c.ub (rv (valD r))) := by
  obtain ⟨L, H, a1, a2, a3, a4, -⟩ := h
  rw [← a4]
  exact ⟨up_rank H, fun hv => hc _ _ a2 (up_ge hv)⟩
theorem cutL_lb (A : Rat) : ∀ a a', (cutL A).lb a → a' ≤ a → (cutL A).lb a' := fun a a' h h1 => Ea.hi_mono h h1
theorem cutL_ub (A : Rat) : ∀ a a', (cutL A).ub a → a ≤ a' → (cutL A).ub a' := fun a a' h h1 => Ea.lo_mono h h1
theorem cutE_lb (A : Rat) : ∀ a a', (cutE A).lb a → a' ≤ a → (cutE A).lb a' := fun a a' h h1 => Lo.le h h1
theorem cutE_ub (A : Rat) : ∀ a a', (cutE A).ub a → a ≤ a' → (cutE A).ub a' := fun a a' h h1 => Hi.le h h1
theorem cutX_lb (A : Rat) : ∀ a a', (cutX A).lb a → a' ≤ a → (cutX A).lb a' := fun a a' h h1 => Lo.le h (by grind)
theorem cutX_ub (A : Rat) : ∀ a a', (cutX A).ub a → a ≤ a' → (cutX A).ub a' := fun a a' h h1 => Hi.le h (by grind)
end Go.Proofs.YtmpdbmaokbhcjaaDoor

/-
  PLAIN: the laws of expo: there and back, bounds.
-/
namespace Go.Proofs.YtmpdbmaokbhcjaaDoor
open Go.RowKit Nt Fm Fl
open Ea (tw Lo Hi)

theorem k1 : knownB 1 = true := by decide
theorem k2 : knownB 2 = true := by decide
/-- what is rounded down lies below -/
theorem xp_dn {x : Int} (h : FinV x) : frank (xpV x 2) ≤ 9218868437227405311 ∧ (fabs (xpV x 2) < 9218868437227405312 → Lo (rv (valD x)) (rv (valD (xpV x 2)))) := by
  rcases h.zero with ⟨h1, h0⟩ | ⟨-, f0⟩
  · rw [(xp_zero k2 h1).1, val0 h h0, val_one, rv_oneD]
    exact ⟨by decide, fun _ => Ea.lo_zero⟩
  · rw [(xp_fin k2 f0).1]; exact (rnV_rn (exp_ex f0 2)).down (cutE_lb _)
theorem xp_up {x : Int} (h : FinV x) : -9218868437227405311 ≤ frank (xpV x 1) ∧ (fabs (xpV x 1) < 9218868437227405312 → Hi (rv (valD x)) (rv (valD (xpV x 1)))) := by
  rcases h.zero with ⟨h1, h0⟩ | ⟨-, f0⟩
  · rw [(xp_zero k1 h1).1, val0 h h0, val_one, rv_oneD]
    exact ⟨by decide, fun _ => Ea.hi_zero⟩
  · rw [(xp_fin k1 f0).1]; exact (rnV_rn (exp_ex f0 1)).up (cutE_ub _)
theorem x1_dn {x : Int} (h : FinV x) : frank (x1V x 2) ≤ 9218868437227405311 ∧ (fabs (x1V x 2) < 9218868437227405312 → Lo (rv (valD x)) (rv (valD (x1V x 2)) + 1)) := by
  rcases h.zero with ⟨h1, h0⟩ | ⟨-, f0⟩
  · rw [(x1_zero k2 h1).1, val0 h h0]
    refine ⟨by rw [(rank0 h0).1]; decide, fun _ => ?_⟩
    have e : (0 : Rat) + 1 = 1 := by grind
    rw [e]; exact Ea.lo_zero
  · rw [(x1_fin k2 f0).1]; exact (rnV_rn (expm1_ex f0 2)).down (cutX_lb _)
theorem x1_up {x : Int} (h : FinV x) : -9218868437227405311 ≤ frank (x1V x 1) ∧ (fabs (x1V x 1) < 9218868437227405312 → Hi (rv (valD x)) (rv (valD (x1V x 1)) + 1)) := by
  rcases h.zero with ⟨h1, h0⟩ | ⟨-, f0⟩
  · rw [(x1_zero k1 h1).1, val0 h h0]
    refine ⟨by rw [(rank0 h0).1]; decide, fun _ => ?_⟩
    have e : (0 : Rat) + 1 = 1 := by grind
    rw [e]; exact Ea.hi_zero
  · rw [(x1_fin k1 f0).1]; exact (rnV_rn (expm1_ex f0 1)).up (cutX_ub _)
theorem v_zero : rv (valD 0) = 0 := val0 ⟨by decide, by decide, by decide⟩ (by decide)
theorem lg_dn {x : Int} (h : Fin0 x) (h0 : x < 9223372036854775808) : frank (lgV x 2) ≤ 9218868437227405311 ∧ (fabs (lgV x 2) < 9218868437227405312 → Hi (rv (valD (lgV x 2))) (rv (valD x))) := by
  by_cases h1 : x = 4607182418800017408
  · subst h1
    rw [(lgx_one k2).1, val_one, rv_oneD, v_zero]
    exact ⟨by decide, fun _ => Ea.hi_zero⟩
  · rw [(lg_fin k2 h h0 h1).1]; exact (rnV_rn (log_ex h (pos_of h h0) (fun e => h1 (one_of_val h e h0)) 2)).down (cutL_lb _)
theorem lg_up {x : Int} (h : Fin0 x) (h0 : x < 9223372036854775808) : -9218868437227405311 ≤ frank (lgV x 1) ∧ (fabs (lgV x 1) < 9218868437227405312 → Lo (rv (valD (lgV x 1))) (rv (valD x))) := by
  by_cases h1 : x = 4607182418800017408
  · subst h1
    rw [(lgx_one k1).1, val_one, rv_oneD, v_zero]
    exact ⟨by decide, fun _ => Ea.lo_zero⟩
  · rw [(lg_fin k1 h h0 h1).1]; exact (rnV_rn (log_ex h (pos_of h h0) (fun e => h1 (one_of_val h e h0)) 1)).up (cutL_ub _)
theorem lp_dn {x : Int} (h : FinV x) (h0 : x < 13830554455654793216) : frank (lpV x 2) ≤ 9218868437227405311 ∧ (fabs (lpV x 2) < 9218868437227405312 → Hi (rv (valD (lpV x 2))) (1 + rv (valD x))) := by
  rcases h.zero with ⟨h1, hz⟩ | ⟨-, f0⟩
  · rw [(lp_self k2 h0 (Or.inl h1)).1, val0 h hz]
    refine ⟨by rw [(rank0 hz).1]; decide, fun _ => ?_⟩
    have e : (1 : Rat) + 0 = 1 := by grind
    rw [e]; exact Ea.hi_zero
  · rw [(lp_fin k2 f0 h0).1]; exact (rnV_rn (log1p_ex f0 (above_mone f0 h0) 2)).down (cutL_lb _)
theorem lp_up {x : Int} (h : FinV x) (h0 : x < 13830554455654793216) : -9218868437227405311 ≤ frank (lpV x 1) ∧ (fabs (lpV x 1) < 9218868437227405312 → Lo (rv (valD (lpV x 1))) (1 + rv (valD x))) := by
  rcases h.zero with ⟨h1, hz⟩ | ⟨-, f0⟩
  · rw [(lp_self k1 h0 (Or.inl h1)).1, val0 h hz]
    refine ⟨by rw [(rank0 hz).1]; decide, fun _ => ?_⟩
    have e : (1 : Rat) + 0 = 1 := by grind
    rw [e]; exact Ea.lo_zero
  · rw [(lp_fin k1 f0 h0).1]; exact (rnV_rn (log1p_ex f0 (above_mone f0 h0) 1)).up (cutL_ub _)
/-- all values are 64 bits -/
theorem xp_u {x mode : Int} (u0 : 0 ≤ x) (u1 : x ≤ 18446744073709551615) : 0 ≤ xpV x mode ∧ xpV x mode ≤ 18446744073709551615 := by
  unfold xpV
  split
  · rename_i hk
    split
    · omega
    · split
      · omega
      · split
        · omega
        · split
          · omega
          · rename_i h5 h1 h2 h3
            have f0 : Fin0 x := fin0_of u0 u1 h5 h1 (fun h4 => by rcases inf_two u0 u1 h4 with h | h <;> contradiction)
            have := (rnV_rn (exp_ex f0 mode)).bd
            omega
  · omega
theorem x1_u {x mode : Int} (u0 : 0 ≤ x) (u1 : x ≤ 18446744073709551615) : 0 ≤ x1V x mode ∧ x1V x mode ≤ 18446744073709551615 := by
  unfold x1V
  split
  · rename_i hk
    split
    · omega
    · split
      · omega
      · split
        · omega
        · split
          · omega
          · rename_i h5 h1 h2 h3
            have f0 : Fin0 x := fin0_of u0 u1 h5 h1 (fun h4 => by rcases inf_two u0 u1 h4 with h | h <;> contradiction)
            have := (rnV_rn (expm1_ex f0 mode)).bd
            omega
  · omega
theorem lg_u {x mode : Int} (u0 : 0 ≤ x) (u1 : x ≤ 18446744073709551615) : 0 ≤ lgV x mode ∧ lgV x mode ≤ 18446744073709551615 := by
  unfold lgV
  split
  · rename_i hk
    split
    · omega
    · split
      · omega
      · split
        · omega
        · split
          · omega
          · rename_i h1 h5 h2 h3
            have f0 : Fin0 x := fin0_of u0 u1 (fun h => h5 (Or.inl h)) h1 (fun h4 => by rcases inf_two u0 u1 h4 with h | h <;> omega)
            have := (rnV_rn (log_ex f0 (pos_of f0 (by omega)) (fun e => h3 (one_of_val f0 e (by omega))) mode)).bd
            omega
  · omega
theorem lp_u {x mode : Int} (u0 : 0 ≤ x) (u1 : x ≤ 18446744073709551615) : 0 ≤ lpV x mode ∧ lpV x mode ≤ 18446744073709551615 := by
  unfold lpV
  split
  · rename_i hk
    split
    · omega
    · split
      · omega
      · split
        · omega
        · rename_i h5 h2 h1
          have f0 : Fin0 x := fin0_of u0 u1 (fun h => h5 (Or.inl h)) (fun h => h1 (Or.inl h)) (fun h4 => by rcases inf_two u0 u1 h4 with h | h <;> omega)
          have := (rnV_rn (log1p_ex f0 (above_mone f0 (by omega)) mode)).bd
          omega
  · omega
/-- all but what is no number have a rank -/
theorem rank_up {r : Int} (u0 : 0 ≤ r) (u1 : r ≤ 18446744073709551615) (he : frerr r = 0) (h : frank r ≤ 9218868437227405311) : FinV r ∨ r = 18442240474082181120 := by
  rcases rank_ways u0 u1 he with f | ⟨rfl, e⟩ | ⟨rfl, e⟩
  · exact Or.inl f
  · omega
  · exact Or.inr rfl
theorem rank_dn {r : Int} (u0 : 0 ≤ r) (u1 : r ≤ 18446744073709551615) (he : frerr r = 0) (h : -9218868437227405311 ≤ frank r) : FinV r ∨ r = 9218868437227405312 := by
  rcases rank_ways u0 u1 he with f | ⟨rfl, e⟩ | ⟨rfl, e⟩
  · exact Or.inl f
  · exact Or.inr rfl
  · omega
theorem Rw.err {c : Cut} {mode r : Int} (h : Rw c mode r) : frerr r = 0 := by obtain ⟨L, H, -, -, -, -, h⟩ := h; exact h
theorem nonneg_lt {r : Int} (h : Fin0 r) (h0 : 0 ≤ rv (valD r)) : r < 9223372036854775808 := by
  refine Int.not_le.1 fun e => ?_
  have : rv (valD r) < 0 := rv_of_neg (by rw [h.neg]; unfold fng; exact decide_eq_true e) h.m
  grind
theorem gt_mone {r : Int} (h : FinV r) (h0 : -1 < rv (valD r)) : r < 13830554455654793216 := by
  obtain ⟨a, b, c⟩ := h
  refine Int.not_le.1 fun e => ?_
  have : rv (valD r) ≤ rv (valD 13830554455654793216) := (val_rank a b (by decide) (by decide) c (by decide)).2 (by
    have e2 : frank 13830554455654793216 = -4607182418800017408 := by decide
    rw [e2]
    unfold frank
    unfold fabs at c ⊢
    rw [if_neg (by omega), if_pos (by omega)]
    omega)
  rw [val_mone, rv_mone] at this
  grind
theorem lt_lo_hi {x y a : Rat} (h1 : Hi x a) (h2 : Lo y a) : x ≤ y := by
  refine Rat.not_lt.1 fun e => ?_
  have := Ea.lo_hi_lt e h1.pos h2 h1
  grind
/-- e to it, and the logarithm of that -/
theorem back_el {x : Int} (u0 : 0 ≤ x) (u1 : x ≤ 18446744073709551615) (hx : frerr x = 0) :
    (frerr (lgV (xpV x 2) 2) = 0 → frank (lgV (xpV x 2) 2) ≤ frank x) ∧ (frerr (lgV (xpV x 1) 1) = 0 → frank x ≤ frank (lgV (xpV x 1) 1)) := by
  have bot : frank 18442240474082181120 = -9218868437227405312 := by decide
  have b1 := frank_bd x
  rcases rank_ways u0 u1 hx with fx | ⟨rfl, rx⟩ | ⟨rfl, rx⟩
  · constructor
    · intro hz
      obtain ⟨d1, d2⟩ := xp_dn fx
      have hu := xp_u (mode := 2) u0 u1
      have he := (xp_rw (mode := 2) k2 fx).err
      generalize xpV x 2 = r at *
      rcases rank_up hu.1 hu.2 he d1 with fr | rfl
      · rcases fr.zero with ⟨g1, g0⟩ | ⟨-, f0⟩
        · rw [(lg_zero k2 g1).1, bot]; omega
        · have hl := d2 fr.2.2
          by_cases hn : 9223372036854775808 ≤ r
          · rw [(lg_nan k2 (fin0_cls f0).2.1 (Or.inr hn)).1] at hz; exact absurd hz nan_err
          · have := Rw.le (z := valD x) (fun a ha => lt_lo_hi ha hl) (lg_rw (mode := 2) k2 f0 (by omega))
            rwa [rank_val u0 u1 fx.2.2] at this
      · rw [(lg_nan k2 (by decide) (Or.inr (by decide))).1] at hz; exact absurd hz nan_err
    · intro hz
      obtain ⟨d1, d2⟩ := xp_up fx
      have hu := xp_u (mode := 1) u0 u1
      have he := (xp_rw (mode := 1) k1 fx).err
      generalize xpV x 1 = r at *
      rcases rank_dn hu.1 hu.2 he d1 with fr | rfl
      · have hl := d2 fr.2.2
        have hp := hl.pos
        rcases fr.zero with ⟨g1, g0⟩ | ⟨-, f0⟩
        · rw [val0 fr g0] at hp; grind
        · have := Rw.ge (z := valD x) (fun b hb => lt_lo_hi hl hb) (lg_rw (mode := 1) k1 f0 (nonneg_lt f0 (Rat.le_of_lt hp)))
          rwa [rank_val u0 u1 fx.2.2] at this
      · rw [(lg_inf k1).1]; exact b1.2
  · rw [(xp_inf k2).1, (xp_inf k1).1, (lg_inf k2).1, (lg_inf k1).1]
    exact ⟨fun _ => Int.le_refl _, fun _ => Int.le_refl _⟩
  · rw [(xp_minf k2).1, (xp_minf k1).1, (lg_zero k2 (by decide)).1, (lg_zero k1 (by decide)).1]
    exact ⟨fun _ => Int.le_refl _, fun _ => Int.le_refl _⟩
theorem back_le {x : Int} (u0 : 0 ≤ x) (u1 : x ≤ 18446744073709551615) (hx : frerr x = 0) :
    (frerr (xpV (lgV x 2) 2) = 0 → frank (xpV (lgV x 2) 2) ≤ frank x) ∧ (frerr (xpV (lgV x 1) 1) = 0 → frank x ≤ frank (xpV (lgV x 1) 1)) := by
  have b1 := frank_bd x
  have xnan : ∀ m, knownB m = true → frerr (xpV 9221120237041090560 m) ≠ 0 := fun m hm => by rw [(xp_nan hm (by decide)).1]; exact nan_err
  have z0 : frank 0 = 0 := by decide
  rcases rank_ways u0 u1 hx with fx | ⟨rfl, rx⟩ | ⟨rfl, rx⟩
  · rcases fx.zero with ⟨g1, g0⟩ | ⟨g1, f0⟩
    · rw [(lg_zero k2 g1).1, (lg_zero k1 g1).1, (xp_minf k2).1, (xp_minf k1).1, (rank0 g0).1, z0]
      exact ⟨fun _ => Int.le_refl _, fun _ => Int.le_refl _⟩
    · by_cases hn : 9223372036854775808 ≤ x
      · rw [(lg_nan k2 g1 (Or.inr hn)).1, (lg_nan k1 g1 (Or.inr hn)).1]
        exact ⟨fun h => absurd h (xnan 2 k2), fun h => absurd h (xnan 1 k1)⟩
      · have px := (neg_rank f0).1 (by omega)
        constructor
        · intro hz
          obtain ⟨d1, d2⟩ := lg_dn f0 (by omega)
          have hu := lg_u (mode := 2) u0 u1
          have he := (lg_rw (mode := 2) k2 f0 (by omega)).err
          generalize lgV x 2 = r at *
          rcases rank_up hu.1 hu.2 he d1 with fr | rfl
          · have hl := d2 fr.2.2
            have := Rw.le (z := valD x) (fun a ha => Ea.lo_hi ha hl) (xp_rw (mode := 2) k2 fr)
            rwa [rank_val u0 u1 fx.2.2] at this
          · rw [(xp_minf k2).1, z0]; omega
        · intro hz
          obtain ⟨d1, d2⟩ := lg_up f0 (by omega)
          have hu := lg_u (mode := 1) u0 u1
          have he := (lg_rw (mode := 1) k1 f0 (by omega)).err
          generalize lgV x 1 = r at *
          rcases rank_dn hu.1 hu.2 he d1 with fr | rfl
          · have hl := d2 fr.2.2
            have := Rw.ge (z := valD x) (fun b hb => Ea.lo_hi hl hb) (xp_rw (mode := 1) k1 fr)
            rwa [rank_val u0 u1 fx.2.2] at this
          · rw [(xp_inf k1).1]; exact b1.2
  · rw [(lg_inf k2).1, (lg_inf k1).1, (xp_inf k2).1, (xp_inf k1).1]
    exact ⟨fun _ => Int.le_refl _, fun _ => Int.le_refl _⟩
  · rw [(lg_nan k2 (by decide) (Or.inr (by decide))).1, (lg_nan k1 (by decide) (Or.inr (by decide))).1]
    exact ⟨fun h => absurd h (xnan 2 k2), fun h => absurd h (xnan 1 k1)⟩
theorem back_xp {x : Int} (u0 : 0 ≤ x) (u1 : x ≤ 18446744073709551615) (hx : frerr x = 0) :
    (frerr (lpV (x1V x 2) 2) = 0 → frank (lpV (x1V x 2) 2) ≤ frank x) ∧ (frerr (lpV (x1V x 1) 1) = 0 → frank x ≤ frank (lpV (x1V x 1) 1)) := by
  have bot : frank 18442240474082181120 = -9218868437227405312 := by decide
  have b1 := frank_bd x
  rcases rank_ways u0 u1 hx with fx | ⟨rfl, rx⟩ | ⟨rfl, rx⟩
  · constructor
    · intro hz
      obtain ⟨d1, d2⟩ := x1_dn fx
      have hu := x1_u (mode := 2) u0 u1
      have he := (x1_rw (mode := 2) k2 fx).err
      generalize x1V x 2 = r at *
      by_cases hn : 13830554455654793216 < r
      · rw [(lp_nan k2 (Or.inr hn)).1] at hz; exact absurd hz nan_err
      by_cases hm : r = 13830554455654793216
      · subst hm; rw [(lp_mone k2).1, bot]; omega
      rcases rank_up hu.1 hu.2 he d1 with fr | rfl
      · have hl := d2 fr.2.2
        have := Rw.le (z := valD x) (fun a ha => lt_lo_hi ha (by rw [show 1 + rv (valD r) = rv (valD r) + 1 by grind]; exact hl)) (lp_rw (mode := 2) k2 fr (by omega))
        rwa [rank_val u0 u1 fx.2.2] at this
      · omega
    · intro hz
      obtain ⟨d1, d2⟩ := x1_up fx
      have hu := x1_u (mode := 1) u0 u1
      have he := (x1_rw (mode := 1) k1 fx).err
      generalize x1V x 1 = r at *
      rcases rank_dn hu.1 hu.2 he d1 with fr | rfl
      · have hl := d2 fr.2.2
        have hp := hl.pos
        have := Rw.ge (z := valD x) (fun b hb => lt_lo_hi (by rw [show 1 + rv (valD r) = rv (valD r) + 1 by grind]; exact hl) hb) (lp_rw (mode := 1) k1 fr (gt_mone fr (by grind)))
        rwa [rank_val u0 u1 fx.2.2] at this
      · rw [(lp_self k1 (by decide) (Or.inr rfl)).1]; exact b1.2
  · rw [(x1_inf k2).1, (x1_inf k1).1, (lp_self k2 (by decide) (Or.inr rfl)).1, (lp_self k1 (by decide) (Or.inr rfl)).1]
    exact ⟨fun _ => Int.le_refl _, fun _ => Int.le_refl _⟩
  · rw [(x1_minf k2).1, (x1_minf k1).1, (lp_mone k2).1, (lp_mone k1).1]
    exact ⟨fun _ => Int.le_refl _, fun _ => Int.le_refl _⟩
theorem back_px {x : Int} (u0 : 0 ≤ x) (u1 : x ≤ 18446744073709551615) (hx : frerr x = 0) :
    (frerr (x1V (lpV x 2) 2) = 0 → frank (x1V (lpV x 2) 2) ≤ frank x) ∧ (frerr (x1V (lpV x 1) 1) = 0 → frank x ≤ frank (x1V (lpV x 1) 1)) := by
  have b1 := frank_bd x
  have xnan : ∀ m, knownB m = true → frerr (x1V 9221120237041090560 m) ≠ 0 := fun m hm => by rw [(x1_nan hm (by decide)).1]; exact nan_err
  by_cases hn : 13830554455654793216 < x
  · rw [(lp_nan k2 (Or.inr hn)).1, (lp_nan k1 (Or.inr hn)).1]
    exact ⟨fun h => absurd h (xnan 2 k2), fun h => absurd h (xnan 1 k1)⟩
  by_cases hm : x = 13830554455654793216
  · subst hm
    rw [(lp_mone k2).1, (lp_mone k1).1, (x1_minf k2).1, (x1_minf k1).1]
    exact ⟨fun _ => Int.le_refl _, fun _ => Int.le_refl _⟩
  have hlt : x < 13830554455654793216 := by omega
  rcases rank_ways u0 u1 hx with fx | ⟨rfl, rx⟩ | ⟨rfl, rx⟩
  · constructor
    · intro hz
      obtain ⟨d1, d2⟩ := lp_dn fx hlt
      have hu := lp_u (mode := 2) u0 u1
      have he := (lp_rw (mode := 2) k2 fx hlt).err
      generalize lpV x 2 = r at *
      rcases rank_up hu.1 hu.2 he d1 with fr | rfl
      · have hl := d2 fr.2.2
        have := Rw.le (z := valD x) (fun a ha => by have := Ea.lo_hi ha hl; grind) (x1_rw (mode := 2) k2 fr)
        rwa [rank_val u0 u1 fx.2.2] at this
      · rw [(x1_minf k2).1]
        have e2 : frank 13830554455654793216 = -4607182418800017408 := by decide
        rw [e2]
        obtain ⟨a, b, c⟩ := fx
        have := fabs_bd x
        unfold frank
        unfold fabs at c ⊢
        rw [if_neg (by omega)]
        split <;> omega
    · intro hz
      obtain ⟨d1, d2⟩ := lp_up fx hlt
      have hu := lp_u (mode := 1) u0 u1
      have he := (lp_rw (mode := 1) k1 fx hlt).err
      generalize lpV x 1 = r at *
      rcases rank_dn hu.1 hu.2 he d1 with fr | rfl
      · have hl := d2 fr.2.2
        have := Rw.ge (z := valD x) (fun b hb => by have := Ea.lo_hi hl hb; grind) (x1_rw (mode := 1) k1 fr)
        rwa [rank_val u0 u1 fx.2.2] at this
      · rw [(x1_inf k1).1]; exact b1.2
  · rw [(lp_self k2 hlt (Or.inr rfl)).1, (lp_self k1 hlt (Or.inr rfl)).1, (x1_inf k2).1, (x1_inf k1).1]
    exact ⟨fun _ => Int.le_refl _, fun _ => Int.le_refl _⟩
  · omega
/-- bounds -/
theorem bounds_law {x : Int} (u0 : 0 ≤ x) (u1 : x ≤ 18446744073709551615) (hx : frerr x = 0) :
    (frerr (x1V x 2) = 0 ∧ frank x ≤ frank (x1V x 2)) ∧ (frerr (lpV x 1) = 0 → frank (lpV x 1) ≤ frank x) := by
  have b1 := frank_bd x
  have bot : frank 18442240474082181120 = -9218868437227405312 := by decide
  constructor
  · rcases rank_ways u0 u1 hx with fx | ⟨rfl, rx⟩ | ⟨rfl, rx⟩
    · have hr := x1_rw (mode := 2) k2 fx
      refine ⟨hr.err, ?_⟩
      have := Rw.ge (z := valD x) (fun b hb => by have := Ea.lo_hi (Ea.lo_line (rv (valD x))) hb; grind) hr
      rwa [rank_val u0 u1 fx.2.2] at this
    · rw [(x1_inf k2).1]; exact ⟨by decide, Int.le_refl _⟩
    · rw [(x1_minf k2).1]; exact ⟨by decide, by decide⟩
  · intro he
    by_cases hn : 13830554455654793216 < x
    · rw [(lp_nan k1 (Or.inr hn)).1] at he; exact absurd he nan_err
    by_cases hm : x = 13830554455654793216
    · subst hm; rw [(lp_mone k1).1, bot]; exact b1.1
    have hlt : x < 13830554455654793216 := by omega
    rcases rank_ways u0 u1 hx with fx | ⟨rfl, rx⟩ | ⟨rfl, rx⟩
    · have := Rw.le (z := valD x) (fun a ha => lt_lo_hi ha (Ea.lo_line (rv (valD x)))) (lp_rw (mode := 1) k1 fx hlt)
      rwa [rank_val u0 u1 fx.2.2] at this
    · rw [(lp_self k1 hlt (Or.inr rfl)).1]; exact Int.le_refl _
    · omega
end Go.Proofs.YtmpdbmaokbhcjaaDoor

/-
  THE WALKS of expoLives, expoAll.
-/
namespace Go.Proofs.YtmpdbmaokbhcjaaDoor
open Go.RowKit Nt Fm Fl
open Ea (tw Lo Hi)

def eL : D := ⟨false, 3286201087413404085960561, -80⟩
def eH : D := ⟨false, 3286201087413404085960562, -80⟩
def lL : D := ⟨false, 837963523372001241319907, -80⟩
def lH : D := ⟨false, 837963523372001241319908, -80⟩
theorem tw_80 : tw (-80) = 1 / 1208925819614629174706176 := by
  have : tw (-80) = tw (-((80 : Nat) : Int)) := rfl
  rw [this, ← Ea.tw_inv, Ea.tw_nat]
  have e : (2 : Rat) ^ 80 = 1208925819614629174706176 := by decide +kernel
  rw [e]
theorem e_near : Rn (cutE (rv (valD 4607182418800017408))) 0 4613303445314885481 := by
  rw [val_one, rv_oneD]
  refine ⟨eL, eH, ?_, ?_, by decide +kernel, by decide +kernel, by decide +kernel, by decide +kernel⟩
  · show Lo 1 (rv eL)
    unfold eL
    rw [rv_pos, tw_80]
    exact Ea.lo_dn (by decide) ((Ea.dn_E 1 30).le (by decide +kernel))
  · show Hi 1 (rv eH)
    unfold eH
    rw [rv_pos, tw_80]
    exact Ea.hi_up (by decide) ((Ea.up_tail (K := 30) (by decide) (by decide +kernel)).le (by decide +kernel))
theorem two_val : rv (valD 4611686018427387904) = 2 := by
  have : valD 4611686018427387904 = ⟨false, 1, 1⟩ := by kernel_rfl
  rw [this, rv_pos, tw_p1]
  decide +kernel
theorem l_near : Rn (cutL (rv (valD 4611686018427387904))) 0 4604418534313441775 := by
  rw [two_val]
  have e : (1 + (1 : Rat) / 3) / (1 - 1 / 3) = 2 := by decide +kernel
  have h1 := Ea.ah_hi2 (z := 1 / 3) (by decide +kernel) (by decide +kernel) 30
  have h2 := Ea.ah_lo2 (z := 1 / 3) (by decide +kernel) (by decide +kernel) 30
  rw [e] at h1 h2
  refine ⟨lL, lH, ?_, ?_, by decide +kernel, by decide +kernel, by decide +kernel, by decide +kernel⟩
  · show Hi (rv lL) 2
    unfold lL
    rw [rv_pos, tw_80]
    exact Ea.hi_mono h1 (by decide +kernel)
  · show Lo (rv lH) 2
    unfold lH
    rw [rv_pos, tw_80]
    exact Ea.lo_mono h2 (by decide +kernel)
theorem one_f0 : Fin0 4607182418800017408 := ⟨by decide, by decide, by decide, by decide⟩
theorem two_f0 : Fin0 4611686018427387904 := ⟨by decide, by decide, by decide, by decide⟩
theorem lives_xp : xpV 4607182418800017408 0 = 4613303445314885481 ∧ xpC 4607182418800017408 0 = true ∧ xpE 0 = 0 := by
  have h := xp_fin (mode := 0) (by decide) one_f0
  exact ⟨by rw [h.1]; exact rnV_is e_near, h.2⟩
theorem lives_lg : lgV 4611686018427387904 0 = 4604418534313441775 ∧ lgC 4611686018427387904 0 = true ∧ xpE 0 = 0 := by
  have h := lg_fin (mode := 0) (by decide) two_f0 (by decide) (by decide)
  exact ⟨by rw [h.1]; exact rnV_is l_near, h.2⟩
set_option maxHeartbeats 4000000 in
theorem expoLives_any (w : World) (hT : Tab w) :
    Calls Tryd.prog 15 #[] w fun e w' => e = .returned (.bool true) ∧ Below w.heap.size w w' := by
  have XE := Lib.hid (fun w' ht => xexp_any 4607182418800017408 0 w' ht (by decide) (by decide) (by decide) (by decide))
  have XL := Lib.hid (fun w' ht => xlog_any 4611686018427387904 0 w' ht (by decide) (by decide) (by decide) (by decide))
  rw [lives_xp.1, lives_xp.2.1, lives_xp.2.2] at XE
  rw [lives_lg.1, lives_lg.2.1, lives_lg.2.2] at XL
  have HT := Lib.hid hT
  have k2 := ok2_mk
  clear hT
  go_enter Tryd.func15, Tryd.ntmps15
  go_wp2_with fail
  refine (XE.out _ HT.out).mono ?_
  rintro r w1 ⟨rfl, hb⟩
  have B1 := Lib.hid hb
  clear hb
  go_wp2_with fail
  refine (XL.out _ (HT.out.below B1.out)).mono ?_
  rintro r w2 ⟨rfl, hb⟩
  have B2 := Lib.hid (bl_thru B1.out (Nat.le_refl _) hb)
  clear hb
  go_wp2_with (go_at_call 18; refine (ok_new2 _ _  _ _ rfl).mono ?_; rintro e w' ⟨rfl, rfl⟩)
  go_ret
  exact ⟨rfl, B2.out.alloc B2.out.size _⟩
def xAll : Value := .agg #[.func (.func 20) #[] #[], .func (.func 22) #[] #[], .func (.func 21) #[] #[], .func (.func 23) #[] #[]]
/-- a block of four -/
def Bx4 (w : World) (b : Nat) (T : TypeId) (c0 c1 c2 c3 : Value) : Prop := w.heap[b]? = some (.cells #[c0, c1, c2, c3] T (0, 0))
theorem Bx4.cells {w : World} {b : Nat} {T : TypeId} {c0 c1 c2 c3 : Value} (h : Bx4 w b T c0 c1 c2 c3) :
    (w.cell? ⟨b, 0, none⟩ = some c0 ∧ w.cell? ⟨b, 1, none⟩ = some c1 ∧ w.cell? ⟨b, 2, none⟩ = some c2 ∧ w.cell? ⟨b, 3, none⟩ = some c3) ∧
    w.frozen? ⟨b, 0, none⟩ = false ∧ w.frozen? ⟨b, 1, none⟩ = false ∧ w.frozen? ⟨b, 2, none⟩ = false ∧ w.frozen? ⟨b, 3, none⟩ = false := by
  unfold Bx4 at h
  refine ⟨⟨?_, ?_, ?_, ?_⟩, ?_, ?_, ?_, ?_⟩ <;> simp [World.cell?, World.frozen?, h, Array.getElem?_eq_getElem]
theorem heap_set4 {w : World} {b o : Nat} {cs : Array Value} {T : TypeId} {v : Value} (h : w.heap[b]? = some (.cells cs T (0, 0))) : (w.setCell ⟨b, o, none⟩ v).heap[b]? = some (.cells (cs.setIfInBounds o v) T (0, 0)) := by
  have hb := (Array.getElem?_eq_some_iff.1 h).1
  have h2 := (Array.getElem?_eq_some_iff.1 h).2
  simp [World.setCell, Array.getElem?_modify, h]
theorem Bx4.all {w : World} {b : Nat} {T : TypeId} {c0 c1 c2 c3 : Value} (h : Bx4 w b T c0 c1 c2 c3) (d0 d1 d2 d3 : Value) :
    Bx4 ((((w.setCell ⟨b, 0, none⟩ d0).setCell ⟨b, 1, none⟩ d1).setCell ⟨b, 2, none⟩ d2).setCell ⟨b, 3, none⟩ d3) b T d0 d1 d2 d3 :=
  heap_set4 (heap_set4 (heap_set4 (heap_set4 h)))
set_option maxHeartbeats 4000000 in
theorem expoAll_any (w : World) :
    Calls Tryd.prog 17 #[] w fun e w' => e = .returned xAll ∧ Below w.heap.size w w' := by
  go_enter Tryd.func17, Tryd.ntmps17
  have X0 := Lib.hid (show Bx4 (w.alloc (.cells #[.nilFunc, .nilFunc, .nilFunc, .nilFunc] 35)) w.heap.size 35 .nilFunc .nilFunc .nilFunc .nilFunc from heap_alloc_new w _)
  obtain ⟨⟨c0, c1, c2, c3⟩, f0, f1, f2, f3⟩ := X0.out.cells
  have hsf := fun (a : Addr) (n : Nat) (w : World) => run_store Tryd.prog w a (.func (.func n) #[] #[]) .plain rfl
  go_wp2
  clear c0 c1 c2 c3 f0 f1 f2 f3 hsf
  have X1 := Lib.hid (X0.out.all (.func (.func 20) #[] #[]) (.func (.func 22) #[] #[]) (.func (.func 21) #[] #[]) (.func (.func 23) #[] #[]))
  obtain ⟨⟨c0, c1, c2, c3⟩, -⟩ := X1.out.cells
  refine bodyPost_ret (v := xAll) (by simp [results, Tryd.results17, go_sem, c0, c1, c2, c3, xAll]) rfl ?_
  exact ⟨rfl, (Below.refl w.heap.size w).alloc (Nat.le_refl _) _⟩
end Go.Proofs.YtmpdbmaokbhcjaaDoor
