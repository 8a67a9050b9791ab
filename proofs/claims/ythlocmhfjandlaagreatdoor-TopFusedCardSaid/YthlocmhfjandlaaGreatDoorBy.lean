/-
  SOME OF MY TEXTS in one: Xt Xp Xh Xq. Each says what it proves.
-/
import Derived.Test.YthlocmhfjandlaaGreatDoorPfe
import Derived.Test.YthlocmhfjandlaaGreatDoorBq
import Derived.Test.YthlocmhfjandlaaGreatDoorBp
set_option linter.unusedVariables false
set_option linter.unusedSimpArgs false
/-
  THE WALKS of exact.plus, minus, check, TwoSum, FastSum, TwoProd.
-/
namespace Go.Proofs.YthlocmhfjandlaaGreatDoor
open Go.RowKit Nt Fm Fl

def plV (x y : Int) : Int := allV [x, y] 0
def miV (x y : Int) : Int := plV x (fneg y)
theorem plV_bd {x y : Int} (x0 : 0 ≤ x) (x1 : x ≤ 18446744073709551615) (y0 : 0 ≤ y) (y1 : y ≤ 18446744073709551615) : 0 ≤ plV x y ∧ plV x y ≤ 18446744073709551615 :=
  allV_bd [x, y] (by intro v hv; simp at hv; rcases hv with rfl | rfl <;> exact ⟨by assumption, by assumption⟩) 0
theorem miV_bd {x y : Int} (x0 : 0 ≤ x) (x1 : x ≤ 18446744073709551615) (y0 : 0 ≤ y) (y1 : y ≤ 18446744073709551615) : 0 ≤ miV x y ∧ miV x y ≤ 18446744073709551615 :=
  plV_bd x0 x1 (fneg_bd y0 y1).1 (fneg_bd y0 y1).2

def xcE (x y : Int) : Int := if hasV x = true ∧ hasV y = true then 0 else 4
theorem xcheck_any (x y : Int) (x0 : 0 ≤ x) (x1 : x ≤ 18446744073709551615) (y0 : 0 ≤ y) (y1 : y ≤ 18446744073709551615) (w : World) :
    Calls Tryz.prog 63 #[.int .u64 x, .int .u64 y] w fun e w' => e = .returned (.int .i64 (xcE x y)) ∧ w = w' := by
  have h1 := fun w' => hasValue_any x x0 x1 w'
  have h2 := fun w' => hasValue_any y y0 y1 w'
  unfold xcE
  cases hx : hasV x <;> cases hy : hasV y <;> rw [hx] at h1 <;> rw [hy] at h2
  all_goals
    have H1 := Lib.hid h1
    have H2 := Lib.hid h2
    clear h1 h2 hx hy
    go_enter Tryz.func63, Tryz.ntmps63
    go_wp2_with (first
      | (go_at_call 65; (with_reducible refine (H1.out _).mono ?_); rintro e w' ⟨rfl, rfl⟩)
      | (go_at_call 65; (with_reducible refine (H2.out _).mono ?_); rintro e w' ⟨rfl, rfl⟩))
    go_ret
    exact ⟨rfl, rfl⟩

/-- what TwoSum tells -/
def tsA (x y : Int) : Int := miV (plV x y) y
def tsB (x y : Int) : Int := miV (plV x y) (tsA x y)
def tsP (x y : Int) : Int := miV x (tsA x y)
def tsQ (x y : Int) : Int := miV y (tsB x y)
def tsE (x y : Int) : Int := if xcE x y = 0 then (if hasV (plV x y) = true then 0 else 2) else 4
def tsS (x y : Int) : Int := if tsE x y = 0 then plV x y else 0
def tsR (x y : Int) : Int := if tsE x y = 0 then plV (tsP x y) (tsQ x y) else 0
def Ret3 (w : World) (a b c : Int) (e : Ending) (w' : World) : Prop := e = .returned (.tuple #[.int .u64 a, .int .u64 b, .int .i64 c]) ∧ Below w.heap.size w w'
theorem xcE_cases (x y : Int) : xcE x y = 0 ∨ xcE x y = 4 := by unfold xcE; split <;> simp

/-- what FastSum tells -/
def fsR (x y : Int) : Int := if tsE x y = 0 then miV y (miV (plV x y) x) else 0

/-- what TwoProd tells -/
def tpE (x y : Int) : Int := if xcE x y = 0 then (if hasV (muV0 x y 0) = true then 0 else 2) else 4
def tpP (x y : Int) : Int := if tpE x y = 0 then muV0 x y 0 else 0
def tpR (x y : Int) : Int := if tpE x y = 0 then fmV0 x y (fneg (muV0 x y 0)) 0 else 0
theorem muV0_bd' (x y : Int) : 0 ≤ muV0 x y 0 ∧ muV0 x y 0 ≤ 18446744073709551615 := by
  have := muV_bd x y 0
  rw [(muV_yes (x := x) (y := y) (mode := 0) rfl).1] at this; exact this
set_option maxRecDepth 100000 in
set_option maxHeartbeats 4000000 in
theorem twoProd_any (x y : Int) (x0 : 0 ≤ x) (x1 : x ≤ 18446744073709551615) (y0 : 0 ≤ y) (y1 : y ≤ 18446744073709551615) (w : World) (hT : Tab w) :
    Calls Tryz.prog 19 #[.int .u64 x, .int .u64 y] w (Ret3 w (tpP x y) (tpR x y) (tpE x y)) := by
  have hck := fun w' => xcheck_any x y x0 x1 y0 y1 w'
  obtain ⟨s0, s1⟩ := muV0_bd' x y
  obtain ⟨n0, n1⟩ := fneg_bd s0 s1
  have hhv := fun w' => hasValue_any (muV0 x y 0) s0 s1 w'
  have hp := fun w' h => pmul_any x y 0 x0 x1 y0 y1 w' h
  have hf := fun w' h => pfma_any x y (fneg (muV0 x y 0)) 0 x0 x1 y0 y1 n0 n1 w' h
  rw [(muV_yes (x := x) (y := y) (mode := 0) rfl).1] at hp
  rw [(fmV_yes (x := x) (y := y) (z := fneg (muV0 x y 0)) (mode := 0) rfl).1] at hf
  have hng := fun w' => neg_any (muV0 x y 0) s0 s1 w'
  have hcase : (xcE x y = 4 ∧ tpP x y = 0 ∧ tpR x y = 0 ∧ tpE x y = 4) ∨ (xcE x y = 0 ∧ hasV (muV0 x y 0) = false ∧ tpP x y = 0 ∧ tpR x y = 0 ∧ tpE x y = 2) ∨
      (xcE x y = 0 ∧ hasV (muV0 x y 0) = true ∧ tpP x y = muV0 x y 0 ∧ tpR x y = fmV0 x y (fneg (muV0 x y 0)) 0 ∧ tpE x y = 0) := by
    unfold tpP tpR tpE
    rcases xcE_cases x y with h | h
    · rw [h]; right
      cases hv : hasV (muV0 x y 0)
      · left; simp
      · right; simp
    · rw [h]; left; simp
  generalize muC x y 0 = C at *
  generalize adE 0 = E at *
  generalize fmC x y (fneg (muV0 x y 0)) 0 = D at *
  generalize fmV0 x y (fneg (muV0 x y 0)) 0 = r at *
  generalize fneg (muV0 x y 0) = n at *
  rcases hcase with ⟨h1, h2, h3, h4⟩ | ⟨h1, hv, h2, h3, h4⟩ | ⟨h1, hv, h2, h3, h4⟩
  all_goals
    rw [h2, h3, h4]
    rw [h1] at hck
    have HCK := Lib.hid hck
    have HT := Lib.hid hT
    have HP := Lib.hid hp
    have HF := Lib.hid hf
    have HN := Lib.hid hng
    clear h1 h2 h3 h4 hck hT hp hf hng
  · clear HP hhv HF HN
    go_enter Tryz.func19, Tryz.ntmps19
    go_wp2_with (go_at_call 63; (refine (HCK.out _).mono ?_); rintro e w' ⟨rfl, rfl⟩)
    go_ret3
    exact ⟨rfl, Below.refl _ _⟩
  · rw [hv] at hhv
    have HV := Lib.hid hhv
    clear hhv hv HF HN
    generalize muV0 x y 0 = s at *
    go_enter Tryz.func19, Tryz.ntmps19
    go_wp2_with (go_at_call 63; (refine (HCK.out _).mono ?_); rintro e w' ⟨rfl, rfl⟩)
    refine (HP.out _ HT.out).mono ?_
    rintro r w1 ⟨rfl, hb⟩
    have B1 := Lib.hid hb
    clear hb
    go_wp2_with (go_at_call 65; (refine (HV.out _).mono ?_); rintro e w' ⟨rfl, rfl⟩)
    go_ret3
    exact ⟨rfl, B1.out⟩
  · rw [hv] at hhv
    have HV := Lib.hid hhv
    clear hhv hv
    generalize muV0 x y 0 = s at *
    go_enter Tryz.func19, Tryz.ntmps19
    go_wp2_with (go_at_call 63; (refine (HCK.out _).mono ?_); rintro e w' ⟨rfl, rfl⟩)
    refine (HP.out _ HT.out).mono ?_
    rintro r' w1 ⟨rfl, hb⟩
    have B1 := Lib.hid hb
    clear hb
    go_wp2_with (first | (go_at_call 65; (refine (HV.out _).mono ?_); rintro e w' ⟨rfl, rfl⟩) | (go_at_call 31; (refine (HN.out _).mono ?_); rintro e w' ⟨rfl, rfl⟩))
    refine (HF.out _ (HT.out.below B1.out)).mono ?_
    rintro r' w2 ⟨rfl, hb⟩
    have B2 := Lib.hid (bl_thru B1.out (Nat.le_refl _) hb)
    clear hb
    go_wp2
    go_ret3
    exact ⟨rfl, B2.out⟩
end Go.Proofs.YthlocmhfjandlaaGreatDoor

/-
  PLAIN: sums and products that are rounded to the nearest, as whole numbers; what TwoSum, FastSum, TwoProd tell is all there is. No Go function here.
-/
namespace Go.Proofs.YthlocmhfjandlaaGreatDoor
open Go.RowKit Nt Fm Fl

theorem rep_smag (x : Int) : Ep.Rep (smag x) := (rep_iff _).2 ⟨_, smag_abs x⟩
theorem smag_fneg {x : Int} (x0 : 0 ≤ x) (x1 : x ≤ 18446744073709551615) : smag (fneg x) = -smag x := by
  unfold smag
  rw [fabs_fneg, fng_fneg x0 x1]
  cases fng x <;> simp
theorem smag_z {x : Int} (h : fabs x = 0) : smag x = 0 := by
  have := smag_abs x
  rw [h] at this
  have e : mag (0 : Int).toNat = 0 := mag_zero
  rw [e] at this; omega
theorem fin_numR (d : D) (mode : Int) (h : fabs (numR d mode) < 9218868437227405312) : numk (kd d.neg mode) d.m d.e < MR := by
  have h1 := (fng_numR d mode).1
  have h2 := fabs_bd (numR d mode)
  have hMR : MR = 9218868437227405312 := rfl
  omega
/-- rounded to the nearest -/
theorem near_numR {d : D} {t : Nat} (ht : 0 ≤ d.e + ((1074 + t : Nat) : Int)) {z : Int} (hz : d.vl (1074 + t) = z * ((2 ^ t : Nat) : Int)) (h : fabs (numR d 0) < 9218868437227405312) : Ep.Nr z (smag (numR d 0)) := by
  have hf := fin_numR d 0 h
  have e2 : kd d.neg 0 = 2 := by unfold kd; cases d.neg <;> rfl
  obtain ⟨h1, h2⟩ := fng_numR d 0
  rw [e2] at h1 hf
  have ht' : 0 ≤ d.e + 1074 + (t : Int) := by omega
  have hp := Nat.two_pow_pos t
  have hT : tt t d.m d.e = z.natAbs * 2 ^ t := by rw [tt_vl, hz, Int.natAbs_mul, Int.natAbs_natCast]
  have ha : (smag (numR d 0)).natAbs = mag (numk 2 d.m d.e) := by rw [smag_abs, h1]
  refine ⟨(rep_iff _).2 ⟨_, ha⟩, fun f hf2 => ?_⟩
  obtain ⟨r, hr⟩ := (rep_iff f).1 hf2
  have hn := numk_nearest ht' hf r
  rw [hT] at hn
  have key : ((z.natAbs : Int) - (mag (numk 2 d.m d.e) : Int)).natAbs ≤ ((z.natAbs : Int) - (mag r : Int)).natAbs := by
    have a : ∀ u v : Nat, (((u * 2 ^ t : Nat) : Int) - ((v * 2 ^ t : Nat) : Int)).natAbs = ((u : Int) - (v : Int)).natAbs * 2 ^ t := by
      intro u v
      rw [Int.natCast_mul, Int.natCast_mul, ← Int.sub_mul, Int.natAbs_mul, Int.natAbs_natCast]
    rw [a, a] at hn
    exact Nat.le_of_mul_le_mul_right hn hp
  have hs : (0 ≤ z ∧ 0 ≤ smag (numR d 0)) ∨ (z ≤ 0 ∧ smag (numR d 0) ≤ 0) := by
    have hzs : z * ((2 ^ t : Nat) : Int) = d.sm * 2 ^ (d.e + ((1074 + t : Nat) : Int)).toNat := hz.symm
    have hpp : (0 : Int) < ((2 ^ t : Nat) : Int) := by omega
    have hq : (0 : Int) ≤ 2 ^ (d.e + ((1074 + t : Nat) : Int)).toNat := Int.le_of_lt (Int.pow_pos (by decide))
    unfold smag
    rw [h2]
    unfold D.sm at hzs
    cases hng : d.neg <;> rw [hng] at hzs <;> simp only [Bool.false_eq_true, if_false, if_true] at hzs ⊢
    · left
      refine ⟨?_, by omega⟩
      apply Int.le_of_mul_le_mul_right (a := ((2 ^ t : Nat) : Int)) _ hpp
      rw [Int.zero_mul, hzs]; exact Int.mul_nonneg (by omega) hq
    · right
      refine ⟨?_, by omega⟩
      apply Int.le_of_mul_le_mul_right (a := ((2 ^ t : Nat) : Int)) _ hpp
      rw [Int.zero_mul, hzs]; exact Int.mul_nonpos_of_nonpos_of_nonneg (by omega) hq
  omega
/-- no end is met -/
theorem fin_of_le {d : D} {t : Nat} (ht : 0 ≤ d.e + ((1074 + t : Nat) : Int)) {z : Int} (hz : d.vl (1074 + t) = z * ((2 ^ t : Nat) : Int)) {n : Nat} (n0 : 52 ≤ n) (n1 : n ≤ 2097) (h : z.natAbs ≤ Ep.P n) (mode : Int) : fabs (numR d mode) < 9218868437227405312 := by
  have ht' : 0 ≤ d.e + 1074 + (t : Int) := by omega
  have hMR : MR = 9218868437227405312 := rfl
  have hm := mag_of 4503599627370496 (n - 52) (by omega) (by omega)
  have e : 4503599627370496 * 2 ^ (n - 52) = Ep.P n := by
    rw [show n = 52 + (n - 52) by omega, Ep.P_add, show 52 + (n - 52) - 52 = n - 52 by omega]; rfl
  rw [e] at hm
  have hT : tt t d.m d.e = z.natAbs * 2 ^ t := by rw [tt_vl, hz, Int.natAbs_mul, Int.natAbs_natCast]
  have := numk_le ht' (kd d.neg mode) (r := 4503599627370496 + (n - 52) * 4503599627370496) (by omega) (by rw [hT, hm]; exact Nat.mul_le_mul_right _ h)
  have h1 := (fng_numR d mode).1
  have h2 := fabs_bd (numR d mode)
  omega
/-- a rounded sum -/
theorem sum_nr {x y : Int} (x0 : 0 ≤ x) (x1 : x ≤ 18446744073709551615) (y0 : 0 ≤ y) (y1 : y ≤ 18446744073709551615) (hx : fabs x < 9218868437227405312) (hy : fabs y < 9218868437227405312) (h : fabs (plV x y) < 9218868437227405312) :
    Ep.Nr (smag x + smag y) (smag (plV x y)) := by
  obtain ⟨-, -, -, a, b⟩ := allV_fin [x, y] (by simp [hx, hy]) 0
  obtain ⟨v1, v2⟩ := sumD_two_vl x0 x1 y0 y1 hx hy
  unfold plV at h ⊢
  by_cases hz : (sumD [x, y]).m = 0
  · have e := b hz
    rw [vl_zero hz] at v1
    rw [← v1, smag_z e]
    exact ⟨Ep.Rep.zero, fun f _ => by omega⟩
  · rw [a hz] at h ⊢
    exact near_numR (t := 0) v2 (by rw [show 1074 + 0 = 1074 from rfl, v1]; simp) h
theorem sum_fin {x y : Int} (x0 : 0 ≤ x) (x1 : x ≤ 18446744073709551615) (y0 : 0 ≤ y) (y1 : y ≤ 18446744073709551615) (hx : fabs x < 9218868437227405312) (hy : fabs y < 9218868437227405312) {n : Nat} (n0 : 52 ≤ n) (n1 : n ≤ 2097) (h : (smag x + smag y).natAbs ≤ Ep.P n) :
    fabs (plV x y) < 9218868437227405312 ∧ (smag (plV x y)).natAbs ≤ Ep.P n ∧ Ep.Nr (smag x + smag y) (smag (plV x y)) := by
  have hf : fabs (plV x y) < 9218868437227405312 := by
    obtain ⟨-, -, -, a, b⟩ := allV_fin [x, y] (by simp [hx, hy]) 0
    obtain ⟨v1, v2⟩ := sumD_two_vl x0 x1 y0 y1 hx hy
    unfold plV
    by_cases hz : (sumD [x, y]).m = 0
    · rw [b hz]; decide
    · rw [a hz]
      exact fin_of_le (t := 0) v2 (z := smag x + smag y) (by rw [show 1074 + 0 = 1074 from rfl, v1]; simp) n0 n1 h 0
  have hn := sum_nr x0 x1 y0 y1 hx hy hf
  refine ⟨hf, ?_, hn⟩
  have a1 := hn.ge (Ep.Rep.pow n).neg
  have a2 := hn.le (Ep.Rep.pow n)
  omega
theorem diff_fin {x y : Int} (x0 : 0 ≤ x) (x1 : x ≤ 18446744073709551615) (y0 : 0 ≤ y) (y1 : y ≤ 18446744073709551615) (hx : fabs x < 9218868437227405312) (hy : fabs y < 9218868437227405312) {n : Nat} (n0 : 52 ≤ n) (n1 : n ≤ 2097) (h : (smag x - smag y).natAbs ≤ Ep.P n) :
    fabs (miV x y) < 9218868437227405312 ∧ (smag (miV x y)).natAbs ≤ Ep.P n ∧ Ep.Nr (smag x - smag y) (smag (miV x y)) := by
  obtain ⟨n0', n1'⟩ := fneg_bd y0 y1
  have e : smag x - smag y = smag x + smag (fneg y) := by rw [smag_fneg y0 y1]; omega
  rw [e] at h ⊢
  exact sum_fin x0 x1 n0' n1' hx (by rw [fabs_fneg]; exact hy) n0 n1 h
/-- the law of TwoSum -/
theorem two_law {x y : Int} (x0 : 0 ≤ x) (x1 : x ≤ 18446744073709551615) (y0 : 0 ≤ y) (y1 : y ≤ 18446744073709551615) (hx : fabs x < 9218868437227405312) (hy : fabs y < 9218868437227405312) {N : Nat} (n0 : 52 ≤ N) (n1 : N ≤ 2080)
    (bx : (smag x).natAbs ≤ Ep.P N) (by' : (smag y).natAbs ≤ Ep.P N) :
    fabs (plV x y) < 9218868437227405312 ∧ fabs (plV (tsP x y) (tsQ x y)) < 9218868437227405312 ∧ smag (plV (tsP x y) (tsQ x y)) = smag x + smag y - smag (plV x y) ∧ Ep.Nr (smag x + smag y) (smag (plV x y)) := by
  have p1 : Ep.P (N + 1) = 2 * Ep.P N := Ep.P_succ _
  have p2 : Ep.P (N + 2) = 2 * Ep.P (N + 1) := Ep.P_succ _
  have p3 : Ep.P (N + 3) = 2 * Ep.P (N + 2) := Ep.P_succ _
  have p4 : Ep.P (N + 4) = 2 * Ep.P (N + 3) := Ep.P_succ _
  have p5 : Ep.P (N + 5) = 2 * Ep.P (N + 4) := Ep.P_succ _
  obtain ⟨s1, s2, s3⟩ := sum_fin x0 x1 y0 y1 hx hy (n := N + 1) (by omega) (by omega) (by omega)
  obtain ⟨sb0, sb1⟩ := plV_bd x0 x1 y0 y1
  obtain ⟨a1, a2, a3⟩ := diff_fin sb0 sb1 y0 y1 s1 hy (n := N + 2) (by omega) (by omega) (by omega)
  obtain ⟨ab0, ab1⟩ := miV_bd sb0 sb1 y0 y1
  obtain ⟨b1, b2, b3⟩ := diff_fin sb0 sb1 ab0 ab1 s1 a1 (n := N + 3) (by omega) (by omega) (by omega)
  obtain ⟨bb0, bb1⟩ := miV_bd sb0 sb1 ab0 ab1
  obtain ⟨c1, c2, c3⟩ := diff_fin x0 x1 ab0 ab1 hx a1 (n := N + 3) (by omega) (by omega) (by omega)
  obtain ⟨cb0, cb1⟩ := miV_bd x0 x1 ab0 ab1
  obtain ⟨d1, d2, d3⟩ := diff_fin y0 y1 bb0 bb1 hy b1 (n := N + 4) (by omega) (by omega) (by omega)
  obtain ⟨db0, db1⟩ := miV_bd y0 y1 bb0 bb1
  obtain ⟨e1, e2, e3⟩ := sum_fin cb0 cb1 db0 db1 c1 d1 (n := N + 5) (by omega) (by omega) (by omega)
  exact ⟨s1, e1, Ep.twoSum (rep_smag x) (rep_smag y) s3 a3 b3 c3 d3 e3, s3⟩
/-- the law of FastSum -/
theorem fast_law {x y : Int} (x0 : 0 ≤ x) (x1 : x ≤ 18446744073709551615) (y0 : 0 ≤ y) (y1 : y ≤ 18446744073709551615) (hx : fabs x < 9218868437227405312) (hy : fabs y < 9218868437227405312) {N : Nat} (n0 : 52 ≤ N) (n1 : N ≤ 2080)
    (bx : (smag x).natAbs ≤ Ep.P N) (by' : (smag y).natAbs ≤ Ep.P N) (hxy : fabs y ≤ fabs x) :
    fabs (miV y (miV (plV x y) x)) < 9218868437227405312 ∧ smag (miV y (miV (plV x y) x)) = smag x + smag y - smag (plV x y) := by
  have p1 : Ep.P (N + 1) = 2 * Ep.P N := Ep.P_succ _
  have p2 : Ep.P (N + 2) = 2 * Ep.P (N + 1) := Ep.P_succ _
  have p3 : Ep.P (N + 3) = 2 * Ep.P (N + 2) := Ep.P_succ _
  obtain ⟨s1, s2, s3⟩ := sum_fin x0 x1 y0 y1 hx hy (n := N + 1) (by omega) (by omega) (by omega)
  obtain ⟨sb0, sb1⟩ := plV_bd x0 x1 y0 y1
  obtain ⟨a1, a2, a3⟩ := diff_fin sb0 sb1 x0 x1 s1 hx (n := N + 2) (by omega) (by omega) (by omega)
  obtain ⟨ab0, ab1⟩ := miV_bd sb0 sb1 x0 x1
  obtain ⟨b1, b2, b3⟩ := diff_fin y0 y1 ab0 ab1 hy a1 (n := N + 3) (by omega) (by omega) (by omega)
  have hmag : (smag y).natAbs ≤ (smag x).natAbs := by
    rw [smag_abs, smag_abs]; exact mag_mono (by omega)
  exact ⟨b1, Ep.fastSum (rep_smag x) (rep_smag y) hmag s3 a3 b3⟩
/-- half of the last place -/
theorem half_law {x y : Int} (hs : fabs (plV x y) < 9218868437227405312) (h : Ep.Nr (smag x + smag y) (smag (plV x y))) : 2 * (smag x + smag y - smag (plV x y)).natAbs ≤ 2 ^ (ulE (plV x y) + 1074).toNat := by
  have hb := fabs_bd (plV x y)
  have be := fexp_bd (plV x y)
  have hlt : (smag (plV x y)).natAbs < Ep.P (53 + (ulE (plV x y) + 1074).toNat) := by
    rw [smag_abs]
    have hfe : fabs (plV x y) = fexp (plV x y) * 4503599627370496 + ffr (plV x y) := by unfold fabs fexp ffr; omega
    have bf := ffr_bd (plV x y)
    have e : (ulE (plV x y) + 1074).toNat = (fabs (plV x y)).toNat / 4503599627370496 - 1 := by
      unfold ulE; omega
    rw [e]
    obtain ⟨p, q1, q2⟩ := mag_part (fabs (plV x y)).toNat
    have hm := mag_lt_succ (fabs (plV x y)).toNat
    rw [mag_succ] at hm
    unfold mag
    split
    · rename_i hlt
      have : Ep.P 53 ≤ Ep.P (53 + ((fabs (plV x y)).toNat / 4503599627370496 - 1)) := Ep.P_le (by omega)
      have e53 : Ep.P 53 = 9007199254740992 := by decide
      omega
    · rw [Ep.P_add]
      have e53 : Ep.P 53 = 9007199254740992 := by decide
      rw [e53]
      exact Nat.mul_lt_mul_of_pos_right (by omega) (Ep.P_pos _)
  have hz : (smag x + smag y).natAbs ≤ Ep.P (53 + (ulE (plV x y) + 1074).toNat) := by
    have r := Ep.Rep.pow (53 + (ulE (plV x y) + 1074).toNat)
    have a1 := h.ge r
    have a2 := h.le r.neg
    omega
  exact Ep.half h hz
/-- of a product: what is lost is a number -/
theorem prod_rest {X Y Z s : Int} {q1 q2 : Int} {J : Nat} (hq1 : q1.natAbs < 9007199254740992) (hq2 : q2.natAbs < 9007199254740992) (hZ : Z = q1 * q2 * (Ep.P J : Int)) (h : Ep.Nr Z s) : Ep.Rep (Z - s) ∧ (Z - s).natAbs ≤ Ep.P (53 + J) := by
  have hd : (Ep.P J : Int) ∣ Z := ⟨q1 * q2, by rw [hZ, Int.mul_comm]⟩
  have hZ2 : Z.natAbs ≤ Ep.P (53 + (53 + J)) := by
    rw [hZ, Int.natAbs_mul, Int.natAbs_mul, Int.natAbs_natCast, Ep.P_add, Ep.P_add, ← Nat.mul_assoc]
    have e53 : Ep.P 53 = 9007199254740992 := by decide
    rw [e53]
    exact Nat.mul_le_mul_right _ (Nat.mul_le_mul (by omega) (by omega))
  have hh := Ep.half h hZ2
  refine ⟨⟨J, Int.dvd_sub hd (h.dvd hd), by omega⟩, by omega⟩
end Go.Proofs.YthlocmhfjandlaaGreatDoor

/-
  PLAIN: small facts of numbers that have a value; the bounds of what TwoProd tells.
-/
namespace Go.Proofs.YthlocmhfjandlaaGreatDoor
open Go.RowKit Nt Fm Fl

theorem hasV_lt {x : Int} (h : hasV x = true) : fabs x < 9218868437227405312 := by unfold hasV at h; simpa using h
theorem hasV_of {x : Int} (h : fabs x < 9218868437227405312) : hasV x = true := by unfold hasV; simpa using h
theorem mag_P (n : Nat) : mag (4503599627370496 + n * 4503599627370496) = Ep.P (52 + n) := by
  rw [mag_of 4503599627370496 n (by omega) (by omega), Ep.P_add]; rfl
theorem tpP_bd (x y : Int) : 0 ≤ tpP x y ∧ tpP x y ≤ 18446744073709551615 := by
  have := muV0_bd' x y
  unfold tpP; split <;> omega
theorem tpR_bd (x y : Int) : 0 ≤ tpR x y ∧ tpR x y ≤ 18446744073709551615 := by
  have h := fmV_bd x y (fneg (muV0 x y 0)) 0 (fneg_bd (muV0_bd' x y).1 (muV0_bd' x y).2).1 (fneg_bd (muV0_bd' x y).1 (muV0_bd' x y).2).2
  rw [(fmV_yes (x := x) (y := y) (z := fneg (muV0 x y 0)) (mode := 0) rfl).1] at h
  unfold tpR; split
  · exact h
  · omega
end Go.Proofs.YthlocmhfjandlaaGreatDoor

/-
  PLAIN: what is lost of a product, and it, are together just the product (Dekker). No Go function here.
-/
namespace Go.Proofs.YthlocmhfjandlaaGreatDoor
open Go.RowKit Nt Fm Fl

theorem valD_vlt {x : Int} (x0 : 0 ≤ x) (x1 : x ≤ 18446744073709551615) (hx : fabs x < 9218868437227405312) (t : Nat) : (valD x).vl (1074 + t) = smag x * ((2 ^ t : Nat) : Int) := by
  rw [valD_vl x x0 x1 hx t]
  unfold smag
  cases fng x <;> simp [Int.neg_mul]
theorem smag_q {x : Int} (x0 : 0 ≤ x) (x1 : x ≤ 18446744073709551615) (hx : fabs x < 9218868437227405312) : ∃ (q : Int) (j : Nat), q.natAbs < 9007199254740992 ∧ smag x = q * (Ep.P j : Int) ∧ (j : Int) = ulE x + 1074 := by
  obtain ⟨q, j, h1, h2, h3⟩ := mag_q x0 x1 hx
  cases hg : fng x
  · refine ⟨(q : Int), j, by simpa using h1, ?_, h3⟩
    unfold smag; rw [hg, if_neg (by decide), h2]; unfold Ep.P; simp
  · refine ⟨-(q : Int), j, by simpa using h1, ?_, h3⟩
    unfold smag; rw [hg, if_pos rfl, h2]; unfold Ep.P; simp [Int.neg_mul]
theorem smag_lt {x : Int} (hx : fabs x < 9218868437227405312) : (smag x).natAbs < Ep.P 2098 := by
  rw [smag_abs]
  have hb := fabs_bd x
  have h1 := mag_lt (show (fabs x).toNat < 4503599627370496 + 2046 * 4503599627370496 by omega)
  rw [mag_P 2046, show 52 + 2046 = 2098 from rfl] at h1
  exact h1
/-- the product, counted in the least number -/
theorem prod_Z {x y : Int} (x0 : 0 ≤ x) (x1 : x ≤ 18446744073709551615) (y0 : 0 ≤ y) (y1 : y ≤ 18446744073709551615) (hx : fabs x < 9218868437227405312) (hy : fabs y < 9218868437227405312) (hu : -1074 ≤ ulE x + ulE y) :
    ∃ (Z q1 q2 : Int) (J : Nat), q1.natAbs < 9007199254740992 ∧ q2.natAbs < 9007199254740992 ∧ Z = q1 * q2 * (Ep.P J : Int) ∧ (prD x y).vl (1074 + 1074) = Z * ((2 ^ 1074 : Nat) : Int) ∧ 0 ≤ (prD x y).e + ((1074 + 1074 : Nat) : Int) := by
  obtain ⟨q1, j1, a1, a2, a3⟩ := smag_q x0 x1 hx
  obtain ⟨q2, j2, b1, b2, b3⟩ := smag_q y0 y1 hy
  obtain ⟨J, hJ⟩ : ∃ J : Nat, j1 + j2 = J + 1074 := ⟨j1 + j2 - 1074, by omega⟩
  obtain ⟨p1, p2⟩ := prD_vl x0 x1 y0 y1 hx hy
  refine ⟨q1 * q2 * (Ep.P J : Int), q1, q2, J, a1, b1, rfl, ?_, p2⟩
  rw [show (1074 + 1074 : Nat) = 2148 from rfl, p1, a2, b2]
  have e : (Ep.P j1 : Int) * (Ep.P j2 : Int) = (Ep.P J : Int) * ((2 ^ 1074 : Nat) : Int) := by
    rw [← Int.natCast_mul, ← Ep.P_add, hJ, Ep.P_add, Int.natCast_mul]; rfl
  rw [Int.mul_assoc q1, Int.mul_left_comm (Ep.P j1 : Int) q2, e]; simp only [Int.mul_assoc]
theorem plus_nzr_vl {d : D} {T : Nat} (h : 0 ≤ d.e + (T : Int)) : (plus d nz).vl T = d.vl T ∧ 0 ≤ (plus d nz).e + (T : Int) := by
  have hn : 0 ≤ nz.e + (T : Int) := by unfold nz; simp only; omega
  rw [plus_vl _ _ _ h hn, vl_zero (d := nz) rfl, Int.add_zero]
  exact ⟨rfl, plus_eT h hn⟩
/-- THE LAW ExactProd -/
theorem prod_law {x y : Int} (x0 : 0 ≤ x) (x1 : x ≤ 18446744073709551615) (y0 : 0 ≤ y) (y1 : y ≤ 18446744073709551615) (hx : fabs x < 9218868437227405312) (hy : fabs y < 9218868437227405312) (hu : -1074 ≤ ulE x + ulE y) (hp : fabs (muV0 x y 0) < 9218868437227405312) :
    fabs (fmV0 x y (fneg (muV0 x y 0)) 0) < 9218868437227405312 ∧ plus (prD x y) nz = plus (valD (muV0 x y 0)) (valD (fmV0 x y (fneg (muV0 x y 0)) 0)) := by
  obtain ⟨Z, q1, q2, J, h1, h2, h3, h4, h5⟩ := prod_Z x0 x1 y0 y1 hx hy hu
  obtain ⟨-, -, m3, m4, -⟩ := mu_fin hx hy 0
  have pb := muV0_bd' x y
  have nb := fneg_bd pb.1 pb.2
  have hnr : Ep.Nr Z (smag (muV0 x y 0)) := by
    by_cases hz : (prD x y).m = 0
    · have e := smag_z (m3 hz)
      rw [e]
      have hZ : Z = 0 := by
        rw [vl_zero hz] at h4
        rcases Int.mul_eq_zero.1 h4.symm with h | h
        · exact h
        · have := Nat.two_pow_pos 1074; omega
      rw [hZ]; exact ⟨Ep.Rep.zero, fun f _ => by omega⟩
    · have e := m4 hz
      rw [e] at hp ⊢
      exact near_numR h5 h4 hp
  obtain ⟨g1, -⟩ := prod_rest (X := 0) (Y := 0) h1 h2 h3 hnr
  have hZb : Z.natAbs ≤ Ep.P (53 + 2045) := by
    have := smag_lt hp
    have r := Ep.Rep.pow 2098
    have a1 := hnr.ge r
    have a2 := hnr.le r.neg
    rw [show 53 + 2045 = 2098 from rfl]
    omega
  have hbd := Ep.half hnr hZb
  have hbd' : (Z - smag (muV0 x y 0)).natAbs ≤ Ep.P 2045 := by omega
  -- the fused one
  have hfn : fabs (fneg (muV0 x y 0)) < 9218868437227405312 := by rw [fabs_fneg]; exact hp
  have hvz := valD_vlt nb.1 nb.2 hfn 1074
  rw [smag_fneg pb.1 pb.2] at hvz
  have ez := valD_e nb.1 nb.2
  have ez' : 0 ≤ (valD (fneg (muV0 x y 0))).e + ((1074 + 1074 : Nat) : Int) := by omega
  have hfs : (fsD x y (fneg (muV0 x y 0))).vl (1074 + 1074) = (Z - smag (muV0 x y 0)) * ((2 ^ 1074 : Nat) : Int) := by
    unfold fsD
    rw [plus_vl _ _ _ h5 ez', h4, hvz, ← Int.add_mul, Int.sub_eq_add_neg]
  have efs : 0 ≤ (fsD x y (fneg (muV0 x y 0))).e + ((1074 + 1074 : Nat) : Int) := plus_eT h5 ez'
  have hsp := spB_fin hx hy
  obtain ⟨c5, c4⟩ := fcls_fin hfn
  have hr : fabs (fmV0 x y (fneg (muV0 x y 0)) 0) < 9218868437227405312 ∧ smag (fmV0 x y (fneg (muV0 x y 0)) 0) = Z - smag (muV0 x y 0) := by
    by_cases hz : (fsD x y (fneg (muV0 x y 0))).m = 0
    · have e0 : Z - smag (muV0 x y 0) = 0 := by
        rw [vl_zero hz] at hfs
        rcases Int.mul_eq_zero.1 hfs.symm with h | h
        · exact h
        · have := Nat.two_pow_pos 1074; omega
      have hfz : fabs (fmV0 x y (fneg (muV0 x y 0)) 0) = 0 := by
        unfold fmV0
        rw [hsp, if_neg (by rintro (h | ⟨h, -⟩); exact c5 h; cases h), if_neg (by decide), if_neg c4, if_neg (by omega)]
        by_cases hp0 : (prD x y).m = 0
        · rw [if_pos hp0]
          have hs0 := sgn_abs x y
          have hn0 : fabs (fneg (muV0 x y 0)) = 0 := by rw [fabs_fneg]; exact m3 hp0
          refine (allV_fin [sgn x y, fneg (muV0 x y 0)] (by intro v hv; simp at hv; rcases hv with rfl | rfl <;> omega) 0).2.2.2.2 ?_
          rw [sumD_two, valD_z (fcls_1 hs0), valD_z (fcls_1 hn0)]; rfl
        · rw [if_neg hp0, if_neg (by decide)]; decide
      rw [e0]; exact ⟨by omega, smag_z hfz⟩
    · have e : fmV0 x y (fneg (muV0 x y 0)) 0 = numR (fsD x y (fneg (muV0 x y 0))) 0 := by
        unfold fmV0
        rw [hsp, if_neg (by rintro (h | ⟨h, -⟩); exact c5 h; cases h), if_neg (by decide), if_neg c4, if_pos hz]
      rw [e]
      have hf := fin_of_le efs hfs (n := 2045) (by decide) (by decide) hbd' 0
      exact ⟨hf, (near_numR efs hfs hf).exact g1⟩
  refine ⟨hr.1, ?_⟩
  have rb := fmV_bd x y (fneg (muV0 x y 0)) 0 nb.1 nb.2
  rw [(fmV_yes (x := x) (y := y) (z := fneg (muV0 x y 0)) (mode := 0) rfl).1] at rb
  have er := valD_e rb.1 rb.2
  have ep := valD_e pb.1 pb.2
  have er' : 0 ≤ (valD (fmV0 x y (fneg (muV0 x y 0)) 0)).e + ((1074 + 1074 : Nat) : Int) := by omega
  have ep' : 0 ≤ (valD (muV0 x y 0)).e + ((1074 + 1074 : Nat) : Int) := by omega
  obtain ⟨k1, k2⟩ := plus_nzr_vl h5
  refine nf_inj (plus_Nf _ _) (plus_Nf _ _) (T := 1074 + 1074) k2 (plus_eT ep' er') ?_
  rw [k1, plus_vl _ _ _ ep' er', valD_vlt pb.1 pb.2 hp, valD_vlt rb.1 rb.2 hr.1, h4, hr.2, ← Int.add_mul]
  congr 1; omega
theorem tp_err {x y : Int} (h : tpE x y ≠ 0) : tpP x y = 0 ∧ tpR x y = 0 := by
  unfold tpP tpR; rw [if_neg h, if_neg h]; exact ⟨rfl, rfl⟩
theorem tp_val {x y : Int} (h : tpE x y = 0) : hasV x = true ∧ hasV y = true ∧ hasV (muV0 x y 0) = true := by
  unfold tpE at h
  split at h
  · rename_i h1
    unfold xcE at h1
    split at h1
    · rename_i h2
      split at h
      · rename_i h3; exact ⟨h2.1, h2.2, h3⟩
      · omega
    · omega
  · omega
theorem exactProd_a {x y : Int} (x0 : 0 ≤ x) (x1 : x ≤ 18446744073709551615) (y0 : 0 ≤ y) (y1 : y ≤ 18446744073709551615) (he : tpE x y = 0) (hu : -1074 ≤ ulE x + ulE y) :
    hasV (tpP x y) = true ∧ hasV (tpR x y) = true ∧ plus (prD x y) nz = plus (valD (tpP x y)) (valD (tpR x y)) := by
  obtain ⟨hx, hy, hp⟩ := tp_val he
  obtain ⟨h1, h2⟩ := prod_law x0 x1 y0 y1 (hasV_lt hx) (hasV_lt hy) hu (hasV_lt hp)
  have e1 : tpP x y = muV0 x y 0 := by unfold tpP; rw [if_pos he]
  have e2 : tpR x y = fmV0 x y (fneg (muV0 x y 0)) 0 := by unfold tpR; rw [if_pos he]
  rw [e1, e2]
  exact ⟨hp, hasV_of h1, h2⟩
end Go.Proofs.YthlocmhfjandlaaGreatDoor
