/-
  SOME OF MY TEXTS in one: Xt Xp. Each says what it proves.
-/
import Derived.Test.YtapdjclhpcakeaaDoorPe
import Derived.Test.YtapdjclhpcakeaaDoorBq
import Derived.Test.YtapdjclhpcakeaaDoorBp
set_option linter.unusedVariables false
set_option linter.unusedSimpArgs false
/-
  THE WALKS of exact.plus, minus, check, TwoSum, FastSum, TwoProd.
-/
namespace Go.Proofs.YtapdjclhpcakeaaDoor
open Go.RowKit Nt Fm Fl

def plV (x y : Int) : Int := allV [x, y] 0
def miV (x y : Int) : Int := plV x (fneg y)
theorem plV_bd {x y : Int} (x0 : 0 ≤ x) (x1 : x ≤ 18446744073709551615) (y0 : 0 ≤ y) (y1 : y ≤ 18446744073709551615) : 0 ≤ plV x y ∧ plV x y ≤ 18446744073709551615 :=
  allV_bd [x, y] (by intro v hv; simp at hv; rcases hv with rfl | rfl <;> exact ⟨by assumption, by assumption⟩) 0
theorem miV_bd {x y : Int} (x0 : 0 ≤ x) (x1 : x ≤ 18446744073709551615) (y0 : 0 ≤ y) (y1 : y ≤ 18446744073709551615) : 0 ≤ miV x y ∧ miV x y ≤ 18446744073709551615 :=
  plV_bd x0 x1 (fneg_bd y0 y1).1 (fneg_bd y0 y1).2

theorem xplus_any (x y : Int) (x0 : 0 ≤ x) (x1 : x ≤ 18446744073709551615) (y0 : 0 ≤ y) (y1 : y ≤ 18446744073709551615) (w : World) (hT : Tab w) :
    Calls Tryd.prog 83 #[.int .u64 x, .int .u64 y] w fun e w' => e = .returned (.int .u64 (plV x y)) ∧ Below w.heap.size w w' := by
  have h := fun w' h => sadd_any x y 0 x0 x1 y0 y1 w' h
  have e1 : adV x y 0 = plV x y := (adV_yes (x := x) (y := y) (mode := 0) rfl).1
  rw [e1] at h
  have H := Lib.hid h
  have HT := Lib.hid hT
  generalize plV x y = V at *
  generalize adC x y 0 = C at *
  generalize adE 0 = E at *
  clear h hT e1
  go_enter Tryd.func83, Tryd.ntmps83
  go_wp2_with fail
  refine (H.out _ HT.out).mono ?_
  rintro r w1 ⟨rfl, hb⟩
  have B1 := Lib.hid hb
  clear hb
  go_wp2
  go_ret
  exact ⟨rfl, B1.out⟩
theorem xminus_any (x y : Int) (x0 : 0 ≤ x) (x1 : x ≤ 18446744073709551615) (y0 : 0 ≤ y) (y1 : y ≤ 18446744073709551615) (w : World) (hT : Tab w) :
    Calls Tryd.prog 84 #[.int .u64 x, .int .u64 y] w fun e w' => e = .returned (.int .u64 (miV x y)) ∧ Below w.heap.size w w' := by
  have hn := fneg_bd y0 y1
  have h := fun w' h => xplus_any x (fneg y) x0 x1 hn.1 hn.2 w' h
  have e1 : plV x (fneg y) = miV x y := rfl
  rw [e1] at h
  have H := Lib.hid h
  have HT := Lib.hid hT
  generalize miV x y = V at *
  clear h hT e1 hn
  go_enter Tryd.func84, Tryd.ntmps84
  go_wp2_with (go_at_call 29; refine (neg_any _ (by omega) (by omega) _).mono ?_; rintro e w' ⟨rfl, rfl⟩)
  refine (H.out _ HT.out).mono ?_
  rintro r w1 ⟨rfl, hb⟩
  have B1 := Lib.hid hb
  clear hb
  go_wp2
  go_ret
  exact ⟨rfl, B1.out⟩
def xcE (x y : Int) : Int := if hasV x = true ∧ hasV y = true then 0 else 4
theorem xcheck_any (x y : Int) (x0 : 0 ≤ x) (x1 : x ≤ 18446744073709551615) (y0 : 0 ≤ y) (y1 : y ≤ 18446744073709551615) (w : World) :
    Calls Tryd.prog 82 #[.int .u64 x, .int .u64 y] w fun e w' => e = .returned (.int .i64 (xcE x y)) ∧ w = w' := by
  have h1 := fun w' => hasValue_any x x0 x1 w'
  have h2 := fun w' => hasValue_any y y0 y1 w'
  unfold xcE
  cases hx : hasV x <;> cases hy : hasV y <;> rw [hx] at h1 <;> rw [hy] at h2
  all_goals
    have H1 := Lib.hid h1
    have H2 := Lib.hid h2
    clear h1 h2 hx hy
    go_enter Tryd.func82, Tryd.ntmps82
    go_wp2_with (first
      | (go_at_call 73; (with_reducible refine (H1.out _).mono ?_); rintro e w' ⟨rfl, rfl⟩)
      | (go_at_call 73; (with_reducible refine (H2.out _).mono ?_); rintro e w' ⟨rfl, rfl⟩))
    go_ret
    exact ⟨rfl, rfl⟩

/-- what TwoSum tells -/
def tsA (x y : Int) : Int := miV (plV x y) y
def tsB (x y : Int) : Int := miV (plV x y) (tsA x y)
def tsP (x y : Int) : Int := miV x (tsA x y)
def tsQ (x y : Int) : Int := miV y (tsB x y)
def tsE (x y : Int) : Int := if xcE x y = 0 then (if hasV (plV x y) = true then 0 else 2) else 4
def tsS (x y : Int) : Int := if tsE x y = 0 then plV x y else 0
def tsR (x y : Int) : Int := if tsE x y = 0 then plV (tsP x y) (tsQ x y) else 0
def Ret3 (w : World) (a b c : Int) (e : Ending) (w' : World) : Prop := e = .returned (.tuple #[.int .u64 a, .int .u64 b, .int .i64 c]) ∧ Below w.heap.size w w'
theorem xcE_cases (x y : Int) : xcE x y = 0 ∨ xcE x y = 4 := by unfold xcE; split <;> simp
set_option maxRecDepth 100000 in
set_option maxHeartbeats 4000000 in
theorem twoSum_any (x y : Int) (x0 : 0 ≤ x) (x1 : x ≤ 18446744073709551615) (y0 : 0 ≤ y) (y1 : y ≤ 18446744073709551615) (w : World) (hT : Tab w) :
    Calls Tryd.prog 30 #[.int .u64 x, .int .u64 y] w (Ret3 w (tsS x y) (tsR x y) (tsE x y)) := by
  have hck := fun w' => xcheck_any x y x0 x1 y0 y1 w'
  obtain ⟨s0, s1⟩ := plV_bd x0 x1 y0 y1
  have hhv := fun w' => hasValue_any (plV x y) s0 s1 w'
  have hp := fun w' h => xplus_any x y x0 x1 y0 y1 w' h
  have hcase : (xcE x y = 4 ∧ tsS x y = 0 ∧ tsR x y = 0 ∧ tsE x y = 4) ∨ (xcE x y = 0 ∧ hasV (plV x y) = false ∧ tsS x y = 0 ∧ tsR x y = 0 ∧ tsE x y = 2) ∨
      (xcE x y = 0 ∧ hasV (plV x y) = true ∧ tsS x y = plV x y ∧ tsR x y = plV (tsP x y) (tsQ x y) ∧ tsE x y = 0) := by
    unfold tsS tsR tsE
    rcases xcE_cases x y with h | h
    · rw [h]; right
      cases hv : hasV (plV x y)
      · left; simp
      · right; simp
    · rw [h]; left; simp
  rcases hcase with ⟨h1, h2, h3, h4⟩ | ⟨h1, hv, h2, h3, h4⟩ | ⟨h1, hv, h2, h3, h4⟩
  all_goals
    rw [h2, h3, h4]
    rw [h1] at hck
    have HCK := Lib.hid hck
    have HT := Lib.hid hT
    have HP := Lib.hid hp
    clear h1 h2 h3 h4 hck hT hp
  · clear HP hhv
    go_enter Tryd.func30, Tryd.ntmps30
    go_wp2_with (go_at_call 82; (refine (HCK.out _).mono ?_); rintro e w' ⟨rfl, rfl⟩)
    go_ret3
    exact ⟨rfl, Below.refl _ _⟩
  · rw [hv] at hhv
    have HV := Lib.hid hhv
    clear hhv hv
    generalize plV x y = s at *
    go_enter Tryd.func30, Tryd.ntmps30
    go_wp2_with (go_at_call 82; (refine (HCK.out _).mono ?_); rintro e w' ⟨rfl, rfl⟩)
    refine (HP.out _ HT.out).mono ?_
    rintro r w1 ⟨rfl, hb⟩
    have B1 := Lib.hid hb
    clear hb
    go_wp2_with (go_at_call 73; (refine (HV.out _).mono ?_); rintro e w' ⟨rfl, rfl⟩)
    go_ret3
    exact ⟨rfl, B1.out⟩
  · rw [hv] at hhv
    have HV := Lib.hid hhv
    clear hhv hv
    obtain ⟨a0, a1⟩ := miV_bd s0 s1 y0 y1
    obtain ⟨b0, b1⟩ := miV_bd s0 s1 a0 a1
    obtain ⟨p0, p1⟩ := miV_bd x0 x1 a0 a1
    obtain ⟨q0, q1⟩ := miV_bd y0 y1 b0 b1
    have ha := fun w' h => xminus_any (plV x y) y s0 s1 y0 y1 w' h
    have hb' := fun w' h => xminus_any (plV x y) (miV (plV x y) y) s0 s1 a0 a1 w' h
    have hpp := fun w' h => xminus_any x (miV (plV x y) y) x0 x1 a0 a1 w' h
    have hq := fun w' h => xminus_any y (miV (plV x y) (miV (plV x y) y)) y0 y1 b0 b1 w' h
    have hr := fun w' h => xplus_any (miV x (miV (plV x y) y)) (miV y (miV (plV x y) (miV (plV x y) y))) p0 p1 q0 q1 w' h
    have e1 : plV (miV x (miV (plV x y) y)) (miV y (miV (plV x y) (miV (plV x y) y))) = plV (tsP x y) (tsQ x y) := rfl
    rw [e1] at hr
    generalize plV (tsP x y) (tsQ x y) = r at *
    generalize miV y (miV (plV x y) (miV (plV x y) y)) = q at *
    generalize miV x (miV (plV x y) y) = p at *
    generalize miV (plV x y) (miV (plV x y) y) = b at *
    generalize miV (plV x y) y = a at *
    generalize plV x y = s at *
    have HA := Lib.hid ha
    have HB := Lib.hid hb'
    have HPP := Lib.hid hpp
    have HQ := Lib.hid hq
    have HR := Lib.hid hr
    clear ha hb' hpp hq hr e1
    go_enter Tryd.func30, Tryd.ntmps30
    go_wp2_with (go_at_call 82; (refine (HCK.out _).mono ?_); rintro e w' ⟨rfl, rfl⟩)
    refine (HP.out _ HT.out).mono ?_
    rintro r' w1 ⟨rfl, hb⟩
    have B1 := Lib.hid hb
    clear hb
    go_wp2_with (go_at_call 73; (refine (HV.out _).mono ?_); rintro e w' ⟨rfl, rfl⟩)
    refine (HA.out _ (HT.out.below B1.out)).mono ?_
    rintro r' w2 ⟨rfl, hb⟩
    have B2 := Lib.hid (bl_thru B1.out (Nat.le_refl _) hb)
    clear hb
    go_wp2_with fail
    refine (HB.out _ (HT.out.below B2.out)).mono ?_
    rintro r' w3 ⟨rfl, hb⟩
    have B3 := Lib.hid (bl_thru B2.out (Nat.le_refl _) hb)
    clear hb
    go_wp2_with fail
    refine (HPP.out _ (HT.out.below B3.out)).mono ?_
    rintro r' w4 ⟨rfl, hb⟩
    have B4 := Lib.hid (bl_thru B3.out (Nat.le_refl _) hb)
    clear hb
    go_wp2_with fail
    refine (HQ.out _ (HT.out.below B4.out)).mono ?_
    rintro r' w5 ⟨rfl, hb⟩
    have B5 := Lib.hid (bl_thru B4.out (Nat.le_refl _) hb)
    clear hb
    go_wp2_with fail
    refine (HR.out _ (HT.out.below B5.out)).mono ?_
    rintro r' w6 ⟨rfl, hb⟩
    have B6 := Lib.hid (bl_thru B5.out (Nat.le_refl _) hb)
    clear hb
    go_wp2
    go_ret3
    exact ⟨rfl, B6.out⟩

/-- what FastSum tells -/
def fsR (x y : Int) : Int := if tsE x y = 0 then miV y (miV (plV x y) x) else 0
set_option maxRecDepth 100000 in
set_option maxHeartbeats 4000000 in
theorem fastSum_any (x y : Int) (x0 : 0 ≤ x) (x1 : x ≤ 18446744073709551615) (y0 : 0 ≤ y) (y1 : y ≤ 18446744073709551615) (w : World) (hT : Tab w) :
    Calls Tryd.prog 55 #[.int .u64 x, .int .u64 y] w (Ret3 w (tsS x y) (fsR x y) (tsE x y)) := by
  have hck := fun w' => xcheck_any x y x0 x1 y0 y1 w'
  obtain ⟨s0, s1⟩ := plV_bd x0 x1 y0 y1
  have hhv := fun w' => hasValue_any (plV x y) s0 s1 w'
  have hp := fun w' h => xplus_any x y x0 x1 y0 y1 w' h
  have hcase : (xcE x y = 4 ∧ tsS x y = 0 ∧ fsR x y = 0 ∧ tsE x y = 4) ∨ (xcE x y = 0 ∧ hasV (plV x y) = false ∧ tsS x y = 0 ∧ fsR x y = 0 ∧ tsE x y = 2) ∨
      (xcE x y = 0 ∧ hasV (plV x y) = true ∧ tsS x y = plV x y ∧ fsR x y = miV y (miV (plV x y) x) ∧ tsE x y = 0) := by
    unfold tsS fsR tsE
    rcases xcE_cases x y with h | h
    · rw [h]; right
      cases hv : hasV (plV x y)
      · left; simp
      · right; simp
    · rw [h]; left; simp
  rcases hcase with ⟨h1, h2, h3, h4⟩ | ⟨h1, hv, h2, h3, h4⟩ | ⟨h1, hv, h2, h3, h4⟩
  all_goals
    rw [h2, h3, h4]
    rw [h1] at hck
    have HCK := Lib.hid hck
    have HT := Lib.hid hT
    have HP := Lib.hid hp
    clear h1 h2 h3 h4 hck hT hp
  · clear HP hhv
    go_enter Tryd.func55, Tryd.ntmps55
    go_wp2_with (go_at_call 82; (refine (HCK.out _).mono ?_); rintro e w' ⟨rfl, rfl⟩)
    go_ret3
    exact ⟨rfl, Below.refl _ _⟩
  · rw [hv] at hhv
    have HV := Lib.hid hhv
    clear hhv hv
    generalize plV x y = s at *
    go_enter Tryd.func55, Tryd.ntmps55
    go_wp2_with (go_at_call 82; (refine (HCK.out _).mono ?_); rintro e w' ⟨rfl, rfl⟩)
    refine (HP.out _ HT.out).mono ?_
    rintro r w1 ⟨rfl, hb⟩
    have B1 := Lib.hid hb
    clear hb
    go_wp2_with (go_at_call 73; (refine (HV.out _).mono ?_); rintro e w' ⟨rfl, rfl⟩)
    go_ret3
    exact ⟨rfl, B1.out⟩
  · rw [hv] at hhv
    have HV := Lib.hid hhv
    clear hhv hv
    obtain ⟨a0, a1⟩ := miV_bd s0 s1 x0 x1
    have ha := fun w' h => xminus_any (plV x y) x s0 s1 x0 x1 w' h
    have hb' := fun w' h => xminus_any y (miV (plV x y) x) y0 y1 a0 a1 w' h
    generalize miV y (miV (plV x y) x) = b at *
    generalize miV (plV x y) x = a at *
    generalize plV x y = s at *
    have HA := Lib.hid ha
    have HB := Lib.hid hb'
    clear ha hb'
    go_enter Tryd.func55, Tryd.ntmps55
    go_wp2_with (go_at_call 82; (refine (HCK.out _).mono ?_); rintro e w' ⟨rfl, rfl⟩)
    refine (HP.out _ HT.out).mono ?_
    rintro r' w1 ⟨rfl, hb⟩
    have B1 := Lib.hid hb
    clear hb
    go_wp2_with (go_at_call 73; (refine (HV.out _).mono ?_); rintro e w' ⟨rfl, rfl⟩)
    refine (HA.out _ (HT.out.below B1.out)).mono ?_
    rintro r' w2 ⟨rfl, hb⟩
    have B2 := Lib.hid (bl_thru B1.out (Nat.le_refl _) hb)
    clear hb
    go_wp2_with fail
    refine (HB.out _ (HT.out.below B2.out)).mono ?_
    rintro r' w3 ⟨rfl, hb⟩
    have B3 := Lib.hid (bl_thru B2.out (Nat.le_refl _) hb)
    clear hb
    go_wp2
    go_ret3
    exact ⟨rfl, B3.out⟩

/-- what TwoProd tells -/
def tpE (x y : Int) : Int := if xcE x y = 0 then (if hasV (muV0 x y 0) = true then 0 else 2) else 4
def tpP (x y : Int) : Int := if tpE x y = 0 then muV0 x y 0 else 0
def tpR (x y : Int) : Int := if tpE x y = 0 then fmV0 x y (fneg (muV0 x y 0)) 0 else 0
theorem muV0_bd' (x y : Int) : 0 ≤ muV0 x y 0 ∧ muV0 x y 0 ≤ 18446744073709551615 := by
  have := muV_bd x y 0
  rw [(muV_yes (x := x) (y := y) (mode := 0) rfl).1] at this; exact this
set_option maxRecDepth 100000 in
set_option maxHeartbeats 4000000 in
theorem twoProd_any (x y : Int) (x0 : 0 ≤ x) (x1 : x ≤ 18446744073709551615) (y0 : 0 ≤ y) (y1 : y ≤ 18446744073709551615) (w : World) (hT : Tab w) :
    Calls Tryd.prog 31 #[.int .u64 x, .int .u64 y] w (Ret3 w (tpP x y) (tpR x y) (tpE x y)) := by
  have hck := fun w' => xcheck_any x y x0 x1 y0 y1 w'
  obtain ⟨s0, s1⟩ := muV0_bd' x y
  obtain ⟨n0, n1⟩ := fneg_bd s0 s1
  have hhv := fun w' => hasValue_any (muV0 x y 0) s0 s1 w'
  have hp := fun w' h => pmul_any x y 0 x0 x1 y0 y1 w' h
  have hf := fun w' h => pfma_any x y (fneg (muV0 x y 0)) 0 x0 x1 y0 y1 n0 n1 w' h
  rw [(muV_yes (x := x) (y := y) (mode := 0) rfl).1] at hp
  rw [(fmV_yes (x := x) (y := y) (z := fneg (muV0 x y 0)) (mode := 0) rfl).1] at hf
  have hng := fun w' => neg_any (muV0 x y 0) s0 s1 w'
  have hcase : (xcE x y = 4 ∧ tpP x y = 0 ∧ tpR x y = 0 ∧ tpE x y = 4) ∨ (xcE x y = 0 ∧ hasV (muV0 x y 0) = false ∧ tpP x y = 0 ∧ tpR x y = 0 ∧ tpE x y = 2) ∨
      (xcE x y = 0 ∧ hasV (muV0 x y 0) = true ∧ tpP x y = muV0 x y 0 ∧ tpR x y = fmV0 x y (fneg (muV0 x y 0)) 0 ∧ tpE x y = 0) := by
    unfold tpP tpR tpE
    rcases xcE_cases x y with h | h
    · rw [h]; right
      cases hv : hasV (muV0 x y 0)
      · left; simp
      · right; simp
    · rw [h]; left; simp
  generalize muC x y 0 = C at *
  generalize adE 0 = E at *
  generalize fmC x y (fneg (muV0 x y 0)) 0 = D at *
  generalize fmV0 x y (fneg (muV0 x y 0)) 0 = r at *
  generalize fneg (muV0 x y 0) = n at *
  rcases hcase with ⟨h1, h2, h3, h4⟩ | ⟨h1, hv, h2, h3, h4⟩ | ⟨h1, hv, h2, h3, h4⟩
  all_goals
    rw [h2, h3, h4]
    rw [h1] at hck
    have HCK := Lib.hid hck
    have HT := Lib.hid hT
    have HP := Lib.hid hp
    have HF := Lib.hid hf
    have HN := Lib.hid hng
    clear h1 h2 h3 h4 hck hT hp hf hng
  · clear HP hhv HF HN
    go_enter Tryd.func31, Tryd.ntmps31
    go_wp2_with (go_at_call 82; (refine (HCK.out _).mono ?_); rintro e w' ⟨rfl, rfl⟩)
    go_ret3
    exact ⟨rfl, Below.refl _ _⟩
  · rw [hv] at hhv
    have HV := Lib.hid hhv
    clear hhv hv HF HN
    generalize muV0 x y 0 = s at *
    go_enter Tryd.func31, Tryd.ntmps31
    go_wp2_with (go_at_call 82; (refine (HCK.out _).mono ?_); rintro e w' ⟨rfl, rfl⟩)
    refine (HP.out _ HT.out).mono ?_
    rintro r w1 ⟨rfl, hb⟩
    have B1 := Lib.hid hb
    clear hb
    go_wp2_with (go_at_call 73; (refine (HV.out _).mono ?_); rintro e w' ⟨rfl, rfl⟩)
    go_ret3
    exact ⟨rfl, B1.out⟩
  · rw [hv] at hhv
    have HV := Lib.hid hhv
    clear hhv hv
    generalize muV0 x y 0 = s at *
    go_enter Tryd.func31, Tryd.ntmps31
    go_wp2_with (go_at_call 82; (refine (HCK.out _).mono ?_); rintro e w' ⟨rfl, rfl⟩)
    refine (HP.out _ HT.out).mono ?_
    rintro r' w1 ⟨rfl, hb⟩
    have B1 := Lib.hid hb
    clear hb
    go_wp2_with (first | (go_at_call 73; (refine (HV.out _).mono ?_); rintro e w' ⟨rfl, rfl⟩) | (go_at_call 29; (refine (HN.out _).mono ?_); rintro e w' ⟨rfl, rfl⟩))
    refine (HF.out _ (HT.out.below B1.out)).mono ?_
    rintro r' w2 ⟨rfl, hb⟩
    have B2 := Lib.hid (bl_thru B1.out (Nat.le_refl _) hb)
    clear hb
    go_wp2
    go_ret3
    exact ⟨rfl, B2.out⟩
end Go.Proofs.YtapdjclhpcakeaaDoor

/-
  PLAIN: sums and products that are rounded to the nearest, as whole numbers; what TwoSum, FastSum, TwoProd tell is all there is. No Go function here.
-/
namespace Go.Proofs.YtapdjclhpcakeaaDoor
open Go.RowKit Nt Fm Fl

theorem rep_smag (x : Int) : Ep.Rep (smag x) := (rep_iff _).2 ⟨_, smag_abs x⟩
theorem smag_fneg {x : Int} (x0 : 0 ≤ x) (x1 : x ≤ 18446744073709551615) : smag (fneg x) = -smag x := by
  unfold smag
  rw [fabs_fneg, fng_fneg x0 x1]
  cases fng x <;> simp
theorem smag_z {x : Int} (h : fabs x = 0) : smag x = 0 := by
  have := smag_abs x
  rw [h] at this
  have e : mag (0 : Int).toNat = 0 := mag_zero
  rw [e] at this; omega
theorem fin_numR (d : D) (mode : Int) (h : fabs (numR d mode) < 9218868437227405312) : numk (kd d.neg mode) d.m d.e < MR := by
  have h1 := (fng_numR d mode).1
  have h2 := fabs_bd (numR d mode)
  have hMR : MR = 9218868437227405312 := rfl
  omega
/-- rounded to the nearest -/
theorem near_numR {d : D} {t : Nat} (ht : 0 ≤ d.e + ((1074 + t : Nat) : Int)) {z : Int} (hz : d.vl (1074 + t) = z * ((2 ^ t : Nat) : Int)) (h : fabs (numR d 0) < 9218868437227405312) : Ep.Nr z (smag (numR d 0)) := by
  have hf := fin_numR d 0 h
  have e2 : kd d.neg 0 = 2 := by unfold kd; cases d.neg <;> rfl
  obtain ⟨h1, h2⟩ := fng_numR d 0
  rw [e2] at h1 hf
  have ht' : 0 ≤ d.e + 1074 + (t : Int) := by omega
  have hp := Nat.two_pow_pos t
  have hT : tt t d.m d.e = z.natAbs * 2 ^ t := by rw [tt_vl, hz, Int.natAbs_mul, Int.natAbs_natCast]
  have ha : (smag (numR d 0)).natAbs = mag (numk 2 d.m d.e) := by rw [smag_abs, h1]
  refine ⟨(rep_iff _).2 ⟨_, ha⟩, fun f hf2 => ?_⟩
  obtain ⟨r, hr⟩ := (rep_iff f).1 hf2
  have hn := numk_nearest ht' hf r
  rw [hT] at hn
  have key : ((z.natAbs : Int) - (mag (numk 2 d.m d.e) : Int)).natAbs ≤ ((z.natAbs : Int) - (mag r : Int)).natAbs := by
    have a : ∀ u v : Nat, (((u * 2 ^ t : Nat) : Int) - ((v * 2 ^ t : Nat) : Int)).natAbs = ((u : Int) - (v : Int)).natAbs * 2 ^ t := by
      intro u v
      rw [Int.natCast_mul, Int.natCast_mul, ← Int.sub_mul, Int.natAbs_mul, Int.natAbs_natCast]
    rw [a, a] at hn
    exact Nat.le_of_mul_le_mul_right hn hp
  have hs : (0 ≤ z ∧ 0 ≤ smag (numR d 0)) ∨ (z ≤ 0 ∧ smag (numR d 0) ≤ 0) := by
    have hzs : z * ((2 ^ t : Nat) : Int) = d.sm * 2 ^ (d.e + ((1074 + t : Nat) : Int)).toNat := hz.symm
    have hpp : (0 : Int) < ((2 ^ t : Nat) : Int) := by omega
    have hq : (0 : Int) ≤ 2 ^ (d.e + ((1074 + t : Nat) : Int)).toNat := Int.le_of_lt (Int.pow_pos (by decide))
    unfold smag
    rw [h2]
    unfold D.sm at hzs
    cases hng : d.neg <;> rw [hng] at hzs <;> simp only [Bool.false_eq_true, if_false, if_true] at hzs ⊢
    · left
      refine ⟨?_, by omega⟩
      apply Int.le_of_mul_le_mul_right (a := ((2 ^ t : Nat) : Int)) _ hpp
      rw [Int.zero_mul, hzs]; exact Int.mul_nonneg (by omega) hq
    · right
      refine ⟨?_, by omega⟩
      apply Int.le_of_mul_le_mul_right (a := ((2 ^ t : Nat) : Int)) _ hpp
      rw [Int.zero_mul, hzs]; exact Int.mul_nonpos_of_nonpos_of_nonneg (by omega) hq
  omega
/-- no end is met -/
theorem fin_of_le {d : D} {t : Nat} (ht : 0 ≤ d.e + ((1074 + t : Nat) : Int)) {z : Int} (hz : d.vl (1074 + t) = z * ((2 ^ t : Nat) : Int)) {n : Nat} (n0 : 52 ≤ n) (n1 : n ≤ 2097) (h : z.natAbs ≤ Ep.P n) (mode : Int) : fabs (numR d mode) < 9218868437227405312 := by
  have ht' : 0 ≤ d.e + 1074 + (t : Int) := by omega
  have hMR : MR = 9218868437227405312 := rfl
  have hm := mag_of 4503599627370496 (n - 52) (by omega) (by omega)
  have e : 4503599627370496 * 2 ^ (n - 52) = Ep.P n := by
    rw [show n = 52 + (n - 52) by omega, Ep.P_add, show 52 + (n - 52) - 52 = n - 52 by omega]; rfl
  rw [e] at hm
  have hT : tt t d.m d.e = z.natAbs * 2 ^ t := by rw [tt_vl, hz, Int.natAbs_mul, Int.natAbs_natCast]
  have := numk_le ht' (kd d.neg mode) (r := 4503599627370496 + (n - 52) * 4503599627370496) (by omega) (by rw [hT, hm]; exact Nat.mul_le_mul_right _ h)
  have h1 := (fng_numR d mode).1
  have h2 := fabs_bd (numR d mode)
  omega
/-- a rounded sum -/
theorem sum_nr {x y : Int} (x0 : 0 ≤ x) (x1 : x ≤ 18446744073709551615) (y0 : 0 ≤ y) (y1 : y ≤ 18446744073709551615) (hx : fabs x < 9218868437227405312) (hy : fabs y < 9218868437227405312) (h : fabs (plV x y) < 9218868437227405312) :
    Ep.Nr (smag x + smag y) (smag (plV x y)) := by
  obtain ⟨-, -, -, a, b⟩ := allV_fin [x, y] (by simp [hx, hy]) 0
  obtain ⟨v1, v2⟩ := sumD_two_vl x0 x1 y0 y1 hx hy
  unfold plV at h ⊢
  by_cases hz : (sumD [x, y]).m = 0
  · have e := b hz
    rw [vl_zero hz] at v1
    rw [← v1, smag_z e]
    exact ⟨Ep.Rep.zero, fun f _ => by omega⟩
  · rw [a hz] at h ⊢
    exact near_numR (t := 0) v2 (by rw [show 1074 + 0 = 1074 from rfl, v1]; simp) h
theorem sum_fin {x y : Int} (x0 : 0 ≤ x) (x1 : x ≤ 18446744073709551615) (y0 : 0 ≤ y) (y1 : y ≤ 18446744073709551615) (hx : fabs x < 9218868437227405312) (hy : fabs y < 9218868437227405312) {n : Nat} (n0 : 52 ≤ n) (n1 : n ≤ 2097) (h : (smag x + smag y).natAbs ≤ Ep.P n) :
    fabs (plV x y) < 9218868437227405312 ∧ (smag (plV x y)).natAbs ≤ Ep.P n ∧ Ep.Nr (smag x + smag y) (smag (plV x y)) := by
  have hf : fabs (plV x y) < 9218868437227405312 := by
    obtain ⟨-, -, -, a, b⟩ := allV_fin [x, y] (by simp [hx, hy]) 0
    obtain ⟨v1, v2⟩ := sumD_two_vl x0 x1 y0 y1 hx hy
    unfold plV
    by_cases hz : (sumD [x, y]).m = 0
    · rw [b hz]; decide
    · rw [a hz]
      exact fin_of_le (t := 0) v2 (z := smag x + smag y) (by rw [show 1074 + 0 = 1074 from rfl, v1]; simp) n0 n1 h 0
  have hn := sum_nr x0 x1 y0 y1 hx hy hf
  refine ⟨hf, ?_, hn⟩
  have a1 := hn.ge (Ep.Rep.pow n).neg
  have a2 := hn.le (Ep.Rep.pow n)
  omega
theorem diff_fin {x y : Int} (x0 : 0 ≤ x) (x1 : x ≤ 18446744073709551615) (y0 : 0 ≤ y) (y1 : y ≤ 18446744073709551615) (hx : fabs x < 9218868437227405312) (hy : fabs y < 9218868437227405312) {n : Nat} (n0 : 52 ≤ n) (n1 : n ≤ 2097) (h : (smag x - smag y).natAbs ≤ Ep.P n) :
    fabs (miV x y) < 9218868437227405312 ∧ (smag (miV x y)).natAbs ≤ Ep.P n ∧ Ep.Nr (smag x - smag y) (smag (miV x y)) := by
  obtain ⟨n0', n1'⟩ := fneg_bd y0 y1
  have e : smag x - smag y = smag x + smag (fneg y) := by rw [smag_fneg y0 y1]; omega
  rw [e] at h ⊢
  exact sum_fin x0 x1 n0' n1' hx (by rw [fabs_fneg]; exact hy) n0 n1 h
/-- the law of TwoSum -/
theorem two_law {x y : Int} (x0 : 0 ≤ x) (x1 : x ≤ 18446744073709551615) (y0 : 0 ≤ y) (y1 : y ≤ 18446744073709551615) (hx : fabs x < 9218868437227405312) (hy : fabs y < 9218868437227405312) {N : Nat} (n0 : 52 ≤ N) (n1 : N ≤ 2080)
    (bx : (smag x).natAbs ≤ Ep.P N) (by' : (smag y).natAbs ≤ Ep.P N) :
    fabs (plV x y) < 9218868437227405312 ∧ fabs (plV (tsP x y) (tsQ x y)) < 9218868437227405312 ∧ smag (plV (tsP x y) (tsQ x y)) = smag x + smag y - smag (plV x y) ∧ Ep.Nr (smag x + smag y) (smag (plV x y)) := by
  have p1 : Ep.P (N + 1) = 2 * Ep.P N := Ep.P_succ _
  have p2 : Ep.P (N + 2) = 2 * Ep.P (N + 1) := Ep.P_succ _
  have p3 : Ep.P (N + 3) = 2 * Ep.P (N + 2) := Ep.P_succ _
  have p4 : Ep.P (N + 4) = 2 * Ep.P (N + 3) := Ep.P_succ _
  have p5 : Ep.P (N + 5) = 2 * Ep.P (N + 4) := Ep.P_succ _
  obtain ⟨s1, s2, s3⟩ := sum_fin x0 x1 y0 y1 hx hy (n := N + 1) (by omega) (by omega) (by omega)
  obtain ⟨sb0, sb1⟩ := plV_bd x0 x1 y0 y1
  obtain ⟨a1, a2, a3⟩ := diff_fin sb0 sb1 y0 y1 s1 hy (n := N + 2) (by omega) (by omega) (by omega)
  obtain ⟨ab0, ab1⟩ := miV_bd sb0 sb1 y0 y1
  obtain ⟨b1, b2, b3⟩ := diff_fin sb0 sb1 ab0 ab1 s1 a1 (n := N + 3) (by omega) (by omega) (by omega)
  obtain ⟨bb0, bb1⟩ := miV_bd sb0 sb1 ab0 ab1
  obtain ⟨c1, c2, c3⟩ := diff_fin x0 x1 ab0 ab1 hx a1 (n := N + 3) (by omega) (by omega) (by omega)
  obtain ⟨cb0, cb1⟩ := miV_bd x0 x1 ab0 ab1
  obtain ⟨d1, d2, d3⟩ := diff_fin y0 y1 bb0 bb1 hy b1 (n := N + 4) (by omega) (by omega) (by omega)
  obtain ⟨db0, db1⟩ := miV_bd y0 y1 bb0 bb1
  obtain ⟨e1, e2, e3⟩ := sum_fin cb0 cb1 db0 db1 c1 d1 (n := N + 5) (by omega) (by omega) (by omega)
  exact ⟨s1, e1, Ep.twoSum (rep_smag x) (rep_smag y) s3 a3 b3 c3 d3 e3, s3⟩
/-- the law of FastSum -/
theorem fast_law {x y : Int} (x0 : 0 ≤ x) (x1 : x ≤ 18446744073709551615) (y0 : 0 ≤ y) (y1 : y ≤ 18446744073709551615) (hx : fabs x < 9218868437227405312) (hy : fabs y < 9218868437227405312) {N : Nat} (n0 : 52 ≤ N) (n1 : N ≤ 2080)
    (bx : (smag x).natAbs ≤ Ep.P N) (by' : (smag y).natAbs ≤ Ep.P N) (hxy : fabs y ≤ fabs x) :
    fabs (miV y (miV (plV x y) x)) < 9218868437227405312 ∧ smag (miV y (miV (plV x y) x)) = smag x + smag y - smag (plV x y) := by
  have p1 : Ep.P (N + 1) = 2 * Ep.P N := Ep.P_succ _
  have p2 : Ep.P (N + 2) = 2 * Ep.P (N + 1) := Ep.P_succ _
  have p3 : Ep.P (N + 3) = 2 * Ep.P (N + 2) := Ep.P_succ _
  obtain ⟨s1, s2, s3⟩ := sum_fin x0 x1 y0 y1 hx hy (n := N + 1) (by omega) (by omega) (by omega)
  obtain ⟨sb0, sb1⟩ := plV_bd x0 x1 y0 y1
  obtain ⟨a1, a2, a3⟩ := diff_fin sb0 sb1 x0 x1 s1 hx (n := N + 2) (by omega) (by omega) (by omega)
  obtain ⟨ab0, ab1⟩ := miV_bd sb0 sb1 x0 x1
  obtain ⟨b1, b2, b3⟩ := diff_fin y0 y1 ab0 ab1 hy a1 (n := N + 3) (by omega) (by omega) (by omega)
  have hmag : (smag y).natAbs ≤ (smag x).natAbs := by
    rw [smag_abs, smag_abs]; exact mag_mono (by omega)
  exact ⟨b1, Ep.fastSum (rep_smag x) (rep_smag y) hmag s3 a3 b3⟩
/-- half of the last place -/
theorem half_law {x y : Int} (hs : fabs (plV x y) < 9218868437227405312) (h : Ep.Nr (smag x + smag y) (smag (plV x y))) : 2 * (smag x + smag y - smag (plV x y)).natAbs ≤ 2 ^ (ulE (plV x y) + 1074).toNat := by
  have hb := fabs_bd (plV x y)
  have be := fexp_bd (plV x y)
  have hlt : (smag (plV x y)).natAbs < Ep.P (53 + (ulE (plV x y) + 1074).toNat) := by
    rw [smag_abs]
    have hfe : fabs (plV x y) = fexp (plV x y) * 4503599627370496 + ffr (plV x y) := by unfold fabs fexp ffr; omega
    have bf := ffr_bd (plV x y)
    have e : (ulE (plV x y) + 1074).toNat = (fabs (plV x y)).toNat / 4503599627370496 - 1 := by
      unfold ulE; omega
    rw [e]
    obtain ⟨p, q1, q2⟩ := mag_part (fabs (plV x y)).toNat
    have hm := mag_lt_succ (fabs (plV x y)).toNat
    rw [mag_succ] at hm
    unfold mag
    split
    · rename_i hlt
      have : Ep.P 53 ≤ Ep.P (53 + ((fabs (plV x y)).toNat / 4503599627370496 - 1)) := Ep.P_le (by omega)
      have e53 : Ep.P 53 = 9007199254740992 := by decide
      omega
    · rw [Ep.P_add]
      have e53 : Ep.P 53 = 9007199254740992 := by decide
      rw [e53]
      exact Nat.mul_lt_mul_of_pos_right (by omega) (Ep.P_pos _)
  have hz : (smag x + smag y).natAbs ≤ Ep.P (53 + (ulE (plV x y) + 1074).toNat) := by
    have r := Ep.Rep.pow (53 + (ulE (plV x y) + 1074).toNat)
    have a1 := h.ge r
    have a2 := h.le r.neg
    omega
  exact Ep.half h hz
/-- of a product: what is lost is a number -/
theorem prod_rest {X Y Z s : Int} {q1 q2 : Int} {J : Nat} (hq1 : q1.natAbs < 9007199254740992) (hq2 : q2.natAbs < 9007199254740992) (hZ : Z = q1 * q2 * (Ep.P J : Int)) (h : Ep.Nr Z s) : Ep.Rep (Z - s) ∧ (Z - s).natAbs ≤ Ep.P (53 + J) := by
  have hd : (Ep.P J : Int) ∣ Z := ⟨q1 * q2, by rw [hZ, Int.mul_comm]⟩
  have hZ2 : Z.natAbs ≤ Ep.P (53 + (53 + J)) := by
    rw [hZ, Int.natAbs_mul, Int.natAbs_mul, Int.natAbs_natCast, Ep.P_add, Ep.P_add, ← Nat.mul_assoc]
    have e53 : Ep.P 53 = 9007199254740992 := by decide
    rw [e53]
    exact Nat.mul_le_mul_right _ (Nat.mul_le_mul (by omega) (by omega))
  have hh := Ep.half h hZ2
  refine ⟨⟨J, Int.dvd_sub hd (h.dvd hd), by omega⟩, by omega⟩
end Go.Proofs.YtapdjclhpcakeaaDoor
