/-
  THE WALKS of exact.plus, minus, check, TwoSum, FastSum, TwoProd.
-/
import Derived.Test.YtapdjclhpcakeaaDoorPe
set_option linter.unusedVariables false
set_option linter.unusedSimpArgs false
namespace Go.Proofs.YtapdjclhpcakeaaDoor
open Go.RowKit Nt Fm Fl

def plV (x y : Int) : Int := allV [x, y] 0
def miV (x y : Int) : Int := plV x (fneg y)
theorem plV_bd {x y : Int} (x0 : 0 ≤ x) (x1 : x ≤ 18446744073709551615) (y0 : 0 ≤ y) (y1 : y ≤ 18446744073709551615) : 0 ≤ plV x y ∧ plV x y ≤ 18446744073709551615 :=
  allV_bd [x, y] (by intro v hv; simp at hv; rcases hv with rfl | rfl <;> exact ⟨by assumption, by assumption⟩) 0
theorem miV_bd {x y : Int} (x0 : 0 ≤ x) (x1 : x ≤ 18446744073709551615) (y0 : 0 ≤ y) (y1 : y ≤ 18446744073709551615) : 0 ≤ miV x y ∧ miV x y ≤ 18446744073709551615 :=
  plV_bd x0 x1 (fneg_bd y0 y1).1 (fneg_bd y0 y1).2

theorem xplus_any (x y : Int) (x0 : 0 ≤ x) (x1 : x ≤ 18446744073709551615) (y0 : 0 ≤ y) (y1 : y ≤ 18446744073709551615) (w : World) (hT : Tab w) :
    Calls Tryd.prog 83 #[.int .u64 x, .int .u64 y] w fun e w' => e = .returned (.int .u64 (plV x y)) ∧ Below w.heap.size w w' := by
  have h := fun w' h => sadd_any x y 0 x0 x1 y0 y1 w' h
  have e1 : adV x y 0 = plV x y := (adV_yes (x := x) (y := y) (mode := 0) rfl).1
  rw [e1] at h
  have H := Lib.hid h
  have HT := Lib.hid hT
  generalize plV x y = V at *
  generalize adC x y 0 = C at *
  generalize adE 0 = E at *
  clear h hT e1
  go_enter Tryd.func83, Tryd.ntmps83
  go_wp2_with fail
  refine (H.out _ HT.out).mono ?_
  rintro r w1 ⟨rfl, hb⟩
  have B1 := Lib.hid hb
  clear hb
  go_wp2
  go_ret
  exact ⟨rfl, B1.out⟩
theorem xminus_any (x y : Int) (x0 : 0 ≤ x) (x1 : x ≤ 18446744073709551615) (y0 : 0 ≤ y) (y1 : y ≤ 18446744073709551615) (w : World) (hT : Tab w) :
    Calls Tryd.prog 84 #[.int .u64 x, .int .u64 y] w fun e w' => e = .returned (.int .u64 (miV x y)) ∧ Below w.heap.size w w' := by
  have hn := fneg_bd y0 y1
  have h := fun w' h => xplus_any x (fneg y) x0 x1 hn.1 hn.2 w' h
  have e1 : plV x (fneg y) = miV x y := rfl
  rw [e1] at h
  have H := Lib.hid h
  have HT := Lib.hid hT
  generalize miV x y = V at *
  clear h hT e1 hn
  go_enter Tryd.func84, Tryd.ntmps84
  go_wp2_with (go_at_call 29; refine (neg_any _ (by omega) (by omega) _).mono ?_; rintro e w' ⟨rfl, rfl⟩)
  refine (H.out _ HT.out).mono ?_
  rintro r w1 ⟨rfl, hb⟩
  have B1 := Lib.hid hb
  clear hb
  go_wp2
  go_ret
  exact ⟨rfl, B1.out⟩
def xcE (x y : Int) : Int := if hasV x = true ∧ hasV y = true then 0 else 4
theorem xcheck_any (x y : Int) (x0 : 0 ≤ x) (x1 : x ≤ 18446744073709551615) (y0 : 0 ≤ y) (y1 : y ≤ 18446744073709551615) (w : World) :
    Calls Tryd.prog 82 #[.int .u64 x, .int .u64 y] w fun e w' => e = .returned (.int .i64 (xcE x y)) ∧ w = w' := by
  have h1 := fun w' => hasValue_any x x0 x1 w'
  have h2 := fun w' => hasValue_any y y0 y1 w'
  unfold xcE
  cases hx : hasV x <;> cases hy : hasV y <;> rw [hx] at h1 <;> rw [hy] at h2
  all_goals
    have H1 := Lib.hid h1
    have H2 := Lib.hid h2
    clear h1 h2 hx hy
    go_enter Tryd.func82, Tryd.ntmps82
    go_wp2_with (first
      | (go_at_call 73; (with_reducible refine (H1.out _).mono ?_); rintro e w' ⟨rfl, rfl⟩)
      | (go_at_call 73; (with_reducible refine (H2.out _).mono ?_); rintro e w' ⟨rfl, rfl⟩))
    go_ret
    exact ⟨rfl, rfl⟩

/-- what TwoSum tells -/
def tsA (x y : Int) : Int := miV (plV x y) y
def tsB (x y : Int) : Int := miV (plV x y) (tsA x y)
def tsP (x y : Int) : Int := miV x (tsA x y)
def tsQ (x y : Int) : Int := miV y (tsB x y)
def tsE (x y : Int) : Int := if xcE x y = 0 then (if hasV (plV x y) = true then 0 else 2) else 4
def tsS (x y : Int) : Int := if tsE x y = 0 then plV x y else 0
def tsR (x y : Int) : Int := if tsE x y = 0 then plV (tsP x y) (tsQ x y) else 0
def Ret3 (w : World) (a b c : Int) (e : Ending) (w' : World) : Prop := e = .returned (.tuple #[.int .u64 a, .int .u64 b, .int .i64 c]) ∧ Below w.heap.size w w'
theorem xcE_cases (x y : Int) : xcE x y = 0 ∨ xcE x y = 4 := by unfold xcE; split <;> simp
set_option maxRecDepth 100000 in
set_option maxHeartbeats 4000000 in
theorem twoSum_any (x y : Int) (x0 : 0 ≤ x) (x1 : x ≤ 18446744073709551615) (y0 : 0 ≤ y) (y1 : y ≤ 18446744073709551615) (w : World) (hT : Tab w) :
    Calls Tryd.prog 30 #[.int .u64 x, .int .u64 y] w (Ret3 w (tsS x y) (tsR x y) (tsE x y)) := by
  have hck := fun w' => xcheck_any x y x0 x1 y0 y1 w'
  obtain ⟨s0, s1⟩ := plV_bd x0 x1 y0 y1
  have hhv := fun w' => hasValue_any (plV x y) s0 s1 w'
  have hp := fun w' h => xplus_any x y x0 x1 y0 y1 w' h
  have hcase : (xcE x y = 4 ∧ tsS x y = 0 ∧ tsR x y = 0 ∧ tsE x y = 4) ∨ (xcE x y = 0 ∧ hasV (plV x y) = false ∧ tsS x y = 0 ∧ tsR x y = 0 ∧ tsE x y = 2) ∨
      (xcE x y = 0 ∧ hasV (plV x y) = true ∧ tsS x y = plV x y ∧ tsR x y = plV (tsP x y) (tsQ x y) ∧ tsE x y = 0) := by
    unfold tsS tsR tsE
    rcases xcE_cases x y with h | h
    · rw [h]; right
      cases hv : hasV (plV x y)
      · left; simp
      · right; simp
    · rw [h]; left; simp
  rcases hcase with ⟨h1, h2, h3, h4⟩ | ⟨h1, hv, h2, h3, h4⟩ | ⟨h1, hv, h2, h3, h4⟩
  all_goals
    rw [h2, h3, h4]
    rw [h1] at hck
    have HCK := Lib.hid hck
    have HT := Lib.hid hT
    have HP := Lib.hid hp
    clear h1 h2 h3 h4 hck hT hp
  · clear HP hhv
    go_enter Tryd.func30, Tryd.ntmps30
    go_wp2_with (go_at_call 82; (refine (HCK.out _).mono ?_); rintro e w' ⟨rfl, rfl⟩)
    go_ret3
    exact ⟨rfl, Below.refl _ _⟩
  · rw [hv] at hhv
    have HV := Lib.hid hhv
    clear hhv hv
    generalize plV x y = s at *
    go_enter Tryd.func30, Tryd.ntmps30
    go_wp2_with (go_at_call 82; (refine (HCK.out _).mono ?_); rintro e w' ⟨rfl, rfl⟩)
    refine (HP.out _ HT.out).mono ?_
    rintro r w1 ⟨rfl, hb⟩
    have B1 := Lib.hid hb
    clear hb
    go_wp2_with (go_at_call 73; (refine (HV.out _).mono ?_); rintro e w' ⟨rfl, rfl⟩)
    go_ret3
    exact ⟨rfl, B1.out⟩
  · rw [hv] at hhv
    have HV := Lib.hid hhv
    clear hhv hv
    obtain ⟨a0, a1⟩ := miV_bd s0 s1 y0 y1
    obtain ⟨b0, b1⟩ := miV_bd s0 s1 a0 a1
    obtain ⟨p0, p1⟩ := miV_bd x0 x1 a0 a1
    obtain ⟨q0, q1⟩ := miV_bd y0 y1 b0 b1
    have ha := fun w' h => xminus_any (plV x y) y s0 s1 y0 y1 w' h
    have hb' := fun w' h => xminus_any (plV x y) (miV (plV x y) y) s0 s1 a0 a1 w' h
    have hpp := fun w' h => xminus_any x (miV (plV x y) y) x0 x1 a0 a1 w' h
    have hq := fun w' h => xminus_any y (miV (plV x y) (miV (plV x y) y)) y0 y1 b0 b1 w' h
    have hr := fun w' h => xplus_any (miV x (miV (plV x y) y)) (miV y (miV (plV x y) (miV (plV x y) y))) p0 p1 q0 q1 w' h
    have e1 : plV (miV x (miV (plV x y) y)) (miV y (miV (plV x y) (miV (plV x y) y))) = plV (tsP x y) (tsQ x y) := rfl
    rw [e1] at hr
    generalize plV (tsP x y) (tsQ x y) = r at *
    generalize miV y (miV (plV x y) (miV (plV x y) y)) = q at *
    generalize miV x (miV (plV x y) y) = p at *
    generalize miV (plV x y) (miV (plV x y) y) = b at *
    generalize miV (plV x y) y = a at *
    generalize plV x y = s at *
    have HA := Lib.hid ha
    have HB := Lib.hid hb'
    have HPP := Lib.hid hpp
    have HQ := Lib.hid hq
    have HR := Lib.hid hr
    clear ha hb' hpp hq hr e1
    go_enter Tryd.func30, Tryd.ntmps30
    go_wp2_with (go_at_call 82; (refine (HCK.out _).mono ?_); rintro e w' ⟨rfl, rfl⟩)
    refine (HP.out _ HT.out).mono ?_
    rintro r' w1 ⟨rfl, hb⟩
    have B1 := Lib.hid hb
    clear hb
    go_wp2_with (go_at_call 73; (refine (HV.out _).mono ?_); rintro e w' ⟨rfl, rfl⟩)
    refine (HA.out _ (HT.out.below B1.out)).mono ?_
    rintro r' w2 ⟨rfl, hb⟩
    have B2 := Lib.hid (bl_thru B1.out (Nat.le_refl _) hb)
    clear hb
    go_wp2_with fail
    refine (HB.out _ (HT.out.below B2.out)).mono ?_
    rintro r' w3 ⟨rfl, hb⟩
    have B3 := Lib.hid (bl_thru B2.out (Nat.le_refl _) hb)
    clear hb
    go_wp2_with fail
    refine (HPP.out _ (HT.out.below B3.out)).mono ?_
    rintro r' w4 ⟨rfl, hb⟩
    have B4 := Lib.hid (bl_thru B3.out (Nat.le_refl _) hb)
    clear hb
    go_wp2_with fail
    refine (HQ.out _ (HT.out.below B4.out)).mono ?_
    rintro r' w5 ⟨rfl, hb⟩
    have B5 := Lib.hid (bl_thru B4.out (Nat.le_refl _) hb)
    clear hb
    go_wp2_with fail
    refine (HR.out _ (HT.out.below B5.out)).mono ?_
    rintro r' w6 ⟨rfl, hb⟩
    have B6 := Lib.hid (bl_thru B5.out (Nat.le_refl _) hb)
    clear hb
    go_wp2
    go_ret3
    exact ⟨rfl, B6.out⟩

/-- what FastSum tells -/
def fsR (x y : Int) : Int := if tsE x y = 0 then miV y (miV (plV x y) x) else 0
set_option maxRecDepth 100000 in
set_option maxHeartbeats 4000000 in
theorem fastSum_any (x y : Int) (x0 : 0 ≤ x) (x1 : x ≤ 18446744073709551615) (y0 : 0 ≤ y) (y1 : y ≤ 18446744073709551615) (w : World) (hT : Tab w) :
    Calls Tryd.prog 55 #[.int .u64 x, .int .u64 y] w (Ret3 w (tsS x y) (fsR x y) (tsE x y)) := by
  have hck := fun w' => xcheck_any x y x0 x1 y0 y1 w'
  obtain ⟨s0, s1⟩ := plV_bd x0 x1 y0 y1
  have hhv := fun w' => hasValue_any (plV x y) s0 s1 w'
  have hp := fun w' h => xplus_any x y x0 x1 y0 y1 w' h
  have hcase : (xcE x y = 4 ∧ tsS x y = 0 ∧ fsR x y = 0 ∧ tsE x y = 4) ∨ (xcE x y = 0 ∧ hasV (plV x y) = false ∧ tsS x y = 0 ∧ fsR x y = 0 ∧ tsE x y = 2) ∨
      (xcE x y = 0 ∧ hasV (plV x y) = true ∧ tsS x y = plV x y ∧ fsR x y = miV y (miV (plV x y) x) ∧ tsE x y = 0) := by
    unfold tsS fsR tsE
    rcases xcE_cases x y with h | h
    · rw [h]; right
      cases hv : hasV (plV x y)
      · left; simp
      · right; simp
    · rw [h]; left; simp
  rcases hcase with ⟨h1, h2, h3, h4⟩ | ⟨h1, hv, h2, h3, h4⟩ | ⟨h1, hv, h2, h3, h4⟩
  all_goals
    rw [h2, h3, h4]
    rw [h1] at hck
    have HCK := Lib.hid hck
    have HT := Lib.hid hT
    have HP := Lib.hid hp
    clear h1 h2 h3 h4 hck hT hp
  · clear HP hhv
    go_enter Tryd.func55, Tryd.ntmps55
    go_wp2_with (go_at_call 82; (refine (HCK.out _).mono ?_); rintro e w' ⟨rfl, rfl⟩)
    go_ret3
    exact ⟨rfl, Below.refl _ _⟩
  · rw [hv] at hhv
    have HV := Lib.hid hhv
    clear hhv hv
    generalize plV x y = s at *
    go_enter Tryd.func55, Tryd.ntmps55
    go_wp2_with (go_at_call 82; (refine (HCK.out _).mono ?_); rintro e w' ⟨rfl, rfl⟩)
    refine (HP.out _ HT.out).mono ?_
    rintro r w1 ⟨rfl, hb⟩
    have B1 := Lib.hid hb
    clear hb
    go_wp2_with (go_at_call 73; (refine (HV.out _).mono ?_); rintro e w' ⟨rfl, rfl⟩)
    go_ret3
    exact ⟨rfl, B1.out⟩
  · rw [hv] at hhv
    have HV := Lib.hid hhv
    clear hhv hv
    obtain ⟨a0, a1⟩ := miV_bd s0 s1 x0 x1
    have ha := fun w' h => xminus_any (plV x y) x s0 s1 x0 x1 w' h
    have hb' := fun w' h => xminus_any y (miV (plV x y) x) y0 y1 a0 a1 w' h
    generalize miV y (miV (plV x y) x) = b at *
    generalize miV (plV x y) x = a at *
    generalize plV x y = s at *
    have HA := Lib.hid ha
    have HB := Lib.hid hb'
    clear ha hb'
    go_enter Tryd.func55, Tryd.ntmps55
    go_wp2_with (go_at_call 82; (refine (HCK.out _).mono ?_); rintro e w' ⟨rfl, rfl⟩)
    refine (HP.out _ HT.out).mono ?_
    rintro r' w1 ⟨rfl, hb⟩
    have B1 := Lib.hid hb
    clear hb
    go_wp2_with (go_at_call 73; (refine (HV.out _).mono ?_); rintro e w' ⟨rfl, rfl⟩)
    refine (HA.out _ (HT.out.below B1.out)).mono ?_
    rintro r' w2 ⟨rfl, hb⟩
    have B2 := Lib.hid (bl_thru B1.out (Nat.le_refl _) hb)
    clear hb
    go_wp2_with fail
    refine (HB.out _ (HT.out.below B2.out)).mono ?_
    rintro r' w3 ⟨rfl, hb⟩
    have B3 := Lib.hid (bl_thru B2.out (Nat.le_refl _) hb)
    clear hb
    go_wp2
    go_ret3
    exact ⟨rfl, B3.out⟩

/-- what TwoProd tells -/
def tpE (x y : Int) : Int := if xcE x y = 0 then (if hasV (muV0 x y 0) = true then 0 else 2) else 4
def tpP (x y : Int) : Int := if tpE x y = 0 then muV0 x y 0 else 0
def tpR (x y : Int) : Int := if tpE x y = 0 then fmV0 x y (fneg (muV0 x y 0)) 0 else 0
theorem muV0_bd' (x y : Int) : 0 ≤ muV0 x y 0 ∧ muV0 x y 0 ≤ 18446744073709551615 := by
  have := muV_bd x y 0
  rw [(muV_yes (x := x) (y := y) (mode := 0) rfl).1] at this; exact this
set_option maxRecDepth 100000 in
set_option maxHeartbeats 4000000 in
theorem twoProd_any (x y : Int) (x0 : 0 ≤ x) (x1 : x ≤ 18446744073709551615) (y0 : 0 ≤ y) (y1 : y ≤ 18446744073709551615) (w : World) (hT : Tab w) :
    Calls Tryd.prog 31 #[.int .u64 x, .int .u64 y] w (Ret3 w (tpP x y) (tpR x y) (tpE x y)) := by
  have hck := fun w' => xcheck_any x y x0 x1 y0 y1 w'
  obtain ⟨s0, s1⟩ := muV0_bd' x y
  obtain ⟨n0, n1⟩ := fneg_bd s0 s1
  have hhv := fun w' => hasValue_any (muV0 x y 0) s0 s1 w'
  have hp := fun w' h => pmul_any x y 0 x0 x1 y0 y1 w' h
  have hf := fun w' h => pfma_any x y (fneg (muV0 x y 0)) 0 x0 x1 y0 y1 n0 n1 w' h
  rw [(muV_yes (x := x) (y := y) (mode := 0) rfl).1] at hp
  rw [(fmV_yes (x := x) (y := y) (z := fneg (muV0 x y 0)) (mode := 0) rfl).1] at hf
  have hng := fun w' => neg_any (muV0 x y 0) s0 s1 w'
  have hcase : (xcE x y = 4 ∧ tpP x y = 0 ∧ tpR x y = 0 ∧ tpE x y = 4) ∨ (xcE x y = 0 ∧ hasV (muV0 x y 0) = false ∧ tpP x y = 0 ∧ tpR x y = 0 ∧ tpE x y = 2) ∨
      (xcE x y = 0 ∧ hasV (muV0 x y 0) = true ∧ tpP x y = muV0 x y 0 ∧ tpR x y = fmV0 x y (fneg (muV0 x y 0)) 0 ∧ tpE x y = 0) := by
    unfold tpP tpR tpE
    rcases xcE_cases x y with h | h
    · rw [h]; right
      cases hv : hasV (muV0 x y 0)
      · left; simp
      · right; simp
    · rw [h]; left; simp
  generalize muC x y 0 = C at *
  generalize adE 0 = E at *
  generalize fmC x y (fneg (muV0 x y 0)) 0 = D at *
  generalize fmV0 x y (fneg (muV0 x y 0)) 0 = r at *
  generalize fneg (muV0 x y 0) = n at *
  rcases hcase with ⟨h1, h2, h3, h4⟩ | ⟨h1, hv, h2, h3, h4⟩ | ⟨h1, hv, h2, h3, h4⟩
  all_goals
    rw [h2, h3, h4]
    rw [h1] at hck
    have HCK := Lib.hid hck
    have HT := Lib.hid hT
    have HP := Lib.hid hp
    have HF := Lib.hid hf
    have HN := Lib.hid hng
    clear h1 h2 h3 h4 hck hT hp hf hng
  · clear HP hhv HF HN
    go_enter Tryd.func31, Tryd.ntmps31
    go_wp2_with (go_at_call 82; (refine (HCK.out _).mono ?_); rintro e w' ⟨rfl, rfl⟩)
    go_ret3
    exact ⟨rfl, Below.refl _ _⟩
  · rw [hv] at hhv
    have HV := Lib.hid hhv
    clear hhv hv HF HN
    generalize muV0 x y 0 = s at *
    go_enter Tryd.func31, Tryd.ntmps31
    go_wp2_with (go_at_call 82; (refine (HCK.out _).mono ?_); rintro e w' ⟨rfl, rfl⟩)
    refine (HP.out _ HT.out).mono ?_
    rintro r w1 ⟨rfl, hb⟩
    have B1 := Lib.hid hb
    clear hb
    go_wp2_with (go_at_call 73; (refine (HV.out _).mono ?_); rintro e w' ⟨rfl, rfl⟩)
    go_ret3
    exact ⟨rfl, B1.out⟩
  · rw [hv] at hhv
    have HV := Lib.hid hhv
    clear hhv hv
    generalize muV0 x y 0 = s at *
    go_enter Tryd.func31, Tryd.ntmps31
    go_wp2_with (go_at_call 82; (refine (HCK.out _).mono ?_); rintro e w' ⟨rfl, rfl⟩)
    refine (HP.out _ HT.out).mono ?_
    rintro r' w1 ⟨rfl, hb⟩
    have B1 := Lib.hid hb
    clear hb
    go_wp2_with (first | (go_at_call 73; (refine (HV.out _).mono ?_); rintro e w' ⟨rfl, rfl⟩) | (go_at_call 29; (refine (HN.out _).mono ?_); rintro e w' ⟨rfl, rfl⟩))
    refine (HF.out _ (HT.out.below B1.out)).mono ?_
    rintro r' w2 ⟨rfl, hb⟩
    have B2 := Lib.hid (bl_thru B1.out (Nat.le_refl _) hb)
    clear hb
    go_wp2
    go_ret3
    exact ⟨rfl, B2.out⟩
end Go.Proofs.YtapdjclhpcakeaaDoor
