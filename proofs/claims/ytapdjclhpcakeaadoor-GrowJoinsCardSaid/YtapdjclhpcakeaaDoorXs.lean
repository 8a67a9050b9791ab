/-
  THE WALKS of exact.Split; ulpkeep.far, bothSame.
-/
import Derived.Test.YtapdjclhpcakeaaDoorBy
import Derived.Test.YtapdjclhpcakeaaDoorMu
import Derived.Test.YtapdjclhpcakeaaDoorBw
import Derived.Deep.RegionWith
set_option linter.unusedVariables false
set_option linter.unusedSimpArgs false
namespace Go.Proofs.YtapdjclhpcakeaaDoor
open Go.RowKit Nt Fm Fl

/-- what Split tells -/
def spPl (x bits : Int) : Int := (blen (valD x).m : Int) + (valD x).e - bits
def spD (x bits : Int) : D := mulD (valD x) (spPl x bits) 3
def spE (x bits : Int) : Int := if hasV x = true then (if 1 ≤ bits ∧ bits ≤ 52 then 0 else 1) else 4
def spH0 (x bits : Int) : Int := if fcls x = 1 then x else numR (spD x bits) 0
def spH (x bits : Int) : Int := if spE x bits = 0 then spH0 x bits else 0
def spL (x bits : Int) : Int := if spE x bits = 0 then miV x (spH0 x bits) else 0
theorem blen_le {m k : Nat} (h : m < 2 ^ k) : blen m ≤ k := by
  have e : blen m = bl m := rfl
  rw [e]
  by_cases h0 : m = 0
  · subst h0; show 0 ≤ k; omega
  · have := bl_le h0
    have hp := bl_pos h0
    have := (Nat.pow_lt_pow_iff_right (by decide : 1 < 2)).1 (Nat.lt_of_le_of_lt this h)
    omega
theorem spD_bd {x bits : Int} (x0 : 0 ≤ x) (x1 : x ≤ 18446744073709551615) (b0 : 1 ≤ bits) (b1 : bits ≤ 52) : (spD x bits).m < 2 ^ 54 ∧ -2000 ≤ (spD x bits).e ∧ (spD x bits).e ≤ 3000 ∧ (spD x bits).Nf := by
  obtain ⟨v1, v2, v3, v4, -⟩ := valD_facts x x0 x1
  have hl := blen_le v2
  refine ⟨?_, ?_, ?_, ?_⟩
  all_goals unfold spD mulD
  · split
    · have := (norm_bd (valD x).neg (valD x).e v2).1; omega
    · have h := cutM_lt (neg := (valD x).neg) (mode := 3) v2 (show 0 < spPl x bits - (valD x).e by omega)
      have := (norm_bd (valD x).neg (spPl x bits) h).1; omega
  · split
    · rcases (norm_bd (valD x).neg (valD x).e v2).2 with h | h
      · rw [h]; decide
      · omega
    · have h := cutM_lt (neg := (valD x).neg) (mode := 3) v2 (show 0 < spPl x bits - (valD x).e by omega)
      rcases (norm_bd (valD x).neg (spPl x bits) h).2 with h | h
      · rw [h]; decide
      · unfold spPl at *; omega
  · split
    · rcases (norm_bd (valD x).neg (valD x).e v2).2 with h | h
      · rw [h]; decide
      · omega
    · have h := cutM_lt (neg := (valD x).neg) (mode := 3) v2 (show 0 < spPl x bits - (valD x).e by omega)
      rcases (norm_bd (valD x).neg (spPl x bits) h).2 with h | h
      · rw [h]; decide
      · unfold spPl at *; omega
  · split <;> exact norm_nf _ _ _
theorem spH0_bd (x bits : Int) (x0 : 0 ≤ x) (x1 : x ≤ 18446744073709551615) : 0 ≤ spH0 x bits ∧ spH0 x bits ≤ 18446744073709551615 := by
  unfold spH0; split
  · exact ⟨x0, x1⟩
  · exact numR_bd _ _
set_option maxRecDepth 100000 in
set_option maxHeartbeats 8000000 in
theorem split_any (x bits : Int) (x0 : 0 ≤ x) (x1 : x ≤ 18446744073709551615) (b0 : -9223372036854775808 ≤ bits) (b1 : bits ≤ 9223372036854775807) (w : World) (hT : Tab w) :
    Calls Tryd.prog 48 #[.int .u64 x, .int .i64 bits] w (Ret3 w (spH x bits) (spL x bits) (spE x bits)) := by
  have hhv := fun w' => hasValue_any x x0 x1 w'
  have hcase : (hasV x = false ∧ spH x bits = 0 ∧ spL x bits = 0 ∧ spE x bits = 4) ∨ (hasV x = true ∧ bits < 1 ∧ spH x bits = 0 ∧ spL x bits = 0 ∧ spE x bits = 1) ∨ (hasV x = true ∧ 1 ≤ bits ∧ 52 < bits ∧ spH x bits = 0 ∧ spL x bits = 0 ∧ spE x bits = 1) ∨
      (hasV x = true ∧ 1 ≤ bits ∧ bits ≤ 52 ∧ spH x bits = spH0 x bits ∧ spL x bits = miV x (spH0 x bits) ∧ spE x bits = 0) := by
    unfold spH spL spE
    cases hasV x
    · left; simp
    · right
      by_cases h1 : 1 ≤ bits
      · right
        by_cases h2 : bits ≤ 52
        · right; simp [h1, h2]
        · left; simp [h1, h2]; omega
      · left; simp [h1]; omega
  have HT := Lib.hid hT
  clear hT
  rcases hcase with ⟨hv, h2, h3, h4⟩ | ⟨hv, c1, h2, h3, h4⟩ | ⟨hv, c1, c2, h2, h3, h4⟩ | ⟨hv, c1, c2, h2, h3, h4⟩
  all_goals
    rw [h2, h3, h4]
    rw [hv] at hhv
    have HV := Lib.hid hhv
    clear h2 h3 h4 hhv hv
  · go_enter Tryd.func48, Tryd.ntmps48
    go_wp2_with (go_at_call 73; (refine (HV.out _).mono ?_); rintro e w' ⟨rfl, rfl⟩)
    go_ret3
    exact ⟨rfl, Below.refl _ _⟩
  · go_enter Tryd.func48, Tryd.ntmps48
    go_wp2_with (go_at_call 73; (refine (HV.out _).mono ?_); rintro e w' ⟨rfl, rfl⟩)
    go_ret3
    exact ⟨rfl, Below.refl _ _⟩
  · go_enter Tryd.func48, Tryd.ntmps48
    go_wp2_with (go_at_call 73; (refine (HV.out _).mono ?_); rintro e w' ⟨rfl, rfl⟩)
    go_ret3
    exact ⟨rfl, Below.refl _ _⟩
  · have hcl := fun w' => class_any x x0 x1 w'
    by_cases h1 : fcls x = 1
    · have e : spH0 x bits = x := by unfold spH0; rw [if_pos h1]
      rw [e]
      have hmi := fun w' h => xminus_any x x x0 x1 x0 x1 w' h
      generalize miV x x = R at *
      rw [h1] at hcl
      have HM := Lib.hid hmi
      have HCL := Lib.hid hcl
      clear e hmi hcl h1
      go_enter Tryd.func48, Tryd.ntmps48
      go_wp2_with (first | (go_at_call 73; (refine (HV.out _).mono ?_); rintro e w' ⟨rfl, rfl⟩) | (go_at_call 25; (refine (HCL.out _).mono ?_); rintro e w' ⟨rfl, rfl⟩))
      refine (HM.out _ HT.out).mono ?_
      rintro r w1 ⟨rfl, hb⟩
      have B1 := Lib.hid hb
      clear hb
      go_wp2
      go_ret3
      exact ⟨rfl, B1.out⟩
    · have e : spH0 x bits = numR (spD x bits) 0 := by unfold spH0; rw [if_neg h1]
      rw [e]
      have h1b : (fcls x != 1) = true := by rw [bne_iff_ne]; exact h1
      obtain ⟨s1, s2, s3, s4⟩ := spD_bd x0 x1 c1 c2
      obtain ⟨v1, v2, v3, v4, -⟩ := valD_facts x x0 x1
      have hl := blen_le v2
      have hval := fun w' h => value_any x x0 x1 w' h
      have hlen := fun va w' h => natLen_any va (valD x).m 53 w' h v2 (by decide)
      have hmul := fun v w' h h2 => multiple_any v (valD x) 53 (spPl x bits) 3 w' h h2 v2 (by omega) (by omega) (by omega) (by unfold spPl; omega) (by unfold spPl; omega) (by decide) (by decide)
      have hrd : mulD (valD x) (spPl x bits) 3 = spD x bits := rfl
      rw [hrd] at hmul
      have hz := nf_e s4
      have hnum := fun v w' h => number_any v (spD x bits) 54 0 w' h s1 (by omega) (by omega) (by omega) hz (by decide) (by decide)
      have nb := numR_bd (spD x bits) 0
      have hmi := fun w' h => xminus_any x (numR (spD x bits) 0) x0 x1 nb.1 nb.2 w' h
      have hpl : spPl x bits = (blen (valD x).m : Int) + (valD x).e - bits := rfl
      generalize miV x (numR (spD x bits) 0) = R at *
      generalize numR (spD x bits) 0 = nR at *
      generalize numC (spD x bits) = nC at *
      generalize mulC (valD x) (spPl x bits) = mC at *
      generalize spD x bits = S at *
      rw [hpl] at hmul
      generalize blen (valD x).m = L at *
      generalize valD x = V at *
      obtain ⟨vn, vm, ve⟩ := V
      simp only at *
      have we1 : IntKind.i64.wrap ((L : Int) + ve) = (L : Int) + ve := IntWalk.i64_in _ (by omega)
      have we2 : IntKind.i64.wrap ((L : Int) + ve - bits) = (L : Int) + ve - bits := IntWalk.i64_in _ (by omega)
      generalize fcls x = K at *
      have HCL := Lib.hid hcl
      have HVAL := Lib.hid hval
      have HLEN := Lib.hid hlen
      have HMUL := Lib.hid hmul
      have HNUM := Lib.hid hnum
      have HMI := Lib.hid hmi
      clear e hcl hval hlen hmul hnum hmi hpl hrd hz nb s1 s2 s3 s4 h1 v1 v2 v3 v4 hl
      go_enter Tryd.func48, Tryd.ntmps48
      go_wp2_with (first | (go_at_call 73; (refine (HV.out _).mono ?_); rintro e w' ⟨rfl, rfl⟩) | (go_at_call 25; (refine (HCL.out _).mono ?_); rintro e w' ⟨rfl, rfl⟩))
      refine (HVAL.out _ HT.out).mono ?_
      rintro r w1 ⟨v1, rfl, ⟨s1, rfl, hv⟩, hb⟩
      obtain ⟨a1, n1, k1, rfl⟩ := hv.shape
      have B1 : Hid (Below w.heap.size w w1) := Lib.hid hb
      have HV1 := Lib.hid hv
      clear hv hb
      go_wp2_with fail
      have X1 := Lib.hid (Box.new w1 (.bool vn) (.slice a1 n1 k1) (.int .i64 ve) 59)
      have NV1 := Lib.hid (HV1.out.alloc (.cells #[.bool vn, .slice a1 n1 k1, .int .i64 ve] 59))
      have BB1 : Hid (Below w.heap.size w (w1.alloc (.cells #[.bool vn, .slice a1 n1 k1, .int .i64 ve] 59))) := Lib.hid (B1.out.alloc B1.out.size _)
      have B0 := Lib.hid BB1.out.drew
      obtain ⟨q0, q1, q2, f0, f1, f2⟩ := X1.out.cells
      go_region_with (first
        | (go_at_call 103; refine (HLEN.out _ _ NV1.out.drew).mono ?_; rintro e w' ⟨rfl, rfl⟩)
        | (go_at_call 102; refine (HMUL.out _ _ (HT.out.below B0.out) ⟨_, rfl, NV1.out.drew⟩).mono ?_; rintro r w2 ⟨a2, n2, k2, rfl, hv, hb⟩; have HV2 := Lib.hid hv; have B2 : Hid (Below w.heap.size w w2) := Lib.hid (bl_thru B0.out (Nat.le_refl _) hb); have X2 := Lib.hid (X1.out.drew.below hb); obtain ⟨p0, p1, p2, h0', h1', h2'⟩ := X2.out.cells; clear hv hb))
      all_goals
        have X3 := Lib.hid (X2.out.set3 (.bool S.neg) (.slice a2 n2 k2) (.int .i64 S.e))
        have HV3 := Lib.hid (HV2.out.setD (g' := S.neg) (ao' := a2) (n' := n2) (c' := k2) (e' := S.e) X2.out)
        have B3 : Hid (Below w.heap.size w _) := Lib.hid (bl_set3 B2.out B1.out.size (.bool S.neg) (.slice a2 n2 k2) (.int .i64 S.e))
        obtain ⟨y0, y1, y2, y3, y4, y5⟩ := X3.out.cells
        go_wp2_with fail
        refine (HNUM.out _ _ ⟨_, rfl, HV3.out⟩).mono ?_
        rintro r w4 ⟨rfl, hb⟩
        have B4 : Hid (Below w.heap.size w w4) := Lib.hid (bl_thru B3.out (Nat.le_refl _) hb)
        clear hb
        go_wp2_with fail
        refine (HMI.out _ (HT.out.below B4.out)).mono ?_
        rintro r w5 ⟨rfl, hb⟩
        have B5 : Hid (Below w.heap.size w w5) := Lib.hid (bl_thru B4.out (Nat.le_refl _) hb)
        clear hb
        go_wp2
        go_ret3
        exact ⟨rfl, B5.out⟩
end Go.Proofs.YtapdjclhpcakeaaDoor
