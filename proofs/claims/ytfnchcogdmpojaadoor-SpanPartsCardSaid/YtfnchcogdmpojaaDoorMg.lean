/-
  SOME OF MY TEXTS in one: Mc Mw Dw. Each says what it proves.
-/
import Derived.Test.YtfnchcogdmpojaaDoorSb
import Derived.Test.YtfnchcogdmpojaaDoorBo
import Derived.Test.YtfnchcogdmpojaaDoorQv
import Derived.Test.YtfnchcogdmpojaaDoorCn
set_option linter.unusedVariables false
set_option linter.unusedSimpArgs false
/-
  THE WALKS of span.Mul$1, span.Div$1.
-/
namespace Go.Proofs.YtfnchcogdmpojaaDoor
open Go.RowKit Nt Fm Fl

theorem known12 {m : Int} (h : m = 1 ∨ m = 2) : knownB m = true := by rcases h with rfl | rfl <;> decide
set_option maxHeartbeats 4000000 in
theorem mulc_any (x y m : Int) (w : World) (x0 : 0 ≤ x) (x1 : x ≤ 18446744073709551615) (y0 : 0 ≤ y) (y1 : y ≤ 18446744073709551615) (hm : m = 1 ∨ m = 2) (hT : Tab w) :
    Calls Tryd.prog 48 #[.int .u64 x, .int .u64 y, .int .i64 m] w fun e w' => e = .returned (.tuple #[.int .u64 (clV x y m), .bool (clOk x y)]) ∧ Below w.heap.size w w' := by
  have PM := Lib.hid (fun w' h => pmul_any x y m x0 x1 y0 y1 w' h)
  have HT := Lib.hid hT
  have m0 : -9223372036854775808 ≤ m := by omega
  have m1 : m ≤ 9223372036854775807 := by omega
  have hc : ((x == 0) = true ∧ clV x y m = 0) ∨ ((x == 0) = false ∧ (y == 0) = true ∧ clV x y m = 0) ∨ ((x == 0) = false ∧ (y == 0) = false ∧ clV x y m = muV x y m) := by
    unfold clV
    by_cases h1 : x = 0
    · left; simp [h1]
    · by_cases h2 : y = 0
      · right; left; simp [h1, h2]
      · right; right; simp [h1, h2]
  unfold clOk
  generalize clV x y m = cv at *
  generalize muV x y m = mv at *
  clear hT hm
  rcases hc with ⟨k1, rfl⟩ | ⟨k1, k2, rfl⟩ | ⟨k1, k2, rfl⟩
  all_goals
    go_enter Tryd.func48, Tryd.ntmps48
    go_wp2_with fail
    first
      | (go_ret2
         exact ⟨rfl, Below.refl _ _⟩)
      | (refine (PM.out _ HT.out).mono ?_
         rintro e w1 ⟨rfl, hb⟩
         have HB := Lib.hid hb
         clear hb
         go_wp2
         go_ret2
         exact ⟨rfl, HB.out⟩)
set_option maxHeartbeats 4000000 in
theorem divc_any (x y m : Int) (w : World) (x0 : 0 ≤ x) (x1 : x ≤ 18446744073709551615) (y0 : 0 ≤ y) (y1 : y ≤ 18446744073709551615) (hm : m = 1 ∨ m = 2) (hT : Tab w) :
    Calls Tryd.prog 52 #[.int .u64 x, .int .u64 y, .int .i64 m] w fun e w' => e = .returned (.tuple #[.int .u64 (dlV x y m), .bool (dlOk x y)]) ∧ Below w.heap.size w w' := by
  have PM := Lib.hid (fun w' h => qdiv_any x y m x0 x1 y0 y1 w' h)
  have H1 := Lib.hid (fun w' => hasValue_any x x0 x1 w')
  have H2 := Lib.hid (fun w' => hasValue_any y y0 y1 w')
  have HT := Lib.hid hT
  have m0 : -9223372036854775808 ≤ m := by omega
  have m1 : m ≤ 9223372036854775807 := by omega
  have hc : (hasV x = true ∧ dlOk x y = true ∧ dlV x y m = dvV x y m) ∨ (hasV x = false ∧ hasV y = true ∧ dlOk x y = true ∧ dlV x y m = dvV x y m) ∨ (hasV x = false ∧ hasV y = false ∧ dlOk x y = false ∧ dlV x y m = 0) := by
    unfold dlV dlOk
    cases hasV x <;> cases hasV y <;> simp
  generalize dlV x y m = cv at *
  generalize dlOk x y = ok at *
  generalize dvV x y m = mv at *
  generalize hasV x = hx at *
  generalize hasV y = hy at *
  clear hT hm
  rcases hc with ⟨rfl, rfl, rfl⟩ | ⟨rfl, rfl, rfl, rfl⟩ | ⟨rfl, rfl, rfl, rfl⟩
  all_goals
    go_enter Tryd.func52, Tryd.ntmps52
    go_wp2_with (go_at_call 44; first | ((with_reducible refine (H1.out _).mono ?_); rintro e w' ⟨rfl, rfl⟩) | ((with_reducible refine (H2.out _).mono ?_); rintro e w' ⟨rfl, rfl⟩))
    first
      | (go_ret2
         exact ⟨rfl, Below.refl _ _⟩)
      | (refine (PM.out _ HT.out).mono ?_
         rintro e w1 ⟨rfl, hb⟩
         have HB := Lib.hid hb
         clear hb
         go_wp2
         go_ret2
         exact ⟨rfl, HB.out⟩)
end Go.Proofs.YtfnchcogdmpojaaDoor

/-
  THE WALK of span.Mul.
-/
namespace Go.Proofs.YtfnchcogdmpojaaDoor
open Go.RowKit Nt Fm Fl

def mlLo (a b c d : Int) : Int := if spE2 a b c d = 0 then cnLo clOk clV a b c d else 0
def mlHi (a b c d : Int) : Int := if spE2 a b c d = 0 then cnHi clOk clV a b c d else 0
set_option maxRecDepth 100000 in
set_option maxHeartbeats 8000000 in
theorem spMul_any (a b c d : Int) (a0 : 0 ≤ a) (a1 : a ≤ 18446744073709551615) (b0 : 0 ≤ b) (b1 : b ≤ 18446744073709551615) (c0 : 0 ≤ c) (c1 : c ≤ 18446744073709551615) (d0 : 0 ≤ d) (d1 : d ≤ 18446744073709551615) (w : World) (hT : Tab w) :
    Calls Tryd.prog 18 #[.agg #[.int .u64 a, .int .u64 b], .agg #[.int .u64 c, .int .u64 d]] w fun e w' => e = .returned (.tuple #[.agg #[.int .u64 (mlLo a b c d), .int .u64 (mlHi a b c d)], .int .i64 (spE2 a b c d)]) ∧ Below w.heap.size w w' := by
  have C1 := Lib.hid (fun w' => spcheck_any a b c d a0 a1 b0 b1 c0 c1 d0 d1 w')
  have CN := Lib.hid (fun w' h => corners_any clOk clV a b c d a0 a1 b0 b1 c0 c1 d0 d1 w' h clV_bd (fun x y m w'' p1 p2 p3 p4 p5 p6 => mulc_any x y m w'' p1 p2 p3 p4 p5 p6))
  have HT := Lib.hid hT
  clear hT
  have hcase : ((spE2 a b c d != 0) = true ∧ mlLo a b c d = 0 ∧ mlHi a b c d = 0) ∨ (spE2 a b c d = 0 ∧ mlLo a b c d = cnLo clOk clV a b c d ∧ mlHi a b c d = cnHi clOk clV a b c d) := by
    unfold mlLo mlHi
    by_cases h : spE2 a b c d = 0
    · right; simp [h]
    · left; simp [h]
  generalize mlLo a b c d = lo at *
  generalize mlHi a b c d = hi at *
  generalize spE2 a b c d = E at *
  generalize cnLo clOk clV a b c d = m at *
  generalize cnHi clOk clV a b c d = n at *
  rcases hcase with ⟨k1, rfl, rfl⟩ | ⟨rfl, rfl, rfl⟩
  all_goals
    go_enter Tryd.func18, Tryd.ntmps18
    go_wp2_with fail
    refine (C1.out _).mono ?_
    rintro e w1 ⟨rfl, hb⟩
    have X := Lib.hid (((Bx2.new w (.int .u64 a) (.int .u64 b) 24).alloc (.cells #[.int .u64 c, .int .u64 d] 24) |>.alloc (.cells #[.int .u64 0, .int .u64 0] 24)).below hb)
    have Y := Lib.hid (((Bx2.new2 w (.cells #[.int .u64 a, .int .u64 b] 24) (.int .u64 c) (.int .u64 d) 24).alloc (.cells #[.int .u64 0, .int .u64 0] 24)).below hb)
    have Z := Lib.hid ((Bx2.new3 w (.cells #[.int .u64 a, .int .u64 b] 24) (.cells #[.int .u64 c, .int .u64 d] 24) (.int .u64 0) (.int .u64 0) 24).below hb)
    have B1 := Lib.hid (bl_thru (bl_alloc3 w (.cells #[.int .u64 a, .int .u64 b] 24) (.cells #[.int .u64 c, .int .u64 d] 24) (.cells #[.int .u64 0, .int .u64 0] 24)) (Nat.le_refl _) hb)
    clear hb
  · obtain ⟨z0, z1, z2, z3⟩ := Z.out.cells
    go_wp2
    refine bodyPost_ret (v := .tuple #[.agg #[.int .u64 0, .int .u64 0], .int .i64 E]) (by simp [results, Tryd.results18, go_sem, z0, z1, z2, z3]) rfl ?_
    exact ⟨rfl, (B1.out.setCell (p := ⟨w.heap.size + 1 + 1, 0, none⟩) (by show _ ≤ w.heap.size + 1 + 1; omega) _).setCell (p := ⟨w.heap.size + 1 + 1, 1, none⟩) (by show _ ≤ w.heap.size + 1 + 1; omega) _⟩
  · obtain ⟨x0, x1, -, -⟩ := X.out.cells
    obtain ⟨y0, y1, -, -⟩ := Y.out.cells
    go_wp2_with fail
    refine (CN.out _ (HT.out.below B1.out)).mono ?_
    rintro e w2 ⟨rfl, hb⟩
    clear x0 x1 y0 y1
    have Z2 := Lib.hid (Z.out.below hb)
    have B2 := Lib.hid (bl_thru B1.out (Nat.le_refl _) hb)
    clear hb
    obtain ⟨z0, z1, z2, z3⟩ := Z2.out.cells
    go_wp2
    clear z0 z1 z2 z3
    obtain ⟨z0, z1, z2, z3⟩ := (Z2.out.set2 (.int .u64 lo) (.int .u64 hi)).cells
    refine bodyPost_ret (v := .tuple #[.agg #[.int .u64 lo, .int .u64 hi], .int .i64 0]) (by simp [results, Tryd.results18, go_sem, z0, z1, z2, z3]) rfl ?_
    exact ⟨rfl, (B2.out.setCell (p := ⟨w.heap.size + 1 + 1, 0, none⟩) (by show _ ≤ w.heap.size + 1 + 1; omega) _).setCell (p := ⟨w.heap.size + 1 + 1, 1, none⟩) (by show _ ≤ w.heap.size + 1 + 1; omega) _⟩
end Go.Proofs.YtfnchcogdmpojaaDoor

/-
  THE WALK of span.Div.
-/
namespace Go.Proofs.YtfnchcogdmpojaaDoor
open Go.RowKit Nt Fm Fl

def diE (a b c d : Int) : Int := if spE2 a b c d = 0 then (if hasB c d 0 = true then 1 else 0) else spE2 a b c d
def diLo (a b c d : Int) : Int := if diE a b c d = 0 then cnLo dlOk dlV a b c d else 0
def diHi (a b c d : Int) : Int := if diE a b c d = 0 then cnHi dlOk dlV a b c d else 0
set_option maxRecDepth 100000 in
set_option maxHeartbeats 8000000 in
theorem spDiv_any (a b c d : Int) (a0 : 0 ≤ a) (a1 : a ≤ 18446744073709551615) (b0 : 0 ≤ b) (b1 : b ≤ 18446744073709551615) (c0 : 0 ≤ c) (c1 : c ≤ 18446744073709551615) (d0 : 0 ≤ d) (d1 : d ≤ 18446744073709551615) (w : World) (hT : Tab w) :
    Calls Tryd.prog 23 #[.agg #[.int .u64 a, .int .u64 b], .agg #[.int .u64 c, .int .u64 d]] w fun e w' => e = .returned (.tuple #[.agg #[.int .u64 (diLo a b c d), .int .u64 (diHi a b c d)], .int .i64 (diE a b c d)]) ∧ Below w.heap.size w w' := by
  have C1 := Lib.hid (fun w' => spcheck_any a b c d a0 a1 b0 b1 c0 c1 d0 d1 w')
  have CN := Lib.hid (fun w' h => corners_div dlOk dlV a b c d a0 a1 b0 b1 c0 c1 d0 d1 w' h dlV_bd (fun x y m w'' p1 p2 p3 p4 p5 p6 => divc_any x y m w'' p1 p2 p3 p4 p5 p6))
  have HT := Lib.hid hT
  clear hT
  have HB := Lib.hid (fun w' => sphas_any c d 0 c0 c1 d0 d1 (by decide) (by decide) w')
  have hcase : ((spE2 a b c d != 0) = true ∧ diLo a b c d = 0 ∧ diHi a b c d = 0 ∧ diE a b c d = spE2 a b c d) ∨ (spE2 a b c d = 0 ∧ ((hasB c d 0 = true ∧ diLo a b c d = 0 ∧ diHi a b c d = 0 ∧ diE a b c d = 1) ∨ (hasB c d 0 = false ∧ diLo a b c d = cnLo dlOk dlV a b c d ∧ diHi a b c d = cnHi dlOk dlV a b c d ∧ diE a b c d = 0))) := by
    unfold diLo diHi diE
    by_cases h : spE2 a b c d = 0
    · right
      cases hasB c d 0 <;> simp [h]
    · left; simp [h]
  generalize diLo a b c d = lo at *
  generalize diHi a b c d = hi at *
  generalize diE a b c d = R at *
  generalize spE2 a b c d = E at *
  generalize hasB c d 0 = hb0 at *
  generalize cnLo dlOk dlV a b c d = m at *
  generalize cnHi dlOk dlV a b c d = n at *
  rcases hcase with ⟨k1, rfl, rfl, rfl⟩ | ⟨rfl, ⟨rfl, rfl, rfl, rfl⟩ | ⟨rfl, rfl, rfl, rfl⟩⟩
  all_goals
    go_enter Tryd.func23, Tryd.ntmps23
    go_wp2_with fail
    refine (C1.out _).mono ?_
    rintro e w1 ⟨rfl, hb⟩
    have X := Lib.hid (((Bx2.new w (.int .u64 a) (.int .u64 b) 24).alloc (.cells #[.int .u64 c, .int .u64 d] 24) |>.alloc (.cells #[.int .u64 0, .int .u64 0] 24)).below hb)
    have Y := Lib.hid (((Bx2.new2 w (.cells #[.int .u64 a, .int .u64 b] 24) (.int .u64 c) (.int .u64 d) 24).alloc (.cells #[.int .u64 0, .int .u64 0] 24)).below hb)
    have Z := Lib.hid ((Bx2.new3 w (.cells #[.int .u64 a, .int .u64 b] 24) (.cells #[.int .u64 c, .int .u64 d] 24) (.int .u64 0) (.int .u64 0) 24).below hb)
    have B1 := Lib.hid (bl_thru (bl_alloc3 w (.cells #[.int .u64 a, .int .u64 b] 24) (.cells #[.int .u64 c, .int .u64 d] 24) (.cells #[.int .u64 0, .int .u64 0] 24)) (Nat.le_refl _) hb)
    clear hb
  · obtain ⟨z0, z1, z2, z3⟩ := Z.out.cells
    go_wp2
    refine bodyPost_ret (v := .tuple #[.agg #[.int .u64 0, .int .u64 0], .int .i64 R]) (by simp [results, Tryd.results23, go_sem, z0, z1, z2, z3]) rfl ?_
    exact ⟨rfl, (B1.out.setCell (p := ⟨w.heap.size + 1 + 1, 0, none⟩) (by show _ ≤ w.heap.size + 1 + 1; omega) _).setCell (p := ⟨w.heap.size + 1 + 1, 1, none⟩) (by show _ ≤ w.heap.size + 1 + 1; omega) _⟩
  all_goals
    obtain ⟨y0, y1, -, -⟩ := Y.out.cells
    go_wp2_with fail
    refine (HB.out _).mono ?_
    rintro e w2 ⟨rfl, hb⟩
    have X2 := Lib.hid (X.out.below hb)
    have Y2 := Lib.hid (Y.out.below hb)
    have Z2 := Lib.hid (Z.out.below hb)
    have B2 := Lib.hid (bl_thru B1.out (Nat.le_refl _) hb)
    clear hb y0 y1 X Y Z B1
  · obtain ⟨z0, z1, z2, z3⟩ := Z2.out.cells
    go_wp2
    refine bodyPost_ret (v := .tuple #[.agg #[.int .u64 0, .int .u64 0], .int .i64 1]) (by simp [results, Tryd.results23, go_sem, z0, z1, z2, z3]) rfl ?_
    exact ⟨rfl, (B2.out.setCell (p := ⟨w.heap.size + 1 + 1, 0, none⟩) (by show _ ≤ w.heap.size + 1 + 1; omega) _).setCell (p := ⟨w.heap.size + 1 + 1, 1, none⟩) (by show _ ≤ w.heap.size + 1 + 1; omega) _⟩
  · obtain ⟨x0, x1, -, -⟩ := X2.out.cells
    obtain ⟨y0, y1, -, -⟩ := Y2.out.cells
    go_wp2_with fail
    refine (CN.out _ (HT.out.below B2.out)).mono ?_
    rintro e w3 ⟨rfl, hb⟩
    clear x0 x1 y0 y1
    have Z3 := Lib.hid (Z2.out.below hb)
    have B3 := Lib.hid (bl_thru B2.out (Nat.le_refl _) hb)
    clear hb
    obtain ⟨z0, z1, z2, z3⟩ := Z3.out.cells
    go_wp2
    clear z0 z1 z2 z3
    obtain ⟨z0, z1, z2, z3⟩ := (Z3.out.set2 (.int .u64 lo) (.int .u64 hi)).cells
    refine bodyPost_ret (v := .tuple #[.agg #[.int .u64 lo, .int .u64 hi], .int .i64 0]) (by simp [results, Tryd.results23, go_sem, z0, z1, z2, z3]) rfl ?_
    exact ⟨rfl, (B3.out.setCell (p := ⟨w.heap.size + 1 + 1, 0, none⟩) (by show _ ≤ w.heap.size + 1 + 1; omega) _).setCell (p := ⟨w.heap.size + 1 + 1, 1, none⟩) (by show _ ≤ w.heap.size + 1 + 1; omega) _⟩
end Go.Proofs.YtfnchcogdmpojaaDoor
