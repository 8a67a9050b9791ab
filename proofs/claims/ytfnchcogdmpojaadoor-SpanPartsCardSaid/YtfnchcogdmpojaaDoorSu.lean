/-
  THE WALK of span.Sub.
-/
import Derived.Test.YtfnchcogdmpojaaDoorSd2
import Derived.Test.YtfnchcogdmpojaaDoorSh
set_option linter.unusedVariables false
set_option linter.unusedSimpArgs false
namespace Go.Proofs.YtfnchcogdmpojaaDoor
open Go.RowKit Nt Fm Fl

def suE (a b c d : Int) : Int := if spE2 a b c d = 0 then spE2 a b (plV (fneg d)) (plV (fneg c)) else spE2 a b c d
def suLo (a b c d : Int) : Int := if spE2 a b c d = 0 then saLo a b (plV (fneg d)) (plV (fneg c)) else 0
def suHi (a b c d : Int) : Int := if spE2 a b c d = 0 then saHi a b (plV (fneg d)) (plV (fneg c)) else 0
set_option maxRecDepth 100000 in
set_option maxHeartbeats 8000000 in
theorem spSub_any (a b c d : Int) (a0 : 0 ≤ a) (a1 : a ≤ 18446744073709551615) (b0 : 0 ≤ b) (b1 : b ≤ 18446744073709551615) (c0 : 0 ≤ c) (c1 : c ≤ 18446744073709551615) (d0 : 0 ≤ d) (d1 : d ≤ 18446744073709551615) (w : World) (hT : Tab w) :
    Calls Tryd.prog 22 #[.agg #[.int .u64 a, .int .u64 b], .agg #[.int .u64 c, .int .u64 d]] w fun e w' => e = .returned (.tuple #[.agg #[.int .u64 (suLo a b c d), .int .u64 (suHi a b c d)], .int .i64 (suE a b c d)]) ∧ Below w.heap.size w w' := by
  have C1 := Lib.hid (fun w' => spcheck_any a b c d a0 a1 b0 b1 c0 c1 d0 d1 w')
  obtain ⟨n0, n1⟩ := fneg_in c0 c1
  obtain ⟨n2, n3⟩ := fneg_in d0 d1
  obtain ⟨p0, p1⟩ := plV_bd n0 n1
  obtain ⟨p2, p3⟩ := plV_bd n2 n3
  have N1 := Lib.hid (fun w' => neg_any c c0 c1 w')
  have N2 := Lib.hid (fun w' => neg_any d d0 d1 w')
  have P1 := Lib.hid (fun w' => plain_any (fneg c) w')
  have P2 := Lib.hid (fun w' => plain_any (fneg d) w')
  have AD := Lib.hid (fun w' h => spAdd_any a b (plV (fneg d)) (plV (fneg c)) a0 a1 b0 b1 p2 p3 p0 p1 w' h)
  have hcase : ((spE2 a b c d != 0) = true ∧ suLo a b c d = 0 ∧ suHi a b c d = 0 ∧ suE a b c d = spE2 a b c d) ∨ (spE2 a b c d = 0 ∧ suLo a b c d = saLo a b (plV (fneg d)) (plV (fneg c)) ∧ suHi a b c d = saHi a b (plV (fneg d)) (plV (fneg c)) ∧ suE a b c d = spE2 a b (plV (fneg d)) (plV (fneg c))) := by
    unfold suLo suHi suE
    by_cases h : spE2 a b c d = 0
    · right; simp [h]
    · left; simp [h]
  have HT := Lib.hid hT
  clear hT
  generalize suLo a b c d = lo at *
  generalize suHi a b c d = hi at *
  generalize suE a b c d = R at *
  generalize spE2 a b c d = E at *
  generalize saLo a b (plV (fneg d)) (plV (fneg c)) = m at *
  generalize saHi a b (plV (fneg d)) (plV (fneg c)) = n at *
  generalize spE2 a b (plV (fneg d)) (plV (fneg c)) = E2 at *
  generalize plV (fneg d) = q2 at *
  generalize plV (fneg c) = q1 at *
  generalize fneg d = f2 at *
  generalize fneg c = f1 at *
  rcases hcase with ⟨k1, rfl, rfl, rfl⟩ | ⟨rfl, rfl, rfl, rfl⟩
  all_goals
    go_enter Tryd.func22, Tryd.ntmps22
    go_wp2_with fail
    refine (C1.out _).mono ?_
    rintro e w1 ⟨rfl, hb⟩
    have X := Lib.hid (((Bx2.new w (.int .u64 a) (.int .u64 b) 24).alloc (.cells #[.int .u64 c, .int .u64 d] 24) |>.alloc (.cells #[.int .u64 0, .int .u64 0] 24)).below hb)
    have Y := Lib.hid (((Bx2.new2 w (.cells #[.int .u64 a, .int .u64 b] 24) (.int .u64 c) (.int .u64 d) 24).alloc (.cells #[.int .u64 0, .int .u64 0] 24)).below hb)
    have Z := Lib.hid ((Bx2.new3 w (.cells #[.int .u64 a, .int .u64 b] 24) (.cells #[.int .u64 c, .int .u64 d] 24) (.int .u64 0) (.int .u64 0) 24).below hb)
    have B1 := Lib.hid (bl_thru (bl_alloc3 w (.cells #[.int .u64 a, .int .u64 b] 24) (.cells #[.int .u64 c, .int .u64 d] 24) (.cells #[.int .u64 0, .int .u64 0] 24)) (Nat.le_refl _) hb)
    clear hb
  · obtain ⟨z0, z1, z2, z3⟩ := Z.out.cells
    go_wp2
    refine bodyPost_ret (v := .tuple #[.agg #[.int .u64 0, .int .u64 0], .int .i64 R]) (by simp [results, Tryd.results22, go_sem, z0, z1, z2, z3]) rfl ?_
    exact ⟨rfl, (B1.out.setCell (p := ⟨w.heap.size + 1 + 1, 0, none⟩) (by show _ ≤ w.heap.size + 1 + 1; omega) _).setCell (p := ⟨w.heap.size + 1 + 1, 1, none⟩) (by show _ ≤ w.heap.size + 1 + 1; omega) _⟩
  · go_wp2_with fail
    obtain ⟨x0, x1, -, -⟩ := X.out.drew.cells
    obtain ⟨y0, y1, -, -⟩ := Y.out.drew.cells
    go_region_held3 (fun w' => w'.cell? ⟨w.heap.size, 0, none⟩ = some (.int .u64 a) ∧ w'.cell? ⟨w.heap.size, 1, none⟩ = some (.int .u64 b) ∧ w'.cell? ⟨w.heap.size + 1, 0, none⟩ = some (.int .u64 c) ∧ w'.cell? ⟨w.heap.size + 1, 1, none⟩ = some (.int .u64 d))
      (first
        | exact ⟨x0, x1, y0, y1⟩
        | (obtain ⟨x0, x1, -, -⟩ := ((X2.out.set (b' := w.heap.size + 1 + 1) (o := 0) (by omega) (.int .u64 lo)).set (b' := w.heap.size + 1 + 1) (o := 1) (by omega) (.int .u64 hi)).cells
           obtain ⟨y0, y1, -, -⟩ := ((Y2.out.set (b' := w.heap.size + 1 + 1) (o := 0) (by omega) (.int .u64 lo)).set (b' := w.heap.size + 1 + 1) (o := 1) (by omega) (.int .u64 hi)).cells
           exact ⟨x0, x1, y0, y1⟩)
        | (go_keep; done))
      (first
        | (go_at_call 51; (with_reducible refine (N1.out _).mono ?_); rintro e w' ⟨rfl, rfl⟩)
        | (go_at_call 51; (with_reducible refine (N2.out _).mono ?_); rintro e w' ⟨rfl, rfl⟩)
        | (go_at_call 46; (with_reducible refine (P1.out _).mono ?_); rintro e w' ⟨rfl, rfl⟩)
        | (go_at_call 46; (with_reducible refine (P2.out _).mono ?_); rintro e w' ⟨rfl, rfl⟩)
        | (go_at_call 17; (with_reducible refine (AD.out _ (HT.out.below B1.out.drew)).mono ?_); rintro e w2 ⟨rfl, hb⟩; have X2 := Lib.hid (X.out.drew.below hb); have Y2 := Lib.hid (Y.out.drew.below hb); have Z2 := Lib.hid (Z.out.drew.below hb); have B2 := Lib.hid (bl_thru B1.out.drew (Nat.le_refl _) hb); clear hb; obtain ⟨z0, z1, z2, z3⟩ := Z2.out.cells; clear x0 x1 y0 y1; obtain ⟨x0, x1, -, -⟩ := X2.out.cells; obtain ⟨y0, y1, -, -⟩ := Y2.out.cells))
    clear z0 z1 z2 z3
    obtain ⟨z0, z1, z2, z3⟩ := (Z2.out.set2 (.int .u64 lo) (.int .u64 hi)).cells
    go_wp2
    refine bodyPost_ret (v := .tuple #[.agg #[.int .u64 lo, .int .u64 hi], .int .i64 R]) (by simp [results, Tryd.results22, go_sem, z0, z1, z2, z3]) rfl ?_
    exact ⟨rfl, (B2.out.setCell (p := ⟨w.heap.size + 1 + 1, 0, none⟩) (by show _ ≤ w.heap.size + 1 + 1; omega) _).setCell (p := ⟨w.heap.size + 1 + 1, 1, none⟩) (by show _ ≤ w.heap.size + 1 + 1; omega) _⟩
end Go.Proofs.YtfnchcogdmpojaaDoor
