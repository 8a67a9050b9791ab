/-
  THE WALK of span.Add.
-/
import Derived.Test.YtfnchcogdmpojaaDoorSh
import Derived.Test.YtfnchcogdmpojaaDoorBp
set_option linter.unusedVariables false
set_option linter.unusedSimpArgs false
namespace Go.Proofs.YtfnchcogdmpojaaDoor
open Go.RowKit Nt Fm Fl

def saLo (a b c d : Int) : Int := if spE2 a b c d = 0 then plV (adV a c 2) else 0
def saHi (a b c d : Int) : Int := if spE2 a b c d = 0 then plV (adV b d 1) else 0
set_option maxRecDepth 100000 in
set_option maxHeartbeats 8000000 in
theorem spAdd_any (a b c d : Int) (a0 : 0 ≤ a) (a1 : a ≤ 18446744073709551615) (b0 : 0 ≤ b) (b1 : b ≤ 18446744073709551615) (c0 : 0 ≤ c) (c1 : c ≤ 18446744073709551615) (d0 : 0 ≤ d) (d1 : d ≤ 18446744073709551615) (w : World) (hT : Tab w) :
    Calls Tryd.prog 17 #[.agg #[.int .u64 a, .int .u64 b], .agg #[.int .u64 c, .int .u64 d]] w fun e w' => e = .returned (.tuple #[.agg #[.int .u64 (saLo a b c d), .int .u64 (saHi a b c d)], .int .i64 (spE2 a b c d)]) ∧ Below w.heap.size w w' := by
  have C1 := Lib.hid (fun w' => spcheck_any a b c d a0 a1 b0 b1 c0 c1 d0 d1 w')
  have A1 := Lib.hid (fun w' h => sadd_any a c 2 a0 a1 c0 c1 w' h)
  have A2 := Lib.hid (fun w' h => sadd_any b d 1 b0 b1 d0 d1 w' h)
  have hcase : ((spE2 a b c d != 0) = true ∧ saLo a b c d = 0 ∧ saHi a b c d = 0) ∨ (spE2 a b c d = 0 ∧ saLo a b c d = plV (adV a c 2) ∧ saHi a b c d = plV (adV b d 1)) := by
    unfold saLo saHi
    by_cases h : spE2 a b c d = 0
    · right; simp [h]
    · left; simp [h]
  have HT := Lib.hid hT
  clear hT
  generalize saLo a b c d = lo at *
  generalize saHi a b c d = hi at *
  generalize spE2 a b c d = E at *
  rcases hcase with ⟨k1, rfl, rfl⟩ | ⟨rfl, rfl, rfl⟩
  all_goals
    go_enter Tryd.func17, Tryd.ntmps17
    go_wp2_with fail
    refine (C1.out _).mono ?_
    rintro e w1 ⟨rfl, hb⟩
    have X := Lib.hid (((Bx2.new w (.int .u64 a) (.int .u64 b) 24).alloc (.cells #[.int .u64 c, .int .u64 d] 24) |>.alloc (.cells #[.int .u64 0, .int .u64 0] 24)).below hb)
    have Y := Lib.hid (((Bx2.new2 w (.cells #[.int .u64 a, .int .u64 b] 24) (.int .u64 c) (.int .u64 d) 24).alloc (.cells #[.int .u64 0, .int .u64 0] 24)).below hb)
    have Z := Lib.hid ((Bx2.new3 w (.cells #[.int .u64 a, .int .u64 b] 24) (.cells #[.int .u64 c, .int .u64 d] 24) (.int .u64 0) (.int .u64 0) 24).below hb)
    have B1 := Lib.hid (bl_thru (bl_alloc3 w (.cells #[.int .u64 a, .int .u64 b] 24) (.cells #[.int .u64 c, .int .u64 d] 24) (.cells #[.int .u64 0, .int .u64 0] 24)) (Nat.le_refl _) hb)
    clear hb
  · obtain ⟨z0, z1, z2, z3⟩ := Z.out.cells
    go_wp2
    refine bodyPost_ret (v := .tuple #[.agg #[.int .u64 0, .int .u64 0], .int .i64 E]) (by simp [results, Tryd.results17, go_sem, z0, z1, z2, z3]) rfl ?_
    exact ⟨rfl, (B1.out.setCell (p := ⟨w.heap.size + 1 + 1, 0, none⟩) (by show _ ≤ w.heap.size + 1 + 1; omega) _).setCell (p := ⟨w.heap.size + 1 + 1, 1, none⟩) (by show _ ≤ w.heap.size + 1 + 1; omega) _⟩
  · obtain ⟨x0, x1, -, -⟩ := X.out.cells
    obtain ⟨y0, y1, -, -⟩ := Y.out.cells
    go_wp2_with fail
    refine (A1.out _ (HT.out.below B1.out)).mono ?_
    rintro e w2 ⟨rfl, hb⟩
    have X2 := Lib.hid (X.out.below hb)
    have Y2 := Lib.hid (Y.out.below hb)
    have Z2 := Lib.hid (Z.out.below hb)
    have B2 := Lib.hid (bl_thru B1.out (Nat.le_refl _) hb)
    clear hb x0 x1 y0 y1
    obtain ⟨x0, x1, -, -⟩ := X2.out.cells
    obtain ⟨y0, y1, -, -⟩ := Y2.out.cells
    go_wp2_with fail
    refine (A2.out _ (HT.out.below B2.out)).mono ?_
    rintro e w3 ⟨rfl, hb⟩
    have Z3 := Lib.hid (Z2.out.below hb)
    have B3 := Lib.hid (bl_thru B2.out (Nat.le_refl _) hb)
    clear hb x0 x1 y0 y1
    obtain ⟨z0, z1, z2, z3⟩ := Z3.out.cells
    go_wp2_with (go_at_call 46; refine (plain_any _ _).mono ?_; rintro e w' ⟨rfl, rfl⟩)
    refine bodyPost_ret (v := .tuple #[.agg #[.int .u64 (plV (adV a c 2)), .int .u64 (plV (adV b d 1))], .int .i64 0]) (by simp [results, Tryd.results17, go_sem, z0, z1, z2, z3]) rfl ?_
    exact ⟨rfl, (B3.out.setCell (p := ⟨w.heap.size + 1 + 1, 0, none⟩) (by show _ ≤ w.heap.size + 1 + 1; omega) _).setCell (p := ⟨w.heap.size + 1 + 1, 1, none⟩) (by show _ ≤ w.heap.size + 1 + 1; omega) _⟩
end Go.Proofs.YtfnchcogdmpojaaDoor
