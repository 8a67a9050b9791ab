/-
  THE WALK of span.Hull.
-/
import Derived.Test.YtfnchcogdmpojaaDoorSo2
import Derived.Deep.RegionHeld3
set_option linter.unusedVariables false
set_option linter.unusedSimpArgs false
namespace Go.Proofs.YtfnchcogdmpojaaDoor
open Go.RowKit Nt Fm Fl

theorem Bx2.new3 (w : World) (o p : Obj) (x y : Value) (T : TypeId) : Bx2 (((w.alloc o).alloc p).alloc (.cells #[x, y] T)) (w.heap.size + 1 + 1) T x y := by
  have h := Bx2.new ((w.alloc o).alloc p) x y T
  rw [show ((w.alloc o).alloc p).heap.size = w.heap.size + 1 + 1 from by simp] at h; exact h
theorem Bx2.drew {w : World} {b : Nat} {T : TypeId} {x y : Value} (h : Bx2 w b T x y) : Bx2 w.drew b T x y := h
theorem Bx2.set0 {w : World} {b : Nat} {T : TypeId} {x y : Value} (h : Bx2 w b T x y) (v : Value) : Bx2 (w.setCell ⟨b, 0, none⟩ v) b T v y := heap_set h
theorem Bx2.set1 {w : World} {b : Nat} {T : TypeId} {x y : Value} (h : Bx2 w b T x y) (v : Value) : Bx2 (w.setCell ⟨b, 1, none⟩ v) b T x v := heap_set h
theorem Bx2.set2 {w : World} {b : Nat} {T : TypeId} {x y : Value} (h : Bx2 w b T x y) (x' y' : Value) : Bx2 ((w.setCell ⟨b, 0, none⟩ x').setCell ⟨b, 1, none⟩ y') b T x' y' := (h.set0 x').set1 y'
theorem Bx2.set {w : World} {b b' o : Nat} {T : TypeId} {x y : Value} (h : Bx2 w b T x y) (hb : b ≠ b') (v : Value) : Bx2 (w.setCell ⟨b', o, none⟩ v) b T x y := (Below.heap_setCell _ _ _ _ hb).trans h
def huLo (a b c d : Int) : Int := if spE2 a b c d = 0 then oleast a c 1 else 0
def huHi (a b c d : Int) : Int := if spE2 a b c d = 0 then oleast b d (-1) else 0
set_option maxRecDepth 100000 in
set_option maxHeartbeats 8000000 in
theorem spHull_any (a b c d : Int) (a0 : 0 ≤ a) (a1 : a ≤ 18446744073709551615) (b0 : 0 ≤ b) (b1 : b ≤ 18446744073709551615) (c0 : 0 ≤ c) (c1 : c ≤ 18446744073709551615) (d0 : 0 ≤ d) (d1 : d ≤ 18446744073709551615) (w : World) :
    Calls Tryd.prog 11 #[.agg #[.int .u64 a, .int .u64 b], .agg #[.int .u64 c, .int .u64 d]] w fun e w' => e = .returned (.tuple #[.agg #[.int .u64 (huLo a b c d), .int .u64 (huHi a b c d)], .int .i64 (spE2 a b c d)]) ∧ Below w.heap.size w w' := by
  have C1 := Lib.hid (fun w' => spcheck_any a b c d a0 a1 b0 b1 c0 c1 d0 d1 w')
  have MI := Lib.hid (fun w' => min_any a c a0 a1 c0 c1 w')
  have MA := Lib.hid (fun w' => max_any b d b0 b1 d0 d1 w')
  have hcase : ((spE2 a b c d != 0) = true ∧ huLo a b c d = 0 ∧ huHi a b c d = 0) ∨ (spE2 a b c d = 0 ∧ huLo a b c d = oleast a c 1 ∧ huHi a b c d = oleast b d (-1)) := by
    unfold huLo huHi
    by_cases h : spE2 a b c d = 0
    · right; simp [h]
    · left; simp [h]
  generalize huLo a b c d = lo at *
  generalize huHi a b c d = hi at *
  generalize spE2 a b c d = E at *
  generalize oleast a c 1 = m at *
  generalize oleast b d (-1) = n at *
  rcases hcase with ⟨k1, rfl, rfl⟩ | ⟨rfl, rfl, rfl⟩
  all_goals
    go_enter Tryd.func11, Tryd.ntmps11
    go_wp2_with fail
    refine (C1.out _).mono ?_
    rintro e w1 ⟨rfl, hb⟩
    have X := Lib.hid (((Bx2.new w (.int .u64 a) (.int .u64 b) 24).alloc (.cells #[.int .u64 c, .int .u64 d] 24) |>.alloc (.cells #[.int .u64 0, .int .u64 0] 24)).below hb)
    have Y := Lib.hid (((Bx2.new2 w (.cells #[.int .u64 a, .int .u64 b] 24) (.int .u64 c) (.int .u64 d) 24).alloc (.cells #[.int .u64 0, .int .u64 0] 24)).below hb)
    have Z := Lib.hid ((Bx2.new3 w (.cells #[.int .u64 a, .int .u64 b] 24) (.cells #[.int .u64 c, .int .u64 d] 24) (.int .u64 0) (.int .u64 0) 24).below hb)
    have B1 := Lib.hid (bl_thru (bl_alloc3 w (.cells #[.int .u64 a, .int .u64 b] 24) (.cells #[.int .u64 c, .int .u64 d] 24) (.cells #[.int .u64 0, .int .u64 0] 24)) (Nat.le_refl _) hb)
    clear hb
  · obtain ⟨z0, z1, z2, z3⟩ := Z.out.cells
    go_wp2
    refine bodyPost_ret (v := .tuple #[.agg #[.int .u64 0, .int .u64 0], .int .i64 E]) (by simp [results, Tryd.results11, go_sem, z0, z1, z2, z3]) rfl ?_
    exact ⟨rfl, (B1.out.setCell (p := ⟨w.heap.size + 1 + 1, 0, none⟩) (by show _ ≤ w.heap.size + 1 + 1; omega) _).setCell (p := ⟨w.heap.size + 1 + 1, 1, none⟩) (by show _ ≤ w.heap.size + 1 + 1; omega) _⟩
  · go_wp2_with fail
    obtain ⟨x0, x1, x2, x3⟩ := X.out.drew.cells
    obtain ⟨y0, y1, y2, y3⟩ := Y.out.drew.cells
    obtain ⟨z0, z1, z2, z3⟩ := Z.out.drew.cells
    obtain ⟨v0, v1, v2, v3⟩ := Z.out.cells
    go_region_held3 (fun w' => w'.cell? ⟨w.heap.size, 0, none⟩ = some (.int .u64 a) ∧ w'.cell? ⟨w.heap.size, 1, none⟩ = some (.int .u64 b) ∧ w'.cell? ⟨w.heap.size + 1, 0, none⟩ = some (.int .u64 c) ∧ w'.cell? ⟨w.heap.size + 1, 1, none⟩ = some (.int .u64 d))
      (first
        | exact ⟨x0, x1, y0, y1⟩
        | (obtain ⟨x0, x1, -, -⟩ := ((X.out.set (b' := w.heap.size + 1 + 1) (o := 0) (by omega) (.int .u64 lo)).set (b' := w.heap.size + 1 + 1) (o := 1) (by omega) (.int .u64 hi)).drew.cells
           obtain ⟨y0, y1, -, -⟩ := ((Y.out.set (b' := w.heap.size + 1 + 1) (o := 0) (by omega) (.int .u64 lo)).set (b' := w.heap.size + 1 + 1) (o := 1) (by omega) (.int .u64 hi)).drew.cells
           exact ⟨x0, x1, y0, y1⟩)
        | (go_keep; done))
      (first
        | (go_at_call 41; refine (MI.out _).mono ?_; rintro e w' ⟨rfl, rfl⟩)
        | (go_at_call 42; refine (MA.out _).mono ?_; rintro e w' ⟨rfl, rfl⟩))
    have Z2 := Lib.hid ((Z.out.set2 (.int .u64 lo) (.int .u64 hi)).drew)
    clear z0 z1 z2 z3 v0 v1 v2 v3
    obtain ⟨z0, z1, z2, z3⟩ := Z2.out.cells
    go_wp2
    refine bodyPost_ret (v := .tuple #[.agg #[.int .u64 lo, .int .u64 hi], .int .i64 0]) (by simp [results, Tryd.results11, go_sem, z0, z1, z2, z3]) rfl ?_
    exact ⟨rfl, ((B1.out.setCell (p := ⟨w.heap.size + 1 + 1, 0, none⟩) (by show _ ≤ w.heap.size + 1 + 1; omega) _).setCell (p := ⟨w.heap.size + 1 + 1, 1, none⟩) (by show _ ≤ w.heap.size + 1 + 1; omega) _).drew⟩
end Go.Proofs.YtfnchcogdmpojaaDoor
