/-
  THE WALK of span.Meet.
-/
import Derived.Test.YtfnchcogdmpojaaDoorSh
set_option linter.unusedVariables false
set_option linter.unusedSimpArgs false
namespace Go.Proofs.YtfnchcogdmpojaaDoor
open Go.RowKit Nt Fm Fl

def meE (a b c d : Int) : Int := if spE2 a b c d = 0 then (if amB (oleast a c (-1)) (oleast b d 1) = true then 0 else 4) else spE2 a b c d
def meLo (a b c d : Int) : Int := if meE a b c d = 0 then oleast a c (-1) else 0
def meHi (a b c d : Int) : Int := if meE a b c d = 0 then oleast b d 1 else 0
set_option maxRecDepth 100000 in
set_option maxHeartbeats 8000000 in
theorem spMeet_any (a b c d : Int) (a0 : 0 ≤ a) (a1 : a ≤ 18446744073709551615) (b0 : 0 ≤ b) (b1 : b ≤ 18446744073709551615) (c0 : 0 ≤ c) (c1 : c ≤ 18446744073709551615) (d0 : 0 ≤ d) (d1 : d ≤ 18446744073709551615) (w : World) :
    Calls Tryd.prog 12 #[.agg #[.int .u64 a, .int .u64 b], .agg #[.int .u64 c, .int .u64 d]] w fun e w' => e = .returned (.tuple #[.agg #[.int .u64 (meLo a b c d), .int .u64 (meHi a b c d)], .int .i64 (meE a b c d)]) ∧ Below w.heap.size w w' := by
  have C1 := Lib.hid (fun w' => spcheck_any a b c d a0 a1 b0 b1 c0 c1 d0 d1 w')
  have MI := Lib.hid (fun w' => max_any a c a0 a1 c0 c1 w')
  have MA := Lib.hid (fun w' => min_any b d b0 b1 d0 d1 w')
  obtain ⟨m0, m1⟩ := oleast_bd (s := -1) a0 a1 c0 c1
  obtain ⟨n0, n1⟩ := oleast_bd (s := 1) b0 b1 d0 d1
  have AM := Lib.hid (fun w' => atMost_any (oleast a c (-1)) (oleast b d 1) m0 m1 n0 n1 w')
  have hcase : ((spE2 a b c d != 0) = true ∧ meLo a b c d = 0 ∧ meHi a b c d = 0 ∧ meE a b c d = spE2 a b c d) ∨ (spE2 a b c d = 0 ∧ ((amB (oleast a c (-1)) (oleast b d 1) = false ∧ meLo a b c d = 0 ∧ meHi a b c d = 0 ∧ meE a b c d = 4) ∨ (amB (oleast a c (-1)) (oleast b d 1) = true ∧ meLo a b c d = oleast a c (-1) ∧ meHi a b c d = oleast b d 1 ∧ meE a b c d = 0))) := by
    unfold meLo meHi meE
    by_cases h : spE2 a b c d = 0
    · right
      cases amB (oleast a c (-1)) (oleast b d 1) <;> simp [h]
    · left; simp [h]
  generalize meLo a b c d = lo at *
  generalize meHi a b c d = hi at *
  generalize meE a b c d = R at *
  generalize spE2 a b c d = E at *
  generalize oleast a c (-1) = m at *
  generalize oleast b d 1 = n at *
  generalize amB m n = am at *
  rcases hcase with ⟨k1, rfl, rfl, rfl⟩ | ⟨rfl, hway⟩
  all_goals
    go_enter Tryd.func12, Tryd.ntmps12
    go_wp2_with fail
    refine (C1.out _).mono ?_
    rintro e w1 ⟨rfl, hb⟩
    have X := Lib.hid (((Bx2.new w (.int .u64 a) (.int .u64 b) 24).alloc (.cells #[.int .u64 c, .int .u64 d] 24) |>.alloc (.cells #[.int .u64 0, .int .u64 0] 24)).below hb)
    have Y := Lib.hid (((Bx2.new2 w (.cells #[.int .u64 a, .int .u64 b] 24) (.int .u64 c) (.int .u64 d) 24).alloc (.cells #[.int .u64 0, .int .u64 0] 24)).below hb)
    have Z := Lib.hid ((Bx2.new3 w (.cells #[.int .u64 a, .int .u64 b] 24) (.cells #[.int .u64 c, .int .u64 d] 24) (.int .u64 0) (.int .u64 0) 24).below hb)
    have B1 := Lib.hid (bl_thru (bl_alloc3 w (.cells #[.int .u64 a, .int .u64 b] 24) (.cells #[.int .u64 c, .int .u64 d] 24) (.cells #[.int .u64 0, .int .u64 0] 24)) (Nat.le_refl _) hb)
    clear hb
  · obtain ⟨z0, z1, z2, z3⟩ := Z.out.cells
    go_wp2
    refine bodyPost_ret (v := .tuple #[.agg #[.int .u64 0, .int .u64 0], .int .i64 R]) (by simp [results, Tryd.results12, go_sem, z0, z1, z2, z3]) rfl ?_
    exact ⟨rfl, (B1.out.setCell (p := ⟨w.heap.size + 1 + 1, 0, none⟩) (by show _ ≤ w.heap.size + 1 + 1; omega) _).setCell (p := ⟨w.heap.size + 1 + 1, 1, none⟩) (by show _ ≤ w.heap.size + 1 + 1; omega) _⟩
  · go_wp2_with fail
    obtain ⟨x0, x1, x2, x3⟩ := X.out.drew.cells
    obtain ⟨y0, y1, y2, y3⟩ := Y.out.drew.cells
    obtain ⟨z0, z1, z2, z3⟩ := Z.out.drew.cells
    obtain ⟨v0, v1, v2, v3⟩ := Z.out.cells
    go_region_held3 (fun w' => w'.cell? ⟨w.heap.size, 0, none⟩ = some (.int .u64 a) ∧ w'.cell? ⟨w.heap.size, 1, none⟩ = some (.int .u64 b) ∧ w'.cell? ⟨w.heap.size + 1, 0, none⟩ = some (.int .u64 c) ∧ w'.cell? ⟨w.heap.size + 1, 1, none⟩ = some (.int .u64 d))
      (first
        | exact ⟨x0, x1, y0, y1⟩
        | (obtain ⟨x0, x1, -, -⟩ := (X.out.drew.alloc (.cells #[.int .u64 0, .int .u64 0] 24)).cells
           obtain ⟨y0, y1, -, -⟩ := (Y.out.drew.alloc (.cells #[.int .u64 0, .int .u64 0] 24)).cells
           exact ⟨x0, x1, y0, y1⟩)
        | (obtain ⟨x0, x1, -, -⟩ := (X.out.alloc (.cells #[.int .u64 m, .int .u64 n] 24)).drew.cells
           obtain ⟨y0, y1, -, -⟩ := (Y.out.alloc (.cells #[.int .u64 m, .int .u64 n] 24)).drew.cells
           exact ⟨x0, x1, y0, y1⟩)
        | (go_keep; done))
      (first
        | (go_at_call 42; refine (MI.out _).mono ?_; rintro e w' ⟨rfl, rfl⟩)
        | (go_at_call 41; refine (MA.out _).mono ?_; rintro e w' ⟨rfl, rfl⟩))
    all_goals
      have O2 := Lib.hid ((Bx2.new w1 (.int .u64 m) (.int .u64 n) 24).drew)
      have Z2 := Lib.hid ((Z.out.alloc (.cells #[.int .u64 m, .int .u64 n] 24)).drew)
      have B2 := Lib.hid ((B1.out.alloc B1.out.size (.cells #[.int .u64 m, .int .u64 n] 24)).drew)
      have zl := Z.out.lt
      obtain ⟨V, hV⟩ : ∃ V, V = (w1.alloc (.cells #[.int .u64 m, .int .u64 n] 24)).drew := ⟨_, rfl⟩
      rw [← hV] at O2 Z2 B2 ⊢
      clear hV
      clear z0 z1 z2 z3 v0 v1 v2 v3 x0 x1 x2 x3 y0 y1 y2 y3
      obtain ⟨o0, o1, o2, o3⟩ := O2.out.cells
      obtain ⟨z0, z1, z2, z3⟩ := Z2.out.cells
      rcases hway with ⟨rfl, rfl, rfl, rfl⟩ | ⟨rfl, rfl, rfl, rfl⟩
      · go_wp2_with (go_at_call 43; refine (AM.out _).mono ?_; rintro e w' ⟨rfl, rfl⟩)
        refine bodyPost_ret (v := .tuple #[.agg #[.int .u64 0, .int .u64 0], .int .i64 4]) (by simp [results, Tryd.results12, go_sem, z0, z1, z2, z3]) rfl ?_
        exact ⟨rfl, (B2.out.setCell (p := ⟨w.heap.size + 1 + 1, 0, none⟩) (by show _ ≤ w.heap.size + 1 + 1; omega) _).setCell (p := ⟨w.heap.size + 1 + 1, 1, none⟩) (by show _ ≤ w.heap.size + 1 + 1; omega) _⟩
      · go_wp2_with (go_at_call 43; refine (AM.out _).mono ?_; rintro e w' ⟨rfl, rfl⟩)
        refine bodyPost_ret (v := .tuple #[.agg #[.int .u64 lo, .int .u64 hi], .int .i64 0]) (by simp [results, Tryd.results12, go_sem, z0, z1, z2, z3]) rfl ?_
        exact ⟨rfl, (B2.out.setCell (p := ⟨w.heap.size + 1 + 1, 0, none⟩) (by show _ ≤ w.heap.size + 1 + 1; omega) _).setCell (p := ⟨w.heap.size + 1 + 1, 1, none⟩) (by show _ ≤ w.heap.size + 1 + 1; omega) _⟩
end Go.Proofs.YtfnchcogdmpojaaDoor
