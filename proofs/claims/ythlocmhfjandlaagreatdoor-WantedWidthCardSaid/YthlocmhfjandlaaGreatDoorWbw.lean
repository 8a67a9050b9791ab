/-
  SOME OF MY TEXTS in one: OpenF. Each says what it proves.
-/
import Derived.Test.YthlocmhfjandlaaGreatDoorWfd
import Derived.Lib.SmallJoins
import Derived.ChangeSlices
set_option linter.unusedVariables false
set_option linter.unusedSimpArgs false
/-
  A struct of eight plain fields that is handed in, by value: its fields.
-/
namespace Go.Proofs.YthlocmhfjandlaaGreatDoor
open Go.RowKit Go.Deep Go.Joins Go.ChangeShapes Go.WideShapes Go.ChangeAt

theorem array8 {α : Type} {cs : Array α} (h : cs.size = 8) : ∃ c0 c1 c2 c3 c4 c5 c6 c7, cs = #[c0, c1, c2, c3, c4, c5, c6, c7] := by
  obtain ⟨l⟩ := cs
  match l, h with
  | [c0, c1, c2, c3, c4, c5, c6, c7], _ => exact ⟨c0, c1, c2, c3, c4, c5, c6, c7, rfl⟩
theorem open_spec {H : Type} {P : Program} {enc : TypeId × Value → H} {w : World} {spare : Nat → Bool} {held : Bool} {r : Reach} {b0 : Nat} {t : TypeId} {f0 f1 f2 f3 f4 f5 f6 f7 : Field} {v : Value} {d : DataW H} {p : List MemPlace}
    (hs : P.underlying t = some (.struct #[f0, f1, f2, f3, f4, f5, f6, f7])) (hone : oneCellFields P #[f0, f1, f2, f3, f4, f5, f6, f7] = true) (hC : P.cellsOf t = 8)
    (h0 : P.underlying f0.type = some (.int .i64)) (h1 : P.underlying f1.type = some .bool) (h2 : P.underlying f2.type = some .bool) (h3 : P.underlying f3.type = some .bool)
    (h4 : P.underlying f4.type = some .bool) (h5 : P.underlying f5.type = some .bool) (h6 : P.underlying f6.type = some (.int .i64)) (h7 : P.underlying f7.type = some (.int .i64))
    (hv : Value.okWide P w r b0 t v) (h : DataW.Trod enc P w 0 spare held t v d p) :
    ∃ f : Spc, v = f.v ∧ (-9223372036854775808 ≤ f.verb ∧ f.verb ≤ 9223372036854775807) ∧ (-9223372036854775808 ≤ f.wd ∧ f.wd ≤ 9223372036854775807) ∧ (-9223372036854775808 ≤ f.pr ∧ f.pr ≤ 9223372036854775807) := by
  obtain ⟨cs, rfl, hsz⟩ := okWide_struct hs hv
  obtain ⟨c0, c1, c2, c3, c4, c5, c6, c7, rfl⟩ := array8 (hsz.trans hC)
  obtain ⟨fuel, hf⟩ := h
  obtain ⟨xs, n, _, hx, hl, hlen, hf⟩ := DataW.trod_struct hs hf
  match xs, hlen with
  | [y0, y1, y2, y3, y4, y5, y6, y7], _ =>
    obtain ⟨o0, k0⟩ := hone_of hone 0 f0 rfl
    obtain ⟨o1, k1⟩ := hone_of hone 1 f1 rfl
    obtain ⟨o2, k2⟩ := hone_of hone 2 f2 rfl
    obtain ⟨o3, k3⟩ := hone_of hone 3 f3 rfl
    obtain ⟨o4, k4⟩ := hone_of hone 4 f4 rfl
    obtain ⟨o5, k5⟩ := hone_of hone 5 f5 rfl
    obtain ⟨o6, k6⟩ := hone_of hone 6 f6 rfl
    obtain ⟨o7, k7⟩ := hone_of hone 7 f7 rfl
    have g0 : DataW.trod enc P w 0 spare held n f0.type [c0] = some y0 := by simpa [Value.cells, o0, k0] using hf 0 f0 rfl
    have g1 : DataW.trod enc P w 0 spare held n f1.type [c1] = some y1 := by simpa [Value.cells, o1, k1] using hf 1 f1 rfl
    have g2 : DataW.trod enc P w 0 spare held n f2.type [c2] = some y2 := by simpa [Value.cells, o2, k2] using hf 2 f2 rfl
    have g3 : DataW.trod enc P w 0 spare held n f3.type [c3] = some y3 := by simpa [Value.cells, o3, k3] using hf 3 f3 rfl
    have g4 : DataW.trod enc P w 0 spare held n f4.type [c4] = some y4 := by simpa [Value.cells, o4, k4] using hf 4 f4 rfl
    have g5 : DataW.trod enc P w 0 spare held n f5.type [c5] = some y5 := by simpa [Value.cells, o5, k5] using hf 5 f5 rfl
    have g6 : DataW.trod enc P w 0 spare held n f6.type [c6] = some y6 := by simpa [Value.cells, o6, k6] using hf 6 f6 rfl
    have g7 : DataW.trod enc P w 0 spare held n f7.type [c7] = some y7 := by simpa [Value.cells, o7, k7] using hf 7 f7 rfl
    obtain ⟨z0, e0, _, w0⟩ := DataW.trod_int h0 g0
    obtain ⟨z1, e1, _⟩ := DataW.trod_bool h1 g1
    obtain ⟨z2, e2, _⟩ := DataW.trod_bool h2 g2
    obtain ⟨z3, e3, _⟩ := DataW.trod_bool h3 g3
    obtain ⟨z4, e4, _⟩ := DataW.trod_bool h4 g4
    obtain ⟨z5, e5, _⟩ := DataW.trod_bool h5 g5
    obtain ⟨z6, e6, _, w6⟩ := DataW.trod_int h6 g6
    obtain ⟨z7, e7, _, w7⟩ := DataW.trod_int h7 g7
    simp at e0 e1 e2 e3 e4 e5 e6 e7
    subst e0 e1 e2 e3 e4 e5 e6 e7
    exact ⟨⟨z0, z1, z2, z3, z4, z5, z6, z7⟩, rfl, bounds_i64 w0, bounds_i64 w6, bounds_i64 w7⟩
end Go.Proofs.YthlocmhfjandlaaGreatDoor
