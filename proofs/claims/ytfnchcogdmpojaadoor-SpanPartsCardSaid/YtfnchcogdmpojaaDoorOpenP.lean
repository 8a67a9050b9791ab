/-
  A struct of two uint64s that is handed in, by value: its fields.
-/
import Derived.Lib.SmallJoins
import Derived.ChangeSlices
set_option linter.unusedVariables false
set_option linter.unusedSimpArgs false
namespace Go.Proofs.YtfnchcogdmpojaaDoor
open Go.RowKit Go.Deep Go.Joins Go.ChangeShapes Go.WideShapes Go.ChangeAt

theorem open_span {H : Type} {P : Program} {enc : TypeId × Value → H} {w : World} {spare : Nat → Bool} {held : Bool} {r : Reach} {b0 : Nat} {t : TypeId} {f0 f1 : Field} {v : Value} {d : DataW H} {p : List MemPlace}
    (hs : P.underlying t = some (.struct #[f0, f1])) (hone : oneCellFields P #[f0, f1] = true) (hC : P.cellsOf t = 2)
    (h0 : P.underlying f0.type = some (.int .u64)) (h1 : P.underlying f1.type = some (.int .u64))
    (hv : Value.okWide P w r b0 t v) (h : DataW.Trod enc P w 0 spare held t v d p) :
    ∃ (x y : Int), v = .agg #[.int .u64 x, .int .u64 y] ∧ (0 ≤ x ∧ x ≤ 18446744073709551615) ∧ (0 ≤ y ∧ y ≤ 18446744073709551615) := by
  obtain ⟨c0, c1, y0, y1, m, rfl, _, _, g0, g1⟩ := open_agg2 hs hone hC hv h
  obtain ⟨x, hx, _, wx⟩ := DataW.trod_int h0 g0
  obtain ⟨y, hy, _, wy⟩ := DataW.trod_int h1 g1
  simp at hx hy
  subst hx hy
  exact ⟨x, y, rfl, bounds_u64 wx, bounds_u64 wy⟩
end Go.Proofs.YtfnchcogdmpojaaDoor
