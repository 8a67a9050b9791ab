/-
  THE WALKS of round.To, round.Beside.
-/
import Derived.Test.YtapdjclhpcakeaaDoorCk
set_option linter.unusedVariables false
set_option linter.unusedSimpArgs false
namespace Go.Proofs.YtapdjclhpcakeaaDoor
open Go.RowKit Nt Fm

def roE (c mode : Int) : Int := if c = 0 then (if mode < 0 ∨ 4 < mode then 1 else 0) else c
def roV (c mode : Int) (d : D) : Int := if roE c mode = 0 then numR d mode else 0
def roC (c mode : Int) (d : D) : Bool := if roE c mode = 0 then numC d else false

theorem nf_e {d : D} (h : d.Nf) (hz : d.m = 0) : d.e ≤ 1000 := by
  rcases h with rfl | h
  · show (0 : Int) ≤ 1000; decide
  · omega

end Go.Proofs.YtapdjclhpcakeaaDoor
