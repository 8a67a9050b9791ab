/-
  No cell of these rows narrows 'for every input' (looked for: loops, veiled, ifaces, maps, wideKeys, modest, calm, conditions, laid).
  DERIVED. THE GIVEN ROWS OF THIS SEAT. 8 by the template 'for every input the law returns true; each argument reads behind the call as it read before'; 0 by the template 'total and deterministic' (their statements: YtkjgdlhdcnfmlaaTotals.lean).
  GIVEN WITH THE SEED: the statements are not yours to turn. If you find one false, say at which input.
  Laid BY PROGRAM, IN A SANDBOX (cutbox-rows.mjs): the forced cells as the released guide's own fill.sh prints them over the translation cb36fefe210beaae… (all of the seat's roots in one cut). By AI agents, Wed Nov 11 2026. No macro, syntax, notation, axiom, sorry.
-/
import Derived.Test.YtkjgdlhdcnfmlaaChecked
import GoSem.Claim
import GoSem.ClaimJoined
import GoSem.ClaimMapViews
import Derived.JoinedTies
import Derived.KernelRfl
namespace Go.Proofs.Ytkjgdlhdcnfmlaa
/- THE CELL 'sum', in the pinned program and in every row, IS THE sha256 OF THE DUMP (.gsa) THAT YtkjgdlhdcnfmlaaProg.lean LOADS. Nothing in Lean hashes anything: it is a label: what it is worth is what the hold of that sum in a sandbox is worth. -/
noncomputable def Try.pinned : Pinned := { name := "ytkjgdlhdcnfmlaa", sum := "cb36fefe210beaaee9ffad14c4efb60651624eab98e23b94faded4188fa02334", checked := Try.checked }
namespace Rows
def none {H : Type} : Left H := { results := [], args := [] }

/-- 'ulpkeep.FloatBack': WHATEVER THE INPUT: true; the input reads as it did. -/
def floatBackSpec : ChangeSpec := { name := "floatBack", fn := fun _ => fun
  | [d1, d2] => { results := [.lit (.bool true)], args := [d1, d2] }
  | _ => none }
def floatBackRow : OpenClaim := { program := "ytkjgdlhdcnfmlaa", sum := "cb36fefe210beaaee9ffad14c4efb60651624eab98e23b94faded4188fa02334", func := "ulpwright/ulpkeep.FloatBack", spec := "floatBack", apart := false }
def FloatBackSaid : Prop := floatBackRow.holds Try.pinned (OpenSpec.ofChange floatBackSpec)

/-- ITS FALSE NEIGHBOUR: 'it returns false'. Refute it at one input. -/
def floatBackWrong : ChangeSpec := { name := "floatBack", fn := fun _ => fun
  | [d1, d2] => { results := [.lit (.bool false)], args := [d1, d2] }
  | _ => none }
def FloatBackWrongFalsely : Prop := floatBackRow.holds Try.pinned (OpenSpec.ofChange floatBackWrong)

/-- 'ulpkeep.FloatMade': WHATEVER THE INPUT: true; the input reads as it did. -/
def floatMadeSpec : ChangeSpec := { name := "floatMade", fn := fun _ => fun
  | [d] => { results := [.lit (.bool true)], args := [d] }
  | _ => none }
def floatMadeRow : OpenClaim := { program := "ytkjgdlhdcnfmlaa", sum := "cb36fefe210beaaee9ffad14c4efb60651624eab98e23b94faded4188fa02334", func := "ulpwright/ulpkeep.FloatMade", spec := "floatMade", apart := false }
def FloatMadeSaid : Prop := floatMadeRow.holds Try.pinned (OpenSpec.ofChange floatMadeSpec)

/-- ITS FALSE NEIGHBOUR: 'it returns false'. Refute it at one input. -/
def floatMadeWrong : ChangeSpec := { name := "floatMade", fn := fun _ => fun
  | [d] => { results := [.lit (.bool false)], args := [d] }
  | _ => none }
def FloatMadeWrongFalsely : Prop := floatMadeRow.holds Try.pinned (OpenSpec.ofChange floatMadeWrong)

/-- 'ulpkeep.FloatSteps': WHATEVER THE INPUT: true; the input reads as it did. -/
def floatStepsSpec : ChangeSpec := { name := "floatSteps", fn := fun _ => fun
  | [d1, d2] => { results := [.lit (.bool true)], args := [d1, d2] }
  | _ => none }
def floatStepsRow : OpenClaim := { program := "ytkjgdlhdcnfmlaa", sum := "cb36fefe210beaaee9ffad14c4efb60651624eab98e23b94faded4188fa02334", func := "ulpwright/ulpkeep.FloatSteps", spec := "floatSteps", apart := false }
def FloatStepsSaid : Prop := floatStepsRow.holds Try.pinned (OpenSpec.ofChange floatStepsSpec)

/-- ITS FALSE NEIGHBOUR: 'it returns false'. Refute it at one input. -/
def floatStepsWrong : ChangeSpec := { name := "floatSteps", fn := fun _ => fun
  | [d1, d2] => { results := [.lit (.bool false)], args := [d1, d2] }
  | _ => none }
def FloatStepsWrongFalsely : Prop := floatStepsRow.holds Try.pinned (OpenSpec.ofChange floatStepsWrong)

/-- 'ulpkeep.FloatTurned': WHATEVER THE INPUT: true; the input reads as it did. -/
def floatTurnedSpec : ChangeSpec := { name := "floatTurned", fn := fun _ => fun
  | [d] => { results := [.lit (.bool true)], args := [d] }
  | _ => none }
def floatTurnedRow : OpenClaim := { program := "ytkjgdlhdcnfmlaa", sum := "cb36fefe210beaaee9ffad14c4efb60651624eab98e23b94faded4188fa02334", func := "ulpwright/ulpkeep.FloatTurned", spec := "floatTurned", apart := false }
def FloatTurnedSaid : Prop := floatTurnedRow.holds Try.pinned (OpenSpec.ofChange floatTurnedSpec)

/-- ITS FALSE NEIGHBOUR: 'it returns false'. Refute it at one input. -/
def floatTurnedWrong : ChangeSpec := { name := "floatTurned", fn := fun _ => fun
  | [d] => { results := [.lit (.bool false)], args := [d] }
  | _ => none }
def FloatTurnedWrongFalsely : Prop := floatTurnedRow.holds Try.pinned (OpenSpec.ofChange floatTurnedWrong)

/-- 'ulpkeep.OrderTotal': WHATEVER THE INPUT: true; the input reads as it did. -/
def orderTotalSpec : ChangeSpec := { name := "orderTotal", fn := fun _ => fun
  | [d1, d2, d3] => { results := [.lit (.bool true)], args := [d1, d2, d3] }
  | _ => none }
def orderTotalRow : OpenClaim := { program := "ytkjgdlhdcnfmlaa", sum := "cb36fefe210beaaee9ffad14c4efb60651624eab98e23b94faded4188fa02334", func := "ulpwright/ulpkeep.OrderTotal", spec := "orderTotal", apart := false }
def OrderTotalSaid : Prop := orderTotalRow.holds Try.pinned (OpenSpec.ofChange orderTotalSpec)

/-- ITS FALSE NEIGHBOUR: 'it returns false'. Refute it at one input. -/
def orderTotalWrong : ChangeSpec := { name := "orderTotal", fn := fun _ => fun
  | [d1, d2, d3] => { results := [.lit (.bool false)], args := [d1, d2, d3] }
  | _ => none }
def OrderTotalWrongFalsely : Prop := orderTotalRow.holds Try.pinned (OpenSpec.ofChange orderTotalWrong)

/-- 'ulpkeep.OrderAgrees': WHATEVER THE INPUT: true; the input reads as it did. -/
def orderAgreesSpec : ChangeSpec := { name := "orderAgrees", fn := fun _ => fun
  | [d1, d2] => { results := [.lit (.bool true)], args := [d1, d2] }
  | _ => none }
def orderAgreesRow : OpenClaim := { program := "ytkjgdlhdcnfmlaa", sum := "cb36fefe210beaaee9ffad14c4efb60651624eab98e23b94faded4188fa02334", func := "ulpwright/ulpkeep.OrderAgrees", spec := "orderAgrees", apart := false }
def OrderAgreesSaid : Prop := orderAgreesRow.holds Try.pinned (OpenSpec.ofChange orderAgreesSpec)

/-- ITS FALSE NEIGHBOUR: 'it returns false'. Refute it at one input. -/
def orderAgreesWrong : ChangeSpec := { name := "orderAgrees", fn := fun _ => fun
  | [d1, d2] => { results := [.lit (.bool false)], args := [d1, d2] }
  | _ => none }
def OrderAgreesWrongFalsely : Prop := orderAgreesRow.holds Try.pinned (OpenSpec.ofChange orderAgreesWrong)

/-- 'ulpkeep.OrderBetter': WHATEVER THE INPUT: true; the input reads as it did. -/
def orderBetterSpec : ChangeSpec := { name := "orderBetter", fn := fun _ => fun
  | [d1, d2, d3] => { results := [.lit (.bool true)], args := [d1, d2, d3] }
  | _ => none }
def orderBetterRow : OpenClaim := { program := "ytkjgdlhdcnfmlaa", sum := "cb36fefe210beaaee9ffad14c4efb60651624eab98e23b94faded4188fa02334", func := "ulpwright/ulpkeep.OrderBetter", spec := "orderBetter", apart := false }
def OrderBetterSaid : Prop := orderBetterRow.holds Try.pinned (OpenSpec.ofChange orderBetterSpec)

/-- ITS FALSE NEIGHBOUR: 'it returns false'. Refute it at one input. -/
def orderBetterWrong : ChangeSpec := { name := "orderBetter", fn := fun _ => fun
  | [d1, d2, d3] => { results := [.lit (.bool false)], args := [d1, d2, d3] }
  | _ => none }
def OrderBetterWrongFalsely : Prop := orderBetterRow.holds Try.pinned (OpenSpec.ofChange orderBetterWrong)

/-- 'ulpkeep.OrderSorts': WHATEVER THE INPUT: true; the input reads as it did. -/
def orderSortsSpec : ChangeSpec := { name := "orderSorts", fn := fun _ => fun
  | [d] => { results := [.lit (.bool true)], args := [d] }
  | _ => none }
def orderSortsRow : OpenClaim := { program := "ytkjgdlhdcnfmlaa", sum := "cb36fefe210beaaee9ffad14c4efb60651624eab98e23b94faded4188fa02334", func := "ulpwright/ulpkeep.OrderSorts", spec := "orderSorts", unfollowed := true, recurses := true, apart := false }
def OrderSortsSaid : Prop := orderSortsRow.holds Try.pinned (OpenSpec.ofChange orderSortsSpec)

/-- ITS FALSE NEIGHBOUR: 'it returns false'. Refute it at one input. -/
def orderSortsWrong : ChangeSpec := { name := "orderSorts", fn := fun _ => fun
  | [d] => { results := [.lit (.bool false)], args := [d] }
  | _ => none }
def OrderSortsWrongFalsely : Prop := orderSortsRow.holds Try.pinned (OpenSpec.ofChange orderSortsWrong)

/- THE SECOND FORM. 'bulk': how many values and letters a reading holds, each counted each time it is reached (what is shared counts as often as it is met; a slice's spare places count too). A statement '..UptoSaid' is the law's where the arguments, and the package variables that the reading takes, are together of bulk at most 1048576: NARROWER than '..Said'. Prove '..Said' where nothing that the law and all that it calls make is longer than what came in: it says more and counts as full. Else prove '..UptoSaid'. A law counts once. -/
mutual
def uptoBulk {H : Type} : DataW H → Nat
  | .lit (.string bytes) => bytes.length + 1
  | .lit _ => 1
  | .nil => 1
  | .ptr d => uptoBulk d + 1
  | .slice elems spare => uptoBulkAll elems + uptoBulkAll spare + 1
  | .agg parts => uptoBulkAll parts + 1
  | .iface _ d => uptoBulk d + 1
  | .map entries => uptoBulkEntries entries + 1
  | .held _ => 1
def uptoBulkAll {H : Type} : List (DataW H) → Nat
  | [] => 0
  | d :: r => uptoBulk d + uptoBulkAll r
def uptoBulkEntries {H : Type} : List (Lit × DataW H) → Nat
  | [] => 0
  | x :: r => uptoBulkEntry x + uptoBulkEntries r
def uptoBulkEntry {H : Type} : Lit × DataW H → Nat
  | (.string bytes, d) => bytes.length + uptoBulk d + 1
  | (_, d) => uptoBulk d + 1
 end
def uptoSmall : (H : Type) → List (DataW H) → Bool := fun _ ds => decide (uptoBulkAll ds ≤ 1048576)
def OpenSpec.upto (s : _root_.Go.ChangeSpec) : _root_.Go.OpenSpec := { _root_.Go.OpenSpec.ofChange s with cond := some uptoSmall }

/-- 'ulpkeep.FloatBack', WHERE WHAT IT READS IS OF BULK AT MOST 1048576: true; the input reads as it did. -/
def floatBackUptoRow : OpenClaim := { program := "ytkjgdlhdcnfmlaa", sum := "cb36fefe210beaaee9ffad14c4efb60651624eab98e23b94faded4188fa02334", func := "ulpwright/ulpkeep.FloatBack", spec := "floatBack", apart := false, narrowed := true }
def FloatBackUptoSaid : Prop := floatBackUptoRow.holds Try.pinned (OpenSpec.upto floatBackSpec)

/-- 'ulpkeep.FloatMade', WHERE WHAT IT READS IS OF BULK AT MOST 1048576: true; the input reads as it did. -/
def floatMadeUptoRow : OpenClaim := { program := "ytkjgdlhdcnfmlaa", sum := "cb36fefe210beaaee9ffad14c4efb60651624eab98e23b94faded4188fa02334", func := "ulpwright/ulpkeep.FloatMade", spec := "floatMade", apart := false, narrowed := true }
def FloatMadeUptoSaid : Prop := floatMadeUptoRow.holds Try.pinned (OpenSpec.upto floatMadeSpec)

/-- 'ulpkeep.FloatSteps', WHERE WHAT IT READS IS OF BULK AT MOST 1048576: true; the input reads as it did. -/
def floatStepsUptoRow : OpenClaim := { program := "ytkjgdlhdcnfmlaa", sum := "cb36fefe210beaaee9ffad14c4efb60651624eab98e23b94faded4188fa02334", func := "ulpwright/ulpkeep.FloatSteps", spec := "floatSteps", apart := false, narrowed := true }
def FloatStepsUptoSaid : Prop := floatStepsUptoRow.holds Try.pinned (OpenSpec.upto floatStepsSpec)

/-- 'ulpkeep.FloatTurned', WHERE WHAT IT READS IS OF BULK AT MOST 1048576: true; the input reads as it did. -/
def floatTurnedUptoRow : OpenClaim := { program := "ytkjgdlhdcnfmlaa", sum := "cb36fefe210beaaee9ffad14c4efb60651624eab98e23b94faded4188fa02334", func := "ulpwright/ulpkeep.FloatTurned", spec := "floatTurned", apart := false, narrowed := true }
def FloatTurnedUptoSaid : Prop := floatTurnedUptoRow.holds Try.pinned (OpenSpec.upto floatTurnedSpec)

/-- 'ulpkeep.OrderTotal', WHERE WHAT IT READS IS OF BULK AT MOST 1048576: true; the input reads as it did. -/
def orderTotalUptoRow : OpenClaim := { program := "ytkjgdlhdcnfmlaa", sum := "cb36fefe210beaaee9ffad14c4efb60651624eab98e23b94faded4188fa02334", func := "ulpwright/ulpkeep.OrderTotal", spec := "orderTotal", apart := false, narrowed := true }
def OrderTotalUptoSaid : Prop := orderTotalUptoRow.holds Try.pinned (OpenSpec.upto orderTotalSpec)

/-- 'ulpkeep.OrderAgrees', WHERE WHAT IT READS IS OF BULK AT MOST 1048576: true; the input reads as it did. -/
def orderAgreesUptoRow : OpenClaim := { program := "ytkjgdlhdcnfmlaa", sum := "cb36fefe210beaaee9ffad14c4efb60651624eab98e23b94faded4188fa02334", func := "ulpwright/ulpkeep.OrderAgrees", spec := "orderAgrees", apart := false, narrowed := true }
def OrderAgreesUptoSaid : Prop := orderAgreesUptoRow.holds Try.pinned (OpenSpec.upto orderAgreesSpec)

/-- 'ulpkeep.OrderBetter', WHERE WHAT IT READS IS OF BULK AT MOST 1048576: true; the input reads as it did. -/
def orderBetterUptoRow : OpenClaim := { program := "ytkjgdlhdcnfmlaa", sum := "cb36fefe210beaaee9ffad14c4efb60651624eab98e23b94faded4188fa02334", func := "ulpwright/ulpkeep.OrderBetter", spec := "orderBetter", apart := false, narrowed := true }
def OrderBetterUptoSaid : Prop := orderBetterUptoRow.holds Try.pinned (OpenSpec.upto orderBetterSpec)

/-- 'ulpkeep.OrderSorts', WHERE WHAT IT READS IS OF BULK AT MOST 1048576: true; the input reads as it did. -/
def orderSortsUptoRow : OpenClaim := { program := "ytkjgdlhdcnfmlaa", sum := "cb36fefe210beaaee9ffad14c4efb60651624eab98e23b94faded4188fa02334", func := "ulpwright/ulpkeep.OrderSorts", spec := "orderSorts", unfollowed := true, recurses := true, apart := false, narrowed := true }
def OrderSortsUptoSaid : Prop := orderSortsUptoRow.holds Try.pinned (OpenSpec.upto orderSortsSpec)

end Rows
end Go.Proofs.Ytkjgdlhdcnfmlaa
