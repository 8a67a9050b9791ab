/-
  No cell of these rows narrows 'for every input' (looked for: loops, veiled, ifaces, maps, wideKeys, modest, calm, conditions, laid).
  DERIVED. THE GIVEN ROWS OF THIS SEAT. 4 by the template 'for every input the law returns true; each argument reads behind the call as it read before'; 0 by the template 'total and deterministic' (their statements: YtfnchcogdmpojaaTotals.lean).
  GIVEN WITH THE SEED: the statements are not yours to turn. If you find one false, say at which input.
  Laid BY PROGRAM, IN A SANDBOX (cutbox-rows.mjs): the forced cells as the released guide's own fill.sh prints them over the translation f3083376176d2591… (all of the seat's roots in one cut). By AI agents, Wed Nov 11 2026. No macro, syntax, notation, axiom, sorry.
-/
import Derived.Test.YtfnchcogdmpojaaChecked
import GoSem.Claim
import GoSem.ClaimJoined
import GoSem.ClaimMapViews
import Derived.JoinedTies
import Derived.KernelRfl
namespace Go.Proofs.Ytfnchcogdmpojaa
/- THE CELL 'sum', in the pinned program and in every row, IS THE sha256 OF THE DUMP (.gsa) THAT YtfnchcogdmpojaaProg.lean LOADS. Nothing in Lean hashes anything: it is a label: what it is worth is what the hold of that sum in a sandbox is worth. -/
noncomputable def Try.pinned : Pinned := { name := "ytfnchcogdmpojaa", sum := "f3083376176d2591761980f736847d091b1c993c8865beeca1572a70b0021441", checked := Try.checked }
namespace Rows
def none {H : Type} : Left H := { results := [], args := [] }

/-- 'ulpkeep.CoinEven': WHATEVER THE INPUT: true; the input reads as it did. -/
def coinEvenSpec : ChangeSpec := { name := "coinEven", fn := fun _ => fun
  | [d1, d2] => { results := [.lit (.bool true)], args := [d1, d2] }
  | _ => none }
def coinEvenRow : OpenClaim := { program := "ytfnchcogdmpojaa", sum := "f3083376176d2591761980f736847d091b1c993c8865beeca1572a70b0021441", func := "ulpwright/ulpkeep.CoinEven", spec := "coinEven", unfollowed := true, recurses := true, apart := false }
def CoinEvenSaid : Prop := coinEvenRow.holds Try.pinned (OpenSpec.ofChange coinEvenSpec)

/-- ITS FALSE NEIGHBOUR: 'it returns false'. Refute it at one input. -/
def coinEvenWrong : ChangeSpec := { name := "coinEven", fn := fun _ => fun
  | [d1, d2] => { results := [.lit (.bool false)], args := [d1, d2] }
  | _ => none }
def CoinEvenWrongFalsely : Prop := coinEvenRow.holds Try.pinned (OpenSpec.ofChange coinEvenWrong)

/-- 'ulpkeep.CoinTurned': WHATEVER THE INPUT: true; the input reads as it did. -/
def coinTurnedSpec : ChangeSpec := { name := "coinTurned", fn := fun _ => fun
  | [d1, d2, d3] => { results := [.lit (.bool true)], args := [d1, d2, d3] }
  | _ => none }
def coinTurnedRow : OpenClaim := { program := "ytfnchcogdmpojaa", sum := "f3083376176d2591761980f736847d091b1c993c8865beeca1572a70b0021441", func := "ulpwright/ulpkeep.CoinTurned", spec := "coinTurned", unfollowed := true, recurses := true, apart := false }
def CoinTurnedSaid : Prop := coinTurnedRow.holds Try.pinned (OpenSpec.ofChange coinTurnedSpec)

/-- ITS FALSE NEIGHBOUR: 'it returns false'. Refute it at one input. -/
def coinTurnedWrong : ChangeSpec := { name := "coinTurned", fn := fun _ => fun
  | [d1, d2, d3] => { results := [.lit (.bool false)], args := [d1, d2, d3] }
  | _ => none }
def CoinTurnedWrongFalsely : Prop := coinTurnedRow.holds Try.pinned (OpenSpec.ofChange coinTurnedWrong)

/-- 'ulpkeep.CoinPlaces': WHATEVER THE INPUT: true; the input reads as it did. -/
def coinPlacesSpec : ChangeSpec := { name := "coinPlaces", fn := fun _ => fun
  | [d1, d2, d3, d4, d5] => { results := [.lit (.bool true)], args := [d1, d2, d3, d4, d5] }
  | _ => none }
def coinPlacesRow : OpenClaim := { program := "ytfnchcogdmpojaa", sum := "f3083376176d2591761980f736847d091b1c993c8865beeca1572a70b0021441", func := "ulpwright/ulpkeep.CoinPlaces", spec := "coinPlaces", unfollowed := true, recurses := true, apart := false }
def CoinPlacesSaid : Prop := coinPlacesRow.holds Try.pinned (OpenSpec.ofChange coinPlacesSpec)

/-- ITS FALSE NEIGHBOUR: 'it returns false'. Refute it at one input. -/
def coinPlacesWrong : ChangeSpec := { name := "coinPlaces", fn := fun _ => fun
  | [d1, d2, d3, d4, d5] => { results := [.lit (.bool false)], args := [d1, d2, d3, d4, d5] }
  | _ => none }
def CoinPlacesWrongFalsely : Prop := coinPlacesRow.holds Try.pinned (OpenSpec.ofChange coinPlacesWrong)

/-- 'ulpkeep.OrderSorts': WHATEVER THE INPUT: true; the input reads as it did. -/
def orderSortsSpec : ChangeSpec := { name := "orderSorts", fn := fun _ => fun
  | [d] => { results := [.lit (.bool true)], args := [d] }
  | _ => none }
def orderSortsRow : OpenClaim := { program := "ytfnchcogdmpojaa", sum := "f3083376176d2591761980f736847d091b1c993c8865beeca1572a70b0021441", func := "ulpwright/ulpkeep.OrderSorts", spec := "orderSorts", unfollowed := true, recurses := true, apart := false }
def OrderSortsSaid : Prop := orderSortsRow.holds Try.pinned (OpenSpec.ofChange orderSortsSpec)

/-- ITS FALSE NEIGHBOUR: 'it returns false'. Refute it at one input. -/
def orderSortsWrong : ChangeSpec := { name := "orderSorts", fn := fun _ => fun
  | [d] => { results := [.lit (.bool false)], args := [d] }
  | _ => none }
def OrderSortsWrongFalsely : Prop := orderSortsRow.holds Try.pinned (OpenSpec.ofChange orderSortsWrong)

/- THE SECOND FORM. 'bulk': how many values and letters a reading holds, each counted each time it is reached (what is shared counts as often as it is met; a slice's spare places count too). A statement '..UptoSaid' is the law's where the arguments, and the package variables that the reading takes, are together of bulk at most 1048576: NARROWER than '..Said'. Prove '..Said' where nothing that the law and all that it calls make is longer than what came in: it says more and counts as full. Else prove '..UptoSaid'. A law counts once. -/
mutual
def uptoBulk {H : Type} : DataW H → Nat
  | .lit (.string bytes) => bytes.length + 1
  | .lit _ => 1
  | .nil => 1
  | .ptr d => uptoBulk d + 1
  | .slice elems spare => uptoBulkAll elems + uptoBulkAll spare + 1
  | .agg parts => uptoBulkAll parts + 1
  | .iface _ d => uptoBulk d + 1
  | .map entries => uptoBulkEntries entries + 1
  | .held _ => 1
def uptoBulkAll {H : Type} : List (DataW H) → Nat
  | [] => 0
  | d :: r => uptoBulk d + uptoBulkAll r
def uptoBulkEntries {H : Type} : List (Lit × DataW H) → Nat
  | [] => 0
  | x :: r => uptoBulkEntry x + uptoBulkEntries r
def uptoBulkEntry {H : Type} : Lit × DataW H → Nat
  | (.string bytes, d) => bytes.length + uptoBulk d + 1
  | (_, d) => uptoBulk d + 1
 end
def uptoSmall : (H : Type) → List (DataW H) → Bool := fun _ ds => decide (uptoBulkAll ds ≤ 1048576)
def OpenSpec.upto (s : _root_.Go.ChangeSpec) : _root_.Go.OpenSpec := { _root_.Go.OpenSpec.ofChange s with cond := some uptoSmall }

/-- 'ulpkeep.CoinEven', WHERE WHAT IT READS IS OF BULK AT MOST 1048576: true; the input reads as it did. -/
def coinEvenUptoRow : OpenClaim := { program := "ytfnchcogdmpojaa", sum := "f3083376176d2591761980f736847d091b1c993c8865beeca1572a70b0021441", func := "ulpwright/ulpkeep.CoinEven", spec := "coinEven", unfollowed := true, recurses := true, apart := false, narrowed := true }
def CoinEvenUptoSaid : Prop := coinEvenUptoRow.holds Try.pinned (OpenSpec.upto coinEvenSpec)

/-- 'ulpkeep.CoinTurned', WHERE WHAT IT READS IS OF BULK AT MOST 1048576: true; the input reads as it did. -/
def coinTurnedUptoRow : OpenClaim := { program := "ytfnchcogdmpojaa", sum := "f3083376176d2591761980f736847d091b1c993c8865beeca1572a70b0021441", func := "ulpwright/ulpkeep.CoinTurned", spec := "coinTurned", unfollowed := true, recurses := true, apart := false, narrowed := true }
def CoinTurnedUptoSaid : Prop := coinTurnedUptoRow.holds Try.pinned (OpenSpec.upto coinTurnedSpec)

/-- 'ulpkeep.CoinPlaces', WHERE WHAT IT READS IS OF BULK AT MOST 1048576: true; the input reads as it did. -/
def coinPlacesUptoRow : OpenClaim := { program := "ytfnchcogdmpojaa", sum := "f3083376176d2591761980f736847d091b1c993c8865beeca1572a70b0021441", func := "ulpwright/ulpkeep.CoinPlaces", spec := "coinPlaces", unfollowed := true, recurses := true, apart := false, narrowed := true }
def CoinPlacesUptoSaid : Prop := coinPlacesUptoRow.holds Try.pinned (OpenSpec.upto coinPlacesSpec)

/-- 'ulpkeep.OrderSorts', WHERE WHAT IT READS IS OF BULK AT MOST 1048576: true; the input reads as it did. -/
def orderSortsUptoRow : OpenClaim := { program := "ytfnchcogdmpojaa", sum := "f3083376176d2591761980f736847d091b1c993c8865beeca1572a70b0021441", func := "ulpwright/ulpkeep.OrderSorts", spec := "orderSorts", unfollowed := true, recurses := true, apart := false, narrowed := true }
def OrderSortsUptoSaid : Prop := orderSortsUptoRow.holds Try.pinned (OpenSpec.upto orderSortsSpec)

end Rows
end Go.Proofs.Ytfnchcogdmpojaa
