/-
  No cell of these rows narrows 'for every input' (looked for: loops, veiled, ifaces, maps, wideKeys, modest, calm, conditions, laid).
  DERIVED. THE GIVEN ROWS OF THIS SEAT. 3 by the template 'for every input the law returns true; each argument reads behind the call as it read before'; 0 by the template 'total and deterministic' (their statements: YtdknfdncgmeimaaTotals.lean).
  GIVEN WITH THE SEED: the statements are not yours to turn. If you find one false, say at which input.
  Laid BY PROGRAM, IN A SANDBOX (cutbox-rows.mjs): the forced cells as the released guide's own fill.sh prints them over the translation 89a8f00a240ed129… (all of the seat's roots in one cut). By AI agents, Wed Nov 11 2026. No macro, syntax, notation, axiom, sorry.
-/
import Derived.Test.YtdknfdncgmeimaaChecked
import GoSem.Claim
import GoSem.ClaimJoined
import GoSem.ClaimMapViews
import Derived.JoinedTies
import Derived.KernelRfl
namespace Go.Proofs.Ytdknfdncgmeimaa
/- THE CELL 'sum', in the pinned program and in every row, IS THE sha256 OF THE DUMP (.gsa) THAT YtdknfdncgmeimaaProg.lean LOADS. Nothing in Lean hashes anything: it is a label: what it is worth is what the hold of that sum in a sandbox is worth. -/
noncomputable def Try.pinned : Pinned := { name := "ytdknfdncgmeimaa", sum := "89a8f00a240ed12917db313287bac7d64f660d96b3752a94acf15268b9ff3404", checked := Try.checked }
namespace Rows
def none {H : Type} : Left H := { results := [], args := [] }

/-- 'ulpkeep.RoundTurned': WHATEVER THE INPUT: true; the input reads as it did. -/
def roundTurnedSpec : ChangeSpec := { name := "roundTurned", fn := fun _ => fun
  | [d1, d2] => { results := [.lit (.bool true)], args := [d1, d2] }
  | _ => none }
def roundTurnedRow : OpenClaim := { program := "ytdknfdncgmeimaa", sum := "89a8f00a240ed12917db313287bac7d64f660d96b3752a94acf15268b9ff3404", func := "ulpwright/ulpkeep.RoundTurned", spec := "roundTurned", apart := false }
def RoundTurnedSaid : Prop := roundTurnedRow.holds Try.pinned (OpenSpec.ofChange roundTurnedSpec)

/-- ITS FALSE NEIGHBOUR: 'it returns false'. Refute it at one input. -/
def roundTurnedWrong : ChangeSpec := { name := "roundTurned", fn := fun _ => fun
  | [d1, d2] => { results := [.lit (.bool false)], args := [d1, d2] }
  | _ => none }
def RoundTurnedWrongFalsely : Prop := roundTurnedRow.holds Try.pinned (OpenSpec.ofChange roundTurnedWrong)

/-- 'ulpkeep.RoundSides': WHATEVER THE INPUT: true; the input reads as it did. -/
def roundSidesSpec : ChangeSpec := { name := "roundSides", fn := fun _ => fun
  | [d1, d2] => { results := [.lit (.bool true)], args := [d1, d2] }
  | _ => none }
def roundSidesRow : OpenClaim := { program := "ytdknfdncgmeimaa", sum := "89a8f00a240ed12917db313287bac7d64f660d96b3752a94acf15268b9ff3404", func := "ulpwright/ulpkeep.RoundSides", spec := "roundSides", apart := false }
def RoundSidesSaid : Prop := roundSidesRow.holds Try.pinned (OpenSpec.ofChange roundSidesSpec)

/-- ITS FALSE NEIGHBOUR: 'it returns false'. Refute it at one input. -/
def roundSidesWrong : ChangeSpec := { name := "roundSides", fn := fun _ => fun
  | [d1, d2] => { results := [.lit (.bool false)], args := [d1, d2] }
  | _ => none }
def RoundSidesWrongFalsely : Prop := roundSidesRow.holds Try.pinned (OpenSpec.ofChange roundSidesWrong)

/-- 'ulpkeep.RoundParts': WHATEVER THE INPUT: true; the input reads as it did. -/
def roundPartsSpec : ChangeSpec := { name := "roundParts", fn := fun _ => fun
  | [d1, d2] => { results := [.lit (.bool true)], args := [d1, d2] }
  | _ => none }
def roundPartsRow : OpenClaim := { program := "ytdknfdncgmeimaa", sum := "89a8f00a240ed12917db313287bac7d64f660d96b3752a94acf15268b9ff3404", func := "ulpwright/ulpkeep.RoundParts", spec := "roundParts", apart := false }
def RoundPartsSaid : Prop := roundPartsRow.holds Try.pinned (OpenSpec.ofChange roundPartsSpec)

/-- ITS FALSE NEIGHBOUR: 'it returns false'. Refute it at one input. -/
def roundPartsWrong : ChangeSpec := { name := "roundParts", fn := fun _ => fun
  | [d1, d2] => { results := [.lit (.bool false)], args := [d1, d2] }
  | _ => none }
def RoundPartsWrongFalsely : Prop := roundPartsRow.holds Try.pinned (OpenSpec.ofChange roundPartsWrong)

/- THE SECOND FORM. 'bulk': how many values and letters a reading holds, each counted each time it is reached (what is shared counts as often as it is met; a slice's spare places count too). A statement '..UptoSaid' is the law's where the arguments, and the package variables that the reading takes, are together of bulk at most 1048576: NARROWER than '..Said'. Prove '..Said' where nothing that the law and all that it calls make is longer than what came in: it says more and counts as full. Else prove '..UptoSaid'. A law counts once. -/
mutual
def uptoBulk {H : Type} : DataW H → Nat
  | .lit (.string bytes) => bytes.length + 1
  | .lit _ => 1
  | .nil => 1
  | .ptr d => uptoBulk d + 1
  | .slice elems spare => uptoBulkAll elems + uptoBulkAll spare + 1
  | .agg parts => uptoBulkAll parts + 1
  | .iface _ d => uptoBulk d + 1
  | .map entries => uptoBulkEntries entries + 1
  | .held _ => 1
def uptoBulkAll {H : Type} : List (DataW H) → Nat
  | [] => 0
  | d :: r => uptoBulk d + uptoBulkAll r
def uptoBulkEntries {H : Type} : List (Lit × DataW H) → Nat
  | [] => 0
  | x :: r => uptoBulkEntry x + uptoBulkEntries r
def uptoBulkEntry {H : Type} : Lit × DataW H → Nat
  | (.string bytes, d) => bytes.length + uptoBulk d + 1
  | (_, d) => uptoBulk d + 1
 end
def uptoSmall : (H : Type) → List (DataW H) → Bool := fun _ ds => decide (uptoBulkAll ds ≤ 1048576)
def OpenSpec.upto (s : _root_.Go.ChangeSpec) : _root_.Go.OpenSpec := { _root_.Go.OpenSpec.ofChange s with cond := some uptoSmall }

/-- 'ulpkeep.RoundTurned', WHERE WHAT IT READS IS OF BULK AT MOST 1048576: true; the input reads as it did. -/
def roundTurnedUptoRow : OpenClaim := { program := "ytdknfdncgmeimaa", sum := "89a8f00a240ed12917db313287bac7d64f660d96b3752a94acf15268b9ff3404", func := "ulpwright/ulpkeep.RoundTurned", spec := "roundTurned", apart := false, narrowed := true }
def RoundTurnedUptoSaid : Prop := roundTurnedUptoRow.holds Try.pinned (OpenSpec.upto roundTurnedSpec)

/-- 'ulpkeep.RoundSides', WHERE WHAT IT READS IS OF BULK AT MOST 1048576: true; the input reads as it did. -/
def roundSidesUptoRow : OpenClaim := { program := "ytdknfdncgmeimaa", sum := "89a8f00a240ed12917db313287bac7d64f660d96b3752a94acf15268b9ff3404", func := "ulpwright/ulpkeep.RoundSides", spec := "roundSides", apart := false, narrowed := true }
def RoundSidesUptoSaid : Prop := roundSidesUptoRow.holds Try.pinned (OpenSpec.upto roundSidesSpec)

/-- 'ulpkeep.RoundParts', WHERE WHAT IT READS IS OF BULK AT MOST 1048576: true; the input reads as it did. -/
def roundPartsUptoRow : OpenClaim := { program := "ytdknfdncgmeimaa", sum := "89a8f00a240ed12917db313287bac7d64f660d96b3752a94acf15268b9ff3404", func := "ulpwright/ulpkeep.RoundParts", spec := "roundParts", apart := false, narrowed := true }
def RoundPartsUptoSaid : Prop := roundPartsUptoRow.holds Try.pinned (OpenSpec.upto roundPartsSpec)

end Rows
end Go.Proofs.Ytdknfdncgmeimaa
