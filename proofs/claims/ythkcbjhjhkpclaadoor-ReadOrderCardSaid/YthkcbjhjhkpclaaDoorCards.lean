/-
  DERIVED. GIVEN WITH THE SEED: THE CARDS: each row of YthkcbjhjhkpclaaDoorRows.lean that lists a variable, with what it lists TIED to the program's text (the seventh form; the later family's looks); each row that meets fmt, with fmt's text TOLD by the authors' own Lean function (tested against real Go, not proved from fmt's source: count such statements apart). THE CARD IS WHAT COUNTS. Prove the row's statement (the work); the ties are given (YthkcbjhjhkpclaaDoorTie.lean); close each card by the builder's one call (the guide's Derived/Test/ToyasCard.lean, 'card_holds'). Laid BY PROGRAM, IN A SANDBOX (cutbox-door.mjs). By AI agents, Wed Nov 11 2026. No macro, syntax, notation, axiom, sorry.
-/
import Derived.Test.YthkcbjhjhkpclaaDoorRows
import GoSem.ClaimSeven
namespace Go.Proofs.YthkcbjhjhkpclaaDoor
namespace Rows

/-- THE TIED CARD OF 'ulpkeep.ReadForms'. -/
def readFormsCard : Claim7 := { stood := { row := readFormsRow, standIns := [], harness := (true, "f546c47890fdfbe9623988f38029626df63b41098438d7a0faa099a922fc089b"), looks := true }, kinds := [], alts := [], laidByText := true, laidKinds := [.data, .data, .data, .data, .sentinel, .sentinel, .pinned], laidTests := true, laidLooks := .later }
def ReadFormsCardSaid : Prop := Claim7.holds Tryd.pinned (.plain (OpenSpec.ofChange readFormsSpec)) readFormsCard

/-- THE TIED CARD OF 'ulpkeep.ReadOrder'. -/
def readOrderCard : Claim7 := { stood := { row := readOrderRow, standIns := [], harness := (true, "f546c47890fdfbe9623988f38029626df63b41098438d7a0faa099a922fc089b"), looks := true }, kinds := [], alts := [], laidByText := true, laidKinds := [.data, .data, .data, .data, .sentinel, .sentinel, .pinned], laidTests := true, laidLooks := .later }
def ReadOrderCardSaid : Prop := Claim7.holds Tryd.pinned (.plain (OpenSpec.ofChange readOrderSpec)) readOrderCard

/-- THE TIED CARD OF 'ulpkeep.HexBack'. -/
def hexBackCard : Claim7 := { stood := { row := hexBackRow, standIns := [], harness := (true, "f546c47890fdfbe9623988f38029626df63b41098438d7a0faa099a922fc089b"), looks := true }, kinds := [], alts := [], laidByText := true, laidKinds := [.data, .data, .data, .data, .sentinel, .sentinel, .pinned], laidTests := true, laidLooks := .later }
def HexBackCardSaid : Prop := Claim7.holds Tryd.pinned (.plain (OpenSpec.ofChange hexBackSpec)) hexBackCard

/-- THE SECOND FORM's CARD OF 'ulpkeep.ReadForms'. -/
def readFormsUptoCard : Claim7 := { stood := { row := readFormsUptoRow, standIns := [], harness := (true, "f546c47890fdfbe9623988f38029626df63b41098438d7a0faa099a922fc089b"), looks := true }, kinds := [], alts := [], laidByText := true, laidKinds := [.data, .data, .data, .data, .sentinel, .sentinel, .pinned], laidTests := true, laidLooks := .later }
def ReadFormsUptoCardSaid : Prop := Claim7.holds Tryd.pinned (.plain (OpenSpec.upto readFormsSpec)) readFormsUptoCard

/-- THE SECOND FORM's CARD OF 'ulpkeep.ReadOrder'. -/
def readOrderUptoCard : Claim7 := { stood := { row := readOrderUptoRow, standIns := [], harness := (true, "f546c47890fdfbe9623988f38029626df63b41098438d7a0faa099a922fc089b"), looks := true }, kinds := [], alts := [], laidByText := true, laidKinds := [.data, .data, .data, .data, .sentinel, .sentinel, .pinned], laidTests := true, laidLooks := .later }
def ReadOrderUptoCardSaid : Prop := Claim7.holds Tryd.pinned (.plain (OpenSpec.upto readOrderSpec)) readOrderUptoCard

/-- THE SECOND FORM's CARD OF 'ulpkeep.HexBack'. -/
def hexBackUptoCard : Claim7 := { stood := { row := hexBackUptoRow, standIns := [], harness := (true, "f546c47890fdfbe9623988f38029626df63b41098438d7a0faa099a922fc089b"), looks := true }, kinds := [], alts := [], laidByText := true, laidKinds := [.data, .data, .data, .data, .sentinel, .sentinel, .pinned], laidTests := true, laidLooks := .later }
def HexBackUptoCardSaid : Prop := Claim7.holds Tryd.pinned (.plain (OpenSpec.upto hexBackSpec)) hexBackUptoCard
end Rows
end Go.Proofs.YthkcbjhjhkpclaaDoor
