/-
  DERIVED. GIVEN WITH THE SEED: THE CARDS: each row of YthlocmhfjandlaaDoorRows.lean that lists a variable, with what it lists TIED to the program's text (the seventh form; the later family's looks); each row that meets fmt, with fmt's text TOLD by the authors' own Lean function (tested against real Go, not proved from fmt's source: count such statements apart). THE CARD IS WHAT COUNTS. Prove the row's statement (the work); the ties are given (YthlocmhfjandlaaDoorTie.lean); close each card by the builder's one call (the guide's Derived/Test/ToyasCard.lean, 'card_holds'). Laid BY PROGRAM, IN A SANDBOX (cutbox-door.mjs). By AI agents, Wed Nov 11 2026. No macro, syntax, notation, axiom, sorry.
-/
import Derived.Test.YthlocmhfjandlaaDoorRows
import GoSem.ClaimSeven
namespace Go.Proofs.YthlocmhfjandlaaDoor
namespace Rows

/-- THE TIED CARD OF 'ulpkeep.NatRing'. -/
def natRingCard : Claim7 := { stood := { row := natRingRow, standIns := [], harness := (true, "4ef776bd2fce2d51eb1e86d2c7648c91fd563a1de17eea0e890397d48986482e"), looks := true }, kinds := [], alts := [], laidByText := true, laidKinds := [.data, .data, .data], laidTests := true, laidLooks := .later }
def NatRingCardSaid : Prop := Claim7.holds Tryd.pinned (.plain (OpenSpec.ofChange natRingSpec)) natRingCard

/-- THE TIED CARD OF 'ulpkeep.NatShifts'. -/
def natShiftsCard : Claim7 := { stood := { row := natShiftsRow, standIns := [], harness := (true, "4ef776bd2fce2d51eb1e86d2c7648c91fd563a1de17eea0e890397d48986482e"), looks := true }, kinds := [], alts := [], laidByText := true, laidKinds := [.data, .data, .data], laidTests := true, laidLooks := .later }
def NatShiftsCardSaid : Prop := Claim7.holds Tryd.pinned (.plain (OpenSpec.ofChange natShiftsSpec)) natShiftsCard

/-- THE TIED CARD OF 'ulpkeep.NatRoots'. -/
def natRootsCard : Claim7 := { stood := { row := natRootsRow, standIns := [], harness := (true, "4ef776bd2fce2d51eb1e86d2c7648c91fd563a1de17eea0e890397d48986482e"), looks := true }, kinds := [], alts := [], laidByText := true, laidKinds := [.data, .data, .data], laidTests := true, laidLooks := .later }
def NatRootsCardSaid : Prop := Claim7.holds Tryd.pinned (.plain (OpenSpec.ofChange natRootsSpec)) natRootsCard

/-- THE TIED CARD OF 'ulpkeep.NatDivides'. -/
def natDividesCard : Claim7 := { stood := { row := natDividesRow, standIns := [], harness := (true, "4ef776bd2fce2d51eb1e86d2c7648c91fd563a1de17eea0e890397d48986482e"), looks := true }, kinds := [], alts := [], laidByText := true, laidKinds := [.data, .data, .data], laidTests := true, laidLooks := .later }
def NatDividesCardSaid : Prop := Claim7.holds Tryd.pinned (.plain (OpenSpec.ofChange natDividesSpec)) natDividesCard

/-- THE TIED CARD OF 'ulpkeep.DecimalOrder'. -/
def decimalOrderCard : Claim7 := { stood := { row := decimalOrderRow, standIns := [], harness := (true, "4ef776bd2fce2d51eb1e86d2c7648c91fd563a1de17eea0e890397d48986482e"), looks := true }, kinds := [], alts := [], laidByText := true, laidKinds := [.data, .data, .data], laidTests := true, laidLooks := .later }
def DecimalOrderCardSaid : Prop := Claim7.holds Tryd.pinned (.plain (OpenSpec.ofChange decimalOrderSpec)) decimalOrderCard

/-- THE TIED CARD OF 'ulpkeep.DecimalTurned'. -/
def decimalTurnedCard : Claim7 := { stood := { row := decimalTurnedRow, standIns := [], harness := (true, "4ef776bd2fce2d51eb1e86d2c7648c91fd563a1de17eea0e890397d48986482e"), looks := true }, kinds := [], alts := [], laidByText := true, laidKinds := [.data, .data, .data], laidTests := true, laidLooks := .later }
def DecimalTurnedCardSaid : Prop := Claim7.holds Tryd.pinned (.plain (OpenSpec.ofChange decimalTurnedSpec)) decimalTurnedCard

/-- THE TIED CARD OF 'ulpkeep.DecimalEnds'. -/
def decimalEndsCard : Claim7 := { stood := { row := decimalEndsRow, standIns := [], harness := (true, "4ef776bd2fce2d51eb1e86d2c7648c91fd563a1de17eea0e890397d48986482e"), looks := true }, kinds := [], alts := [], laidByText := true, laidKinds := [.data, .data, .data], laidTests := true, laidLooks := .later }
def DecimalEndsCardSaid : Prop := Claim7.holds Tryd.pinned (.plain (OpenSpec.ofChange decimalEndsSpec)) decimalEndsCard

/-- THE TIED CARD OF 'ulpkeep.ReadForms'. -/
def readFormsCard : Claim7 := { stood := { row := readFormsRow, standIns := [], harness := (true, "4ef776bd2fce2d51eb1e86d2c7648c91fd563a1de17eea0e890397d48986482e"), looks := true }, kinds := [], alts := [], laidByText := true, laidKinds := [.data, .data, .data, .data, .sentinel, .sentinel, .pinned], laidTests := true, laidLooks := .later }
def ReadFormsCardSaid : Prop := Claim7.holds Tryd.pinned (.plain (OpenSpec.ofChange readFormsSpec)) readFormsCard

/-- THE TIED CARD OF 'ulpkeep.ReadOrder'. -/
def readOrderCard : Claim7 := { stood := { row := readOrderRow, standIns := [], harness := (true, "4ef776bd2fce2d51eb1e86d2c7648c91fd563a1de17eea0e890397d48986482e"), looks := true }, kinds := [], alts := [], laidByText := true, laidKinds := [.data, .data, .data, .data, .sentinel, .sentinel, .pinned], laidTests := true, laidLooks := .later }
def ReadOrderCardSaid : Prop := Claim7.holds Tryd.pinned (.plain (OpenSpec.ofChange readOrderSpec)) readOrderCard

/-- THE TIED CARD OF 'ulpkeep.HexBack'. -/
def hexBackCard : Claim7 := { stood := { row := hexBackRow, standIns := [], harness := (true, "4ef776bd2fce2d51eb1e86d2c7648c91fd563a1de17eea0e890397d48986482e"), looks := true }, kinds := [], alts := [], laidByText := true, laidKinds := [.data, .data, .data, .data, .sentinel, .sentinel, .pinned], laidTests := true, laidLooks := .later }
def HexBackCardSaid : Prop := Claim7.holds Tryd.pinned (.plain (OpenSpec.ofChange hexBackSpec)) hexBackCard

/-- THE SECOND FORM's CARD OF 'ulpkeep.NatRing'. -/
def natRingUptoCard : Claim7 := { stood := { row := natRingUptoRow, standIns := [], harness := (true, "4ef776bd2fce2d51eb1e86d2c7648c91fd563a1de17eea0e890397d48986482e"), looks := true }, kinds := [], alts := [], laidByText := true, laidKinds := [.data, .data, .data], laidTests := true, laidLooks := .later }
def NatRingUptoCardSaid : Prop := Claim7.holds Tryd.pinned (.plain (OpenSpec.upto natRingSpec)) natRingUptoCard

/-- THE SECOND FORM's CARD OF 'ulpkeep.NatShifts'. -/
def natShiftsUptoCard : Claim7 := { stood := { row := natShiftsUptoRow, standIns := [], harness := (true, "4ef776bd2fce2d51eb1e86d2c7648c91fd563a1de17eea0e890397d48986482e"), looks := true }, kinds := [], alts := [], laidByText := true, laidKinds := [.data, .data, .data], laidTests := true, laidLooks := .later }
def NatShiftsUptoCardSaid : Prop := Claim7.holds Tryd.pinned (.plain (OpenSpec.upto natShiftsSpec)) natShiftsUptoCard

/-- THE SECOND FORM's CARD OF 'ulpkeep.NatRoots'. -/
def natRootsUptoCard : Claim7 := { stood := { row := natRootsUptoRow, standIns := [], harness := (true, "4ef776bd2fce2d51eb1e86d2c7648c91fd563a1de17eea0e890397d48986482e"), looks := true }, kinds := [], alts := [], laidByText := true, laidKinds := [.data, .data, .data], laidTests := true, laidLooks := .later }
def NatRootsUptoCardSaid : Prop := Claim7.holds Tryd.pinned (.plain (OpenSpec.upto natRootsSpec)) natRootsUptoCard

/-- THE SECOND FORM's CARD OF 'ulpkeep.NatDivides'. -/
def natDividesUptoCard : Claim7 := { stood := { row := natDividesUptoRow, standIns := [], harness := (true, "4ef776bd2fce2d51eb1e86d2c7648c91fd563a1de17eea0e890397d48986482e"), looks := true }, kinds := [], alts := [], laidByText := true, laidKinds := [.data, .data, .data], laidTests := true, laidLooks := .later }
def NatDividesUptoCardSaid : Prop := Claim7.holds Tryd.pinned (.plain (OpenSpec.upto natDividesSpec)) natDividesUptoCard

/-- THE SECOND FORM's CARD OF 'ulpkeep.DecimalOrder'. -/
def decimalOrderUptoCard : Claim7 := { stood := { row := decimalOrderUptoRow, standIns := [], harness := (true, "4ef776bd2fce2d51eb1e86d2c7648c91fd563a1de17eea0e890397d48986482e"), looks := true }, kinds := [], alts := [], laidByText := true, laidKinds := [.data, .data, .data], laidTests := true, laidLooks := .later }
def DecimalOrderUptoCardSaid : Prop := Claim7.holds Tryd.pinned (.plain (OpenSpec.upto decimalOrderSpec)) decimalOrderUptoCard

/-- THE SECOND FORM's CARD OF 'ulpkeep.DecimalTurned'. -/
def decimalTurnedUptoCard : Claim7 := { stood := { row := decimalTurnedUptoRow, standIns := [], harness := (true, "4ef776bd2fce2d51eb1e86d2c7648c91fd563a1de17eea0e890397d48986482e"), looks := true }, kinds := [], alts := [], laidByText := true, laidKinds := [.data, .data, .data], laidTests := true, laidLooks := .later }
def DecimalTurnedUptoCardSaid : Prop := Claim7.holds Tryd.pinned (.plain (OpenSpec.upto decimalTurnedSpec)) decimalTurnedUptoCard

/-- THE SECOND FORM's CARD OF 'ulpkeep.DecimalEnds'. -/
def decimalEndsUptoCard : Claim7 := { stood := { row := decimalEndsUptoRow, standIns := [], harness := (true, "4ef776bd2fce2d51eb1e86d2c7648c91fd563a1de17eea0e890397d48986482e"), looks := true }, kinds := [], alts := [], laidByText := true, laidKinds := [.data, .data, .data], laidTests := true, laidLooks := .later }
def DecimalEndsUptoCardSaid : Prop := Claim7.holds Tryd.pinned (.plain (OpenSpec.upto decimalEndsSpec)) decimalEndsUptoCard

/-- THE SECOND FORM's CARD OF 'ulpkeep.ReadForms'. -/
def readFormsUptoCard : Claim7 := { stood := { row := readFormsUptoRow, standIns := [], harness := (true, "4ef776bd2fce2d51eb1e86d2c7648c91fd563a1de17eea0e890397d48986482e"), looks := true }, kinds := [], alts := [], laidByText := true, laidKinds := [.data, .data, .data, .data, .sentinel, .sentinel, .pinned], laidTests := true, laidLooks := .later }
def ReadFormsUptoCardSaid : Prop := Claim7.holds Tryd.pinned (.plain (OpenSpec.upto readFormsSpec)) readFormsUptoCard

/-- THE SECOND FORM's CARD OF 'ulpkeep.ReadOrder'. -/
def readOrderUptoCard : Claim7 := { stood := { row := readOrderUptoRow, standIns := [], harness := (true, "4ef776bd2fce2d51eb1e86d2c7648c91fd563a1de17eea0e890397d48986482e"), looks := true }, kinds := [], alts := [], laidByText := true, laidKinds := [.data, .data, .data, .data, .sentinel, .sentinel, .pinned], laidTests := true, laidLooks := .later }
def ReadOrderUptoCardSaid : Prop := Claim7.holds Tryd.pinned (.plain (OpenSpec.upto readOrderSpec)) readOrderUptoCard

/-- THE SECOND FORM's CARD OF 'ulpkeep.HexBack'. -/
def hexBackUptoCard : Claim7 := { stood := { row := hexBackUptoRow, standIns := [], harness := (true, "4ef776bd2fce2d51eb1e86d2c7648c91fd563a1de17eea0e890397d48986482e"), looks := true }, kinds := [], alts := [], laidByText := true, laidKinds := [.data, .data, .data, .data, .sentinel, .sentinel, .pinned], laidTests := true, laidLooks := .later }
def HexBackUptoCardSaid : Prop := Claim7.holds Tryd.pinned (.plain (OpenSpec.upto hexBackSpec)) hexBackUptoCard
end Rows
end Go.Proofs.YthlocmhfjandlaaDoor
