/-
  DERIVED. GIVEN WITH THE SEED: THE CARDS: each row of YtmpdbmaokbhcjaaGreatDoorRows.lean that lists a variable, with what it lists TIED to the program's text (the seventh form; the later family's looks); each row that meets fmt, with fmt's text TOLD by the authors' own Lean function (tested against real Go, not proved from fmt's source: count such statements apart). THE CARD IS WHAT COUNTS. Prove the row's statement (the work); the ties are given (YtmpdbmaokbhcjaaGreatDoorTie.lean); close each card by the builder's one call (the guide's Derived/Test/ToyasCard.lean, 'card_holds'). Laid BY PROGRAM, IN A SANDBOX (cutbox-door.mjs). By AI agents, Wed Nov 11 2026. No macro, syntax, notation, axiom, sorry.
-/
import Derived.Test.YtmpdbmaokbhcjaaGreatDoorRows
import GoSem.ClaimSeven
namespace Go.Proofs.YtmpdbmaokbhcjaaGreatDoor
namespace Rows

/-- THE TIED CARD OF 'ulptop.TopSpan'. -/
def topSpanCard : Claim7 := { stood := { row := topSpanRow, standIns := [], harness := (true, "8a4c1b2e70ee14bba0f98f984aba3bda73a73b80d12dee9759c455bf610e1994"), looks := true }, kinds := [], alts := [], laidByText := true, laidKinds := [.data, .data, .data, .data, .sentinel, .sentinel, .pinned], laidTests := true, laidLooks := .later }
def TopSpanCardSaid : Prop := Claim7.holds Tryz.pinned (.plain (OpenSpec.ofChange topSpanSpec)) topSpanCard

/-- THE TIED CARD OF 'ulpkeep.ReadSeventeen'. -/
def readSeventeenCard : Claim7 := { stood := { row := readSeventeenRow, standIns := [], harness := (true, "8a4c1b2e70ee14bba0f98f984aba3bda73a73b80d12dee9759c455bf610e1994"), looks := true }, kinds := [], alts := [], laidByText := true, laidKinds := [.data, .data, .data, .data, .sentinel, .sentinel, .pinned], laidTests := true, laidLooks := .later }
def ReadSeventeenCardSaid : Prop := Claim7.holds Tryz.pinned (.plain (OpenSpec.ofChange readSeventeenSpec)) readSeventeenCard

/-- THE TIED CARD OF 'ulpkeep.ShortBack'. -/
def shortBackCard : Claim7 := { stood := { row := shortBackRow, standIns := [], harness := (true, "8a4c1b2e70ee14bba0f98f984aba3bda73a73b80d12dee9759c455bf610e1994"), looks := true }, kinds := [], alts := [], laidByText := true, laidKinds := [.data, .data, .data, .data, .sentinel, .sentinel, .pinned], laidTests := true, laidLooks := .later }
def ShortBackCardSaid : Prop := Claim7.holds Tryz.pinned (.plain (OpenSpec.ofChange shortBackSpec)) shortBackCard

/-- THE TIED CARD OF 'ulpkeep.ShortLeast'. -/
def shortLeastCard : Claim7 := { stood := { row := shortLeastRow, standIns := [], harness := (true, "8a4c1b2e70ee14bba0f98f984aba3bda73a73b80d12dee9759c455bf610e1994"), looks := true }, kinds := [], alts := [], laidByText := true, laidKinds := [.data, .data, .data, .data, .sentinel, .sentinel, .pinned], laidTests := true, laidLooks := .later }
def ShortLeastCardSaid : Prop := Claim7.holds Tryz.pinned (.plain (OpenSpec.ofChange shortLeastSpec)) shortLeastCard

/-- THE TIED CARD OF 'ulpkeep.WantedBack'. -/
def wantedBackCard : Claim7 := { stood := { row := wantedBackRow, standIns := [], harness := (true, "8a4c1b2e70ee14bba0f98f984aba3bda73a73b80d12dee9759c455bf610e1994"), looks := true }, kinds := [], alts := [], laidByText := true, laidKinds := [.data, .data, .data, .data, .sentinel, .sentinel, .pinned], laidTests := true, laidLooks := .later }
def WantedBackCardSaid : Prop := Claim7.holds Tryz.pinned (.plain (OpenSpec.ofChange wantedBackSpec)) wantedBackCard

/-- THE TIED CARD OF 'ulpkeep.DeskBlanks'. -/
def deskBlanksCard : Claim7 := { stood := { row := deskBlanksRow, standIns := [], harness := (true, "8a4c1b2e70ee14bba0f98f984aba3bda73a73b80d12dee9759c455bf610e1994"), looks := true }, kinds := [], alts := [], laidByText := true, laidKinds := [.data, .data, .data, .data, .sentinel, .sentinel, .pinned], laidTests := true, laidLooks := .later }
def DeskBlanksCardSaid : Prop := Claim7.holds Tryz.pinned (.plain (OpenSpec.ofChange deskBlanksSpec)) deskBlanksCard

/-- THE TIED CARD OF 'ulpkeep.DeskCounts'. -/
def deskCountsCard : Claim7 := { stood := { row := deskCountsRow, standIns := [], harness := (true, "8a4c1b2e70ee14bba0f98f984aba3bda73a73b80d12dee9759c455bf610e1994"), looks := true }, kinds := [], alts := [], laidByText := true, laidKinds := [.data, .data, .data, .data, .sentinel, .sentinel, .pinned], laidTests := true, laidLooks := .later }
def DeskCountsCardSaid : Prop := Claim7.holds Tryz.pinned (.plain (OpenSpec.ofChange deskCountsSpec)) deskCountsCard

/-- THE TIED CARD OF 'ulpkeep.DeskApart'. -/
def deskApartCard : Claim7 := { stood := { row := deskApartRow, standIns := [], harness := (true, "8a4c1b2e70ee14bba0f98f984aba3bda73a73b80d12dee9759c455bf610e1994"), looks := true }, kinds := [], alts := [], laidByText := true, laidKinds := [.data, .data, .data, .data, .sentinel, .sentinel, .pinned], laidTests := true, laidLooks := .later }
def DeskApartCardSaid : Prop := Claim7.holds Tryz.pinned (.plain (OpenSpec.ofChange deskApartSpec)) deskApartCard

/-- THE SECOND FORM's CARD OF 'ulptop.TopSpan'. -/
def topSpanUptoCard : Claim7 := { stood := { row := topSpanUptoRow, standIns := [], harness := (true, "8a4c1b2e70ee14bba0f98f984aba3bda73a73b80d12dee9759c455bf610e1994"), looks := true }, kinds := [], alts := [], laidByText := true, laidKinds := [.data, .data, .data, .data, .sentinel, .sentinel, .pinned], laidTests := true, laidLooks := .later }
def TopSpanUptoCardSaid : Prop := Claim7.holds Tryz.pinned (.plain (OpenSpec.upto topSpanSpec)) topSpanUptoCard

/-- THE SECOND FORM's CARD OF 'ulpkeep.ReadSeventeen'. -/
def readSeventeenUptoCard : Claim7 := { stood := { row := readSeventeenUptoRow, standIns := [], harness := (true, "8a4c1b2e70ee14bba0f98f984aba3bda73a73b80d12dee9759c455bf610e1994"), looks := true }, kinds := [], alts := [], laidByText := true, laidKinds := [.data, .data, .data, .data, .sentinel, .sentinel, .pinned], laidTests := true, laidLooks := .later }
def ReadSeventeenUptoCardSaid : Prop := Claim7.holds Tryz.pinned (.plain (OpenSpec.upto readSeventeenSpec)) readSeventeenUptoCard

/-- THE SECOND FORM's CARD OF 'ulpkeep.ShortBack'. -/
def shortBackUptoCard : Claim7 := { stood := { row := shortBackUptoRow, standIns := [], harness := (true, "8a4c1b2e70ee14bba0f98f984aba3bda73a73b80d12dee9759c455bf610e1994"), looks := true }, kinds := [], alts := [], laidByText := true, laidKinds := [.data, .data, .data, .data, .sentinel, .sentinel, .pinned], laidTests := true, laidLooks := .later }
def ShortBackUptoCardSaid : Prop := Claim7.holds Tryz.pinned (.plain (OpenSpec.upto shortBackSpec)) shortBackUptoCard

/-- THE SECOND FORM's CARD OF 'ulpkeep.ShortLeast'. -/
def shortLeastUptoCard : Claim7 := { stood := { row := shortLeastUptoRow, standIns := [], harness := (true, "8a4c1b2e70ee14bba0f98f984aba3bda73a73b80d12dee9759c455bf610e1994"), looks := true }, kinds := [], alts := [], laidByText := true, laidKinds := [.data, .data, .data, .data, .sentinel, .sentinel, .pinned], laidTests := true, laidLooks := .later }
def ShortLeastUptoCardSaid : Prop := Claim7.holds Tryz.pinned (.plain (OpenSpec.upto shortLeastSpec)) shortLeastUptoCard

/-- THE SECOND FORM's CARD OF 'ulpkeep.WantedBack'. -/
def wantedBackUptoCard : Claim7 := { stood := { row := wantedBackUptoRow, standIns := [], harness := (true, "8a4c1b2e70ee14bba0f98f984aba3bda73a73b80d12dee9759c455bf610e1994"), looks := true }, kinds := [], alts := [], laidByText := true, laidKinds := [.data, .data, .data, .data, .sentinel, .sentinel, .pinned], laidTests := true, laidLooks := .later }
def WantedBackUptoCardSaid : Prop := Claim7.holds Tryz.pinned (.plain (OpenSpec.upto wantedBackSpec)) wantedBackUptoCard

/-- THE SECOND FORM's CARD OF 'ulpkeep.DeskBlanks'. -/
def deskBlanksUptoCard : Claim7 := { stood := { row := deskBlanksUptoRow, standIns := [], harness := (true, "8a4c1b2e70ee14bba0f98f984aba3bda73a73b80d12dee9759c455bf610e1994"), looks := true }, kinds := [], alts := [], laidByText := true, laidKinds := [.data, .data, .data, .data, .sentinel, .sentinel, .pinned], laidTests := true, laidLooks := .later }
def DeskBlanksUptoCardSaid : Prop := Claim7.holds Tryz.pinned (.plain (OpenSpec.upto deskBlanksSpec)) deskBlanksUptoCard

/-- THE SECOND FORM's CARD OF 'ulpkeep.DeskCounts'. -/
def deskCountsUptoCard : Claim7 := { stood := { row := deskCountsUptoRow, standIns := [], harness := (true, "8a4c1b2e70ee14bba0f98f984aba3bda73a73b80d12dee9759c455bf610e1994"), looks := true }, kinds := [], alts := [], laidByText := true, laidKinds := [.data, .data, .data, .data, .sentinel, .sentinel, .pinned], laidTests := true, laidLooks := .later }
def DeskCountsUptoCardSaid : Prop := Claim7.holds Tryz.pinned (.plain (OpenSpec.upto deskCountsSpec)) deskCountsUptoCard

/-- THE SECOND FORM's CARD OF 'ulpkeep.DeskApart'. -/
def deskApartUptoCard : Claim7 := { stood := { row := deskApartUptoRow, standIns := [], harness := (true, "8a4c1b2e70ee14bba0f98f984aba3bda73a73b80d12dee9759c455bf610e1994"), looks := true }, kinds := [], alts := [], laidByText := true, laidKinds := [.data, .data, .data, .data, .sentinel, .sentinel, .pinned], laidTests := true, laidLooks := .later }
def DeskApartUptoCardSaid : Prop := Claim7.holds Tryz.pinned (.plain (OpenSpec.upto deskApartSpec)) deskApartUptoCard
end Rows
end Go.Proofs.YtmpdbmaokbhcjaaGreatDoor
