/-
  DERIVED. GIVEN WITH THE SEED: THE CARDS: each row of YtofdjfdnckmmmaaGreatDoorRows.lean that lists a variable, with what it lists TIED to the program's text (the seventh form; the later family's looks); each row that meets fmt, with fmt's text TOLD by the authors' own Lean function (tested against real Go, not proved from fmt's source: count such statements apart). THE CARD IS WHAT COUNTS. Prove the row's statement (the work); the ties are given (YtofdjfdnckmmmaaGreatDoorTie.lean); close each card by the builder's one call (the guide's Derived/Test/ToyasCard.lean, 'card_holds'). Laid BY PROGRAM, IN A SANDBOX (cutbox-door.mjs). By AI agents, Wed Nov 11 2026. No macro, syntax, notation, axiom, sorry.
-/
import Derived.Test.YtofdjfdnckmmmaaGreatDoorRows
import GoSem.ClaimSeven
namespace Go.Proofs.YtofdjfdnckmmmaaGreatDoor
namespace Rows

/-- THE TIED CARD OF 'ulpkeep.WantedBack'. -/
def wantedBackCard : Claim7 := { stood := { row := wantedBackRow, standIns := [], harness := (true, "c041fa731c443bbf855bade787d03f902e3862d4658738597edb1d452d3bb193"), looks := true }, kinds := [], alts := [], laidByText := true, laidKinds := [.data, .data, .data, .data, .sentinel, .sentinel, .pinned], laidTests := true, laidLooks := .later }
def WantedBackCardSaid : Prop := Claim7.holds Tryz.pinned (.plain (OpenSpec.ofChange wantedBackSpec)) wantedBackCard

/-- THE TIED CARD OF 'ulpkeep.DeskBlanks'. -/
def deskBlanksCard : Claim7 := { stood := { row := deskBlanksRow, standIns := [], harness := (true, "c041fa731c443bbf855bade787d03f902e3862d4658738597edb1d452d3bb193"), looks := true }, kinds := [], alts := [], laidByText := true, laidKinds := [.data, .data, .data, .data, .sentinel, .sentinel, .pinned], laidTests := true, laidLooks := .later }
def DeskBlanksCardSaid : Prop := Claim7.holds Tryz.pinned (.plain (OpenSpec.ofChange deskBlanksSpec)) deskBlanksCard

/-- THE TIED CARD OF 'ulpkeep.DeskCounts'. -/
def deskCountsCard : Claim7 := { stood := { row := deskCountsRow, standIns := [], harness := (true, "c041fa731c443bbf855bade787d03f902e3862d4658738597edb1d452d3bb193"), looks := true }, kinds := [], alts := [], laidByText := true, laidKinds := [.data, .data, .data, .data, .sentinel, .sentinel, .pinned], laidTests := true, laidLooks := .later }
def DeskCountsCardSaid : Prop := Claim7.holds Tryz.pinned (.plain (OpenSpec.ofChange deskCountsSpec)) deskCountsCard

/-- THE TIED CARD OF 'ulpkeep.DeskApart'. -/
def deskApartCard : Claim7 := { stood := { row := deskApartRow, standIns := [], harness := (true, "c041fa731c443bbf855bade787d03f902e3862d4658738597edb1d452d3bb193"), looks := true }, kinds := [], alts := [], laidByText := true, laidKinds := [.data, .data, .data, .data, .sentinel, .sentinel, .pinned], laidTests := true, laidLooks := .later }
def DeskApartCardSaid : Prop := Claim7.holds Tryz.pinned (.plain (OpenSpec.ofChange deskApartSpec)) deskApartCard

/-- THE SECOND FORM's CARD OF 'ulpkeep.WantedBack'. -/
def wantedBackUptoCard : Claim7 := { stood := { row := wantedBackUptoRow, standIns := [], harness := (true, "c041fa731c443bbf855bade787d03f902e3862d4658738597edb1d452d3bb193"), looks := true }, kinds := [], alts := [], laidByText := true, laidKinds := [.data, .data, .data, .data, .sentinel, .sentinel, .pinned], laidTests := true, laidLooks := .later }
def WantedBackUptoCardSaid : Prop := Claim7.holds Tryz.pinned (.plain (OpenSpec.upto wantedBackSpec)) wantedBackUptoCard

/-- THE SECOND FORM's CARD OF 'ulpkeep.DeskBlanks'. -/
def deskBlanksUptoCard : Claim7 := { stood := { row := deskBlanksUptoRow, standIns := [], harness := (true, "c041fa731c443bbf855bade787d03f902e3862d4658738597edb1d452d3bb193"), looks := true }, kinds := [], alts := [], laidByText := true, laidKinds := [.data, .data, .data, .data, .sentinel, .sentinel, .pinned], laidTests := true, laidLooks := .later }
def DeskBlanksUptoCardSaid : Prop := Claim7.holds Tryz.pinned (.plain (OpenSpec.upto deskBlanksSpec)) deskBlanksUptoCard

/-- THE SECOND FORM's CARD OF 'ulpkeep.DeskCounts'. -/
def deskCountsUptoCard : Claim7 := { stood := { row := deskCountsUptoRow, standIns := [], harness := (true, "c041fa731c443bbf855bade787d03f902e3862d4658738597edb1d452d3bb193"), looks := true }, kinds := [], alts := [], laidByText := true, laidKinds := [.data, .data, .data, .data, .sentinel, .sentinel, .pinned], laidTests := true, laidLooks := .later }
def DeskCountsUptoCardSaid : Prop := Claim7.holds Tryz.pinned (.plain (OpenSpec.upto deskCountsSpec)) deskCountsUptoCard

/-- THE SECOND FORM's CARD OF 'ulpkeep.DeskApart'. -/
def deskApartUptoCard : Claim7 := { stood := { row := deskApartUptoRow, standIns := [], harness := (true, "c041fa731c443bbf855bade787d03f902e3862d4658738597edb1d452d3bb193"), looks := true }, kinds := [], alts := [], laidByText := true, laidKinds := [.data, .data, .data, .data, .sentinel, .sentinel, .pinned], laidTests := true, laidLooks := .later }
def DeskApartUptoCardSaid : Prop := Claim7.holds Tryz.pinned (.plain (OpenSpec.upto deskApartSpec)) deskApartUptoCard
end Rows
end Go.Proofs.YtofdjfdnckmmmaaGreatDoor
