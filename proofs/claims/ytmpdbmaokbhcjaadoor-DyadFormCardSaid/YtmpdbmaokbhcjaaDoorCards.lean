/-
  DERIVED. GIVEN WITH THE SEED: THE CARDS: each row of YtmpdbmaokbhcjaaDoorRows.lean that lists a variable, with what it lists TIED to the program's text (the seventh form; the later family's looks); each row that meets fmt, with fmt's text TOLD by the authors' own Lean function (tested against real Go, not proved from fmt's source: count such statements apart). THE CARD IS WHAT COUNTS. Prove the row's statement (the work); the ties are given (YtmpdbmaokbhcjaaDoorTie.lean); close each card by the builder's one call (the guide's Derived/Test/ToyasCard.lean, 'card_holds'). Laid BY PROGRAM, IN A SANDBOX (cutbox-door.mjs). By AI agents, Wed Nov 11 2026. No macro, syntax, notation, axiom, sorry.
-/
import Derived.Test.YtmpdbmaokbhcjaaDoorRows
import GoSem.ClaimSeven
namespace Go.Proofs.YtmpdbmaokbhcjaaDoor
namespace Rows

/-- THE TIED CARD OF 'ulpkeep.DyadForm'. -/
def dyadFormCard : Claim7 := { stood := { row := dyadFormRow, standIns := [], harness := (true, "9829d7a6fcd8d3125871ffe52e10d49b1759b3a3328c71f94196e82471f27a24"), looks := true }, kinds := [], alts := [], laidByText := true, laidKinds := [.data], laidTests := true, laidLooks := .later }
def DyadFormCardSaid : Prop := Claim7.holds Tryd.pinned (.plain (OpenSpec.ofChange dyadFormSpec)) dyadFormCard

/-- THE TIED CARD OF 'ulpkeep.ExpoLost'. -/
def expoLostCard : Claim7 := { stood := { row := expoLostRow, standIns := [], harness := (true, "9829d7a6fcd8d3125871ffe52e10d49b1759b3a3328c71f94196e82471f27a24"), looks := true }, kinds := [], alts := [], laidByText := true, laidKinds := [.data], laidTests := true, laidLooks := .later }
def ExpoLostCardSaid : Prop := Claim7.holds Tryd.pinned (.plain (OpenSpec.ofChange expoLostSpec)) expoLostCard

/-- THE TIED CARD OF 'ulpkeep.ExpoOrder'. -/
def expoOrderCard : Claim7 := { stood := { row := expoOrderRow, standIns := [], harness := (true, "9829d7a6fcd8d3125871ffe52e10d49b1759b3a3328c71f94196e82471f27a24"), looks := true }, kinds := [], alts := [], laidByText := true, laidKinds := [.data], laidTests := true, laidLooks := .later }
def ExpoOrderCardSaid : Prop := Claim7.holds Tryd.pinned (.plain (OpenSpec.ofChange expoOrderSpec)) expoOrderCard

/-- THE TIED CARD OF 'ulpkeep.ExpoSides'. -/
def expoSidesCard : Claim7 := { stood := { row := expoSidesRow, standIns := [], harness := (true, "9829d7a6fcd8d3125871ffe52e10d49b1759b3a3328c71f94196e82471f27a24"), looks := true }, kinds := [], alts := [], laidByText := true, laidKinds := [.data], laidTests := true, laidLooks := .later }
def ExpoSidesCardSaid : Prop := Claim7.holds Tryd.pinned (.plain (OpenSpec.ofChange expoSidesSpec)) expoSidesCard

/-- THE TIED CARD OF 'ulpkeep.ExpoBack'. -/
def expoBackCard : Claim7 := { stood := { row := expoBackRow, standIns := [], harness := (true, "9829d7a6fcd8d3125871ffe52e10d49b1759b3a3328c71f94196e82471f27a24"), looks := true }, kinds := [], alts := [], laidByText := true, laidKinds := [.data], laidTests := true, laidLooks := .later }
def ExpoBackCardSaid : Prop := Claim7.holds Tryd.pinned (.plain (OpenSpec.ofChange expoBackSpec)) expoBackCard

/-- THE TIED CARD OF 'ulpkeep.ExpoBounds'. -/
def expoBoundsCard : Claim7 := { stood := { row := expoBoundsRow, standIns := [], harness := (true, "9829d7a6fcd8d3125871ffe52e10d49b1759b3a3328c71f94196e82471f27a24"), looks := true }, kinds := [], alts := [], laidByText := true, laidKinds := [.data], laidTests := true, laidLooks := .later }
def ExpoBoundsCardSaid : Prop := Claim7.holds Tryd.pinned (.plain (OpenSpec.ofChange expoBoundsSpec)) expoBoundsCard

/-- THE TIED CARD OF 'ulpkeep.CoinExp'. -/
def coinExpCard : Claim7 := { stood := { row := coinExpRow, standIns := [], harness := (true, "9829d7a6fcd8d3125871ffe52e10d49b1759b3a3328c71f94196e82471f27a24"), looks := true }, kinds := [], alts := [], laidByText := true, laidKinds := [.data], laidTests := true, laidLooks := .later }
def CoinExpCardSaid : Prop := Claim7.holds Tryd.pinned (.plain (OpenSpec.ofChange coinExpSpec)) coinExpCard

/-- THE TIED CARD OF 'ulpkeep.HexBack'. -/
def hexBackCard : Claim7 := { stood := { row := hexBackRow, standIns := [], harness := (true, "9829d7a6fcd8d3125871ffe52e10d49b1759b3a3328c71f94196e82471f27a24"), looks := true }, kinds := [], alts := [], laidByText := true, laidKinds := [.data, .data, .data, .data, .sentinel, .sentinel, .pinned], laidTests := true, laidLooks := .later }
def HexBackCardSaid : Prop := Claim7.holds Tryd.pinned (.plain (OpenSpec.ofChange hexBackSpec)) hexBackCard

/-- THE SECOND FORM's CARD OF 'ulpkeep.DyadForm'. -/
def dyadFormUptoCard : Claim7 := { stood := { row := dyadFormUptoRow, standIns := [], harness := (true, "9829d7a6fcd8d3125871ffe52e10d49b1759b3a3328c71f94196e82471f27a24"), looks := true }, kinds := [], alts := [], laidByText := true, laidKinds := [.data], laidTests := true, laidLooks := .later }
def DyadFormUptoCardSaid : Prop := Claim7.holds Tryd.pinned (.plain (OpenSpec.upto dyadFormSpec)) dyadFormUptoCard

/-- THE SECOND FORM's CARD OF 'ulpkeep.ExpoLost'. -/
def expoLostUptoCard : Claim7 := { stood := { row := expoLostUptoRow, standIns := [], harness := (true, "9829d7a6fcd8d3125871ffe52e10d49b1759b3a3328c71f94196e82471f27a24"), looks := true }, kinds := [], alts := [], laidByText := true, laidKinds := [.data], laidTests := true, laidLooks := .later }
def ExpoLostUptoCardSaid : Prop := Claim7.holds Tryd.pinned (.plain (OpenSpec.upto expoLostSpec)) expoLostUptoCard

/-- THE SECOND FORM's CARD OF 'ulpkeep.ExpoOrder'. -/
def expoOrderUptoCard : Claim7 := { stood := { row := expoOrderUptoRow, standIns := [], harness := (true, "9829d7a6fcd8d3125871ffe52e10d49b1759b3a3328c71f94196e82471f27a24"), looks := true }, kinds := [], alts := [], laidByText := true, laidKinds := [.data], laidTests := true, laidLooks := .later }
def ExpoOrderUptoCardSaid : Prop := Claim7.holds Tryd.pinned (.plain (OpenSpec.upto expoOrderSpec)) expoOrderUptoCard

/-- THE SECOND FORM's CARD OF 'ulpkeep.ExpoSides'. -/
def expoSidesUptoCard : Claim7 := { stood := { row := expoSidesUptoRow, standIns := [], harness := (true, "9829d7a6fcd8d3125871ffe52e10d49b1759b3a3328c71f94196e82471f27a24"), looks := true }, kinds := [], alts := [], laidByText := true, laidKinds := [.data], laidTests := true, laidLooks := .later }
def ExpoSidesUptoCardSaid : Prop := Claim7.holds Tryd.pinned (.plain (OpenSpec.upto expoSidesSpec)) expoSidesUptoCard

/-- THE SECOND FORM's CARD OF 'ulpkeep.ExpoBack'. -/
def expoBackUptoCard : Claim7 := { stood := { row := expoBackUptoRow, standIns := [], harness := (true, "9829d7a6fcd8d3125871ffe52e10d49b1759b3a3328c71f94196e82471f27a24"), looks := true }, kinds := [], alts := [], laidByText := true, laidKinds := [.data], laidTests := true, laidLooks := .later }
def ExpoBackUptoCardSaid : Prop := Claim7.holds Tryd.pinned (.plain (OpenSpec.upto expoBackSpec)) expoBackUptoCard

/-- THE SECOND FORM's CARD OF 'ulpkeep.ExpoBounds'. -/
def expoBoundsUptoCard : Claim7 := { stood := { row := expoBoundsUptoRow, standIns := [], harness := (true, "9829d7a6fcd8d3125871ffe52e10d49b1759b3a3328c71f94196e82471f27a24"), looks := true }, kinds := [], alts := [], laidByText := true, laidKinds := [.data], laidTests := true, laidLooks := .later }
def ExpoBoundsUptoCardSaid : Prop := Claim7.holds Tryd.pinned (.plain (OpenSpec.upto expoBoundsSpec)) expoBoundsUptoCard

/-- THE SECOND FORM's CARD OF 'ulpkeep.CoinExp'. -/
def coinExpUptoCard : Claim7 := { stood := { row := coinExpUptoRow, standIns := [], harness := (true, "9829d7a6fcd8d3125871ffe52e10d49b1759b3a3328c71f94196e82471f27a24"), looks := true }, kinds := [], alts := [], laidByText := true, laidKinds := [.data], laidTests := true, laidLooks := .later }
def CoinExpUptoCardSaid : Prop := Claim7.holds Tryd.pinned (.plain (OpenSpec.upto coinExpSpec)) coinExpUptoCard

/-- THE SECOND FORM's CARD OF 'ulpkeep.HexBack'. -/
def hexBackUptoCard : Claim7 := { stood := { row := hexBackUptoRow, standIns := [], harness := (true, "9829d7a6fcd8d3125871ffe52e10d49b1759b3a3328c71f94196e82471f27a24"), looks := true }, kinds := [], alts := [], laidByText := true, laidKinds := [.data, .data, .data, .data, .sentinel, .sentinel, .pinned], laidTests := true, laidLooks := .later }
def HexBackUptoCardSaid : Prop := Claim7.holds Tryd.pinned (.plain (OpenSpec.upto hexBackSpec)) hexBackUptoCard
end Rows
end Go.Proofs.YtmpdbmaokbhcjaaDoor
