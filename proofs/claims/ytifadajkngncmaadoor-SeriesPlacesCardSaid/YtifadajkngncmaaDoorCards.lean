/-
  DERIVED. GIVEN WITH THE SEED: THE CARDS: each row of YtifadajkngncmaaDoorRows.lean that lists a variable, with what it lists TIED to the program's text (the seventh form; the later family's looks); each row that meets fmt, with fmt's text TOLD by the authors' own Lean function (tested against real Go, not proved from fmt's source: count such statements apart). THE CARD IS WHAT COUNTS. Prove the row's statement (the work); the ties are given (YtifadajkngncmaaDoorTie.lean); close each card by the builder's one call (the guide's Derived/Test/ToyasCard.lean, 'card_holds'). Laid BY PROGRAM, IN A SANDBOX (cutbox-door.mjs). By AI agents, Wed Nov 11 2026. No macro, syntax, notation, axiom, sorry.
-/
import Derived.Test.YtifadajkngncmaaDoorRows
import GoSem.ClaimSeven
namespace Go.Proofs.YtifadajkngncmaaDoor
namespace Rows

/-- THE TIED CARD OF 'ulpkeep.SeriesOrder'. -/
def seriesOrderCard : Claim7 := { stood := { row := seriesOrderRow, standIns := [], harness := (true, "ae3624b8ac676f5b9f873d315143ff521874136c4d1dfb95b68ce7e49556a5b2"), looks := false }, kinds := [], alts := [], laidByText := true, laidKinds := [.data], laidTests := true, laidLooks := .later }
def SeriesOrderCardSaid : Prop := Claim7.holds Tryd.pinned (.plain (OpenSpec.ofChange seriesOrderSpec)) seriesOrderCard

/-- THE TIED CARD OF 'ulpkeep.SeriesPlaces'. -/
def seriesPlacesCard : Claim7 := { stood := { row := seriesPlacesRow, standIns := [], harness := (true, "ae3624b8ac676f5b9f873d315143ff521874136c4d1dfb95b68ce7e49556a5b2"), looks := false }, kinds := [], alts := [], laidByText := true, laidKinds := [.data], laidTests := true, laidLooks := .later }
def SeriesPlacesCardSaid : Prop := Claim7.holds Tryd.pinned (.plain (OpenSpec.ofChange seriesPlacesSpec)) seriesPlacesCard

/-- THE TIED CARD OF 'ulpkeep.SeriesBack'. -/
def seriesBackCard : Claim7 := { stood := { row := seriesBackRow, standIns := [], harness := (true, "ae3624b8ac676f5b9f873d315143ff521874136c4d1dfb95b68ce7e49556a5b2"), looks := false }, kinds := [], alts := [], laidByText := true, laidKinds := [.data], laidTests := true, laidLooks := .later }
def SeriesBackCardSaid : Prop := Claim7.holds Tryd.pinned (.plain (OpenSpec.ofChange seriesBackSpec)) seriesBackCard

/-- THE TIED CARD OF 'ulpkeep.SeriesSums'. -/
def seriesSumsCard : Claim7 := { stood := { row := seriesSumsRow, standIns := [], harness := (true, "ae3624b8ac676f5b9f873d315143ff521874136c4d1dfb95b68ce7e49556a5b2"), looks := false }, kinds := [], alts := [], laidByText := true, laidKinds := [.data], laidTests := true, laidLooks := .later }
def SeriesSumsCardSaid : Prop := Claim7.holds Tryd.pinned (.plain (OpenSpec.ofChange seriesSumsSpec)) seriesSumsCard

/-- THE TIED CARD OF 'ulpkeep.SeriesPowers'. -/
def seriesPowersCard : Claim7 := { stood := { row := seriesPowersRow, standIns := [], harness := (true, "ae3624b8ac676f5b9f873d315143ff521874136c4d1dfb95b68ce7e49556a5b2"), looks := false }, kinds := [], alts := [], laidByText := true, laidKinds := [.data], laidTests := true, laidLooks := .later }
def SeriesPowersCardSaid : Prop := Claim7.holds Tryd.pinned (.plain (OpenSpec.ofChange seriesPowersSpec)) seriesPowersCard

/-- THE TIED CARD OF 'ulpkeep.ExpoLost'. -/
def expoLostCard : Claim7 := { stood := { row := expoLostRow, standIns := [], harness := (true, "ae3624b8ac676f5b9f873d315143ff521874136c4d1dfb95b68ce7e49556a5b2"), looks := false }, kinds := [], alts := [], laidByText := true, laidKinds := [.data], laidTests := true, laidLooks := .later }
def ExpoLostCardSaid : Prop := Claim7.holds Tryd.pinned (.plain (OpenSpec.ofChange expoLostSpec)) expoLostCard

/-- THE TIED CARD OF 'ulpkeep.ExpoOrder'. -/
def expoOrderCard : Claim7 := { stood := { row := expoOrderRow, standIns := [], harness := (true, "ae3624b8ac676f5b9f873d315143ff521874136c4d1dfb95b68ce7e49556a5b2"), looks := false }, kinds := [], alts := [], laidByText := true, laidKinds := [.data], laidTests := true, laidLooks := .later }
def ExpoOrderCardSaid : Prop := Claim7.holds Tryd.pinned (.plain (OpenSpec.ofChange expoOrderSpec)) expoOrderCard

/-- THE TIED CARD OF 'ulpkeep.ExpoSides'. -/
def expoSidesCard : Claim7 := { stood := { row := expoSidesRow, standIns := [], harness := (true, "ae3624b8ac676f5b9f873d315143ff521874136c4d1dfb95b68ce7e49556a5b2"), looks := false }, kinds := [], alts := [], laidByText := true, laidKinds := [.data], laidTests := true, laidLooks := .later }
def ExpoSidesCardSaid : Prop := Claim7.holds Tryd.pinned (.plain (OpenSpec.ofChange expoSidesSpec)) expoSidesCard

/-- THE TIED CARD OF 'ulpkeep.ExpoBack'. -/
def expoBackCard : Claim7 := { stood := { row := expoBackRow, standIns := [], harness := (true, "ae3624b8ac676f5b9f873d315143ff521874136c4d1dfb95b68ce7e49556a5b2"), looks := false }, kinds := [], alts := [], laidByText := true, laidKinds := [.data], laidTests := true, laidLooks := .later }
def ExpoBackCardSaid : Prop := Claim7.holds Tryd.pinned (.plain (OpenSpec.ofChange expoBackSpec)) expoBackCard

/-- THE TIED CARD OF 'ulpkeep.ExpoBounds'. -/
def expoBoundsCard : Claim7 := { stood := { row := expoBoundsRow, standIns := [], harness := (true, "ae3624b8ac676f5b9f873d315143ff521874136c4d1dfb95b68ce7e49556a5b2"), looks := false }, kinds := [], alts := [], laidByText := true, laidKinds := [.data], laidTests := true, laidLooks := .later }
def ExpoBoundsCardSaid : Prop := Claim7.holds Tryd.pinned (.plain (OpenSpec.ofChange expoBoundsSpec)) expoBoundsCard

/-- THE TIED CARD OF 'ulpkeep.CoinExp'. -/
def coinExpCard : Claim7 := { stood := { row := coinExpRow, standIns := [], harness := (true, "ae3624b8ac676f5b9f873d315143ff521874136c4d1dfb95b68ce7e49556a5b2"), looks := false }, kinds := [], alts := [], laidByText := true, laidKinds := [.data], laidTests := true, laidLooks := .later }
def CoinExpCardSaid : Prop := Claim7.holds Tryd.pinned (.plain (OpenSpec.ofChange coinExpSpec)) coinExpCard

/-- THE SECOND FORM's CARD OF 'ulpkeep.SeriesOrder'. -/
def seriesOrderUptoCard : Claim7 := { stood := { row := seriesOrderUptoRow, standIns := [], harness := (true, "ae3624b8ac676f5b9f873d315143ff521874136c4d1dfb95b68ce7e49556a5b2"), looks := false }, kinds := [], alts := [], laidByText := true, laidKinds := [.data], laidTests := true, laidLooks := .later }
def SeriesOrderUptoCardSaid : Prop := Claim7.holds Tryd.pinned (.plain (OpenSpec.upto seriesOrderSpec)) seriesOrderUptoCard

/-- THE SECOND FORM's CARD OF 'ulpkeep.SeriesPlaces'. -/
def seriesPlacesUptoCard : Claim7 := { stood := { row := seriesPlacesUptoRow, standIns := [], harness := (true, "ae3624b8ac676f5b9f873d315143ff521874136c4d1dfb95b68ce7e49556a5b2"), looks := false }, kinds := [], alts := [], laidByText := true, laidKinds := [.data], laidTests := true, laidLooks := .later }
def SeriesPlacesUptoCardSaid : Prop := Claim7.holds Tryd.pinned (.plain (OpenSpec.upto seriesPlacesSpec)) seriesPlacesUptoCard

/-- THE SECOND FORM's CARD OF 'ulpkeep.SeriesBack'. -/
def seriesBackUptoCard : Claim7 := { stood := { row := seriesBackUptoRow, standIns := [], harness := (true, "ae3624b8ac676f5b9f873d315143ff521874136c4d1dfb95b68ce7e49556a5b2"), looks := false }, kinds := [], alts := [], laidByText := true, laidKinds := [.data], laidTests := true, laidLooks := .later }
def SeriesBackUptoCardSaid : Prop := Claim7.holds Tryd.pinned (.plain (OpenSpec.upto seriesBackSpec)) seriesBackUptoCard

/-- THE SECOND FORM's CARD OF 'ulpkeep.SeriesSums'. -/
def seriesSumsUptoCard : Claim7 := { stood := { row := seriesSumsUptoRow, standIns := [], harness := (true, "ae3624b8ac676f5b9f873d315143ff521874136c4d1dfb95b68ce7e49556a5b2"), looks := false }, kinds := [], alts := [], laidByText := true, laidKinds := [.data], laidTests := true, laidLooks := .later }
def SeriesSumsUptoCardSaid : Prop := Claim7.holds Tryd.pinned (.plain (OpenSpec.upto seriesSumsSpec)) seriesSumsUptoCard

/-- THE SECOND FORM's CARD OF 'ulpkeep.SeriesPowers'. -/
def seriesPowersUptoCard : Claim7 := { stood := { row := seriesPowersUptoRow, standIns := [], harness := (true, "ae3624b8ac676f5b9f873d315143ff521874136c4d1dfb95b68ce7e49556a5b2"), looks := false }, kinds := [], alts := [], laidByText := true, laidKinds := [.data], laidTests := true, laidLooks := .later }
def SeriesPowersUptoCardSaid : Prop := Claim7.holds Tryd.pinned (.plain (OpenSpec.upto seriesPowersSpec)) seriesPowersUptoCard

/-- THE SECOND FORM's CARD OF 'ulpkeep.ExpoLost'. -/
def expoLostUptoCard : Claim7 := { stood := { row := expoLostUptoRow, standIns := [], harness := (true, "ae3624b8ac676f5b9f873d315143ff521874136c4d1dfb95b68ce7e49556a5b2"), looks := false }, kinds := [], alts := [], laidByText := true, laidKinds := [.data], laidTests := true, laidLooks := .later }
def ExpoLostUptoCardSaid : Prop := Claim7.holds Tryd.pinned (.plain (OpenSpec.upto expoLostSpec)) expoLostUptoCard

/-- THE SECOND FORM's CARD OF 'ulpkeep.ExpoOrder'. -/
def expoOrderUptoCard : Claim7 := { stood := { row := expoOrderUptoRow, standIns := [], harness := (true, "ae3624b8ac676f5b9f873d315143ff521874136c4d1dfb95b68ce7e49556a5b2"), looks := false }, kinds := [], alts := [], laidByText := true, laidKinds := [.data], laidTests := true, laidLooks := .later }
def ExpoOrderUptoCardSaid : Prop := Claim7.holds Tryd.pinned (.plain (OpenSpec.upto expoOrderSpec)) expoOrderUptoCard

/-- THE SECOND FORM's CARD OF 'ulpkeep.ExpoSides'. -/
def expoSidesUptoCard : Claim7 := { stood := { row := expoSidesUptoRow, standIns := [], harness := (true, "ae3624b8ac676f5b9f873d315143ff521874136c4d1dfb95b68ce7e49556a5b2"), looks := false }, kinds := [], alts := [], laidByText := true, laidKinds := [.data], laidTests := true, laidLooks := .later }
def ExpoSidesUptoCardSaid : Prop := Claim7.holds Tryd.pinned (.plain (OpenSpec.upto expoSidesSpec)) expoSidesUptoCard

/-- THE SECOND FORM's CARD OF 'ulpkeep.ExpoBack'. -/
def expoBackUptoCard : Claim7 := { stood := { row := expoBackUptoRow, standIns := [], harness := (true, "ae3624b8ac676f5b9f873d315143ff521874136c4d1dfb95b68ce7e49556a5b2"), looks := false }, kinds := [], alts := [], laidByText := true, laidKinds := [.data], laidTests := true, laidLooks := .later }
def ExpoBackUptoCardSaid : Prop := Claim7.holds Tryd.pinned (.plain (OpenSpec.upto expoBackSpec)) expoBackUptoCard

/-- THE SECOND FORM's CARD OF 'ulpkeep.ExpoBounds'. -/
def expoBoundsUptoCard : Claim7 := { stood := { row := expoBoundsUptoRow, standIns := [], harness := (true, "ae3624b8ac676f5b9f873d315143ff521874136c4d1dfb95b68ce7e49556a5b2"), looks := false }, kinds := [], alts := [], laidByText := true, laidKinds := [.data], laidTests := true, laidLooks := .later }
def ExpoBoundsUptoCardSaid : Prop := Claim7.holds Tryd.pinned (.plain (OpenSpec.upto expoBoundsSpec)) expoBoundsUptoCard

/-- THE SECOND FORM's CARD OF 'ulpkeep.CoinExp'. -/
def coinExpUptoCard : Claim7 := { stood := { row := coinExpUptoRow, standIns := [], harness := (true, "ae3624b8ac676f5b9f873d315143ff521874136c4d1dfb95b68ce7e49556a5b2"), looks := false }, kinds := [], alts := [], laidByText := true, laidKinds := [.data], laidTests := true, laidLooks := .later }
def CoinExpUptoCardSaid : Prop := Claim7.holds Tryd.pinned (.plain (OpenSpec.upto coinExpSpec)) coinExpUptoCard
end Rows
end Go.Proofs.YtifadajkngncmaaDoor
