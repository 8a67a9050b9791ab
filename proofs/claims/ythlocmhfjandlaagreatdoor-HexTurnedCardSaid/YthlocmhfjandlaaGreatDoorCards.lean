/-
  DERIVED. GIVEN WITH THE SEED: THE CARDS: each row of YthlocmhfjandlaaGreatDoorRows.lean that lists a variable, with what it lists TIED to the program's text (the seventh form; the later family's looks); each row that meets fmt, with fmt's text TOLD by the authors' own Lean function (tested against real Go, not proved from fmt's source: count such statements apart). THE CARD IS WHAT COUNTS. Prove the row's statement (the work); the ties are given (YthlocmhfjandlaaGreatDoorTie.lean); close each card by the builder's one call (the guide's Derived/Test/ToyasCard.lean, 'card_holds'). Laid BY PROGRAM, IN A SANDBOX (cutbox-door.mjs). By AI agents, Wed Nov 11 2026. No macro, syntax, notation, axiom, sorry.
-/
import Derived.Test.YthlocmhfjandlaaGreatDoorRows
import GoSem.ClaimSeven
namespace Go.Proofs.YthlocmhfjandlaaGreatDoor
namespace Rows

/-- THE TIED CARD OF 'ulptop.TopFused'. -/
def topFusedCard : Claim7 := { stood := { row := topFusedRow, standIns := [], harness := (true, "5657d3a933094f220609bf571324e5f970b97c150cf186a6fd308752385bb011"), looks := true }, kinds := [], alts := [], laidByText := true, laidKinds := [.data, .data, .data, .data, .sentinel, .sentinel, .pinned], laidTests := true, laidLooks := .later }
def TopFusedCardSaid : Prop := Claim7.holds Tryz.pinned (.plain (OpenSpec.ofChange topFusedSpec)) topFusedCard

/-- THE TIED CARD OF 'ulptop.TopSpan'. -/
def topSpanCard : Claim7 := { stood := { row := topSpanRow, standIns := [], harness := (true, "5657d3a933094f220609bf571324e5f970b97c150cf186a6fd308752385bb011"), looks := true }, kinds := [], alts := [], laidByText := true, laidKinds := [.data, .data, .data, .data, .sentinel, .sentinel, .pinned], laidTests := true, laidLooks := .later }
def TopSpanCardSaid : Prop := Claim7.holds Tryz.pinned (.plain (OpenSpec.ofChange topSpanSpec)) topSpanCard

/-- THE TIED CARD OF 'ulpkeep.HexTurned'. -/
def hexTurnedCard : Claim7 := { stood := { row := hexTurnedRow, standIns := [], harness := (true, "5657d3a933094f220609bf571324e5f970b97c150cf186a6fd308752385bb011"), looks := true }, kinds := [], alts := [], laidByText := true, laidKinds := [.data, .data, .data, .data, .sentinel, .sentinel, .pinned], laidTests := true, laidLooks := .later }
def HexTurnedCardSaid : Prop := Claim7.holds Tryz.pinned (.plain (OpenSpec.ofChange hexTurnedSpec)) hexTurnedCard

/-- THE TIED CARD OF 'ulpkeep.DecimalForm'. -/
def decimalFormCard : Claim7 := { stood := { row := decimalFormRow, standIns := [], harness := (true, "5657d3a933094f220609bf571324e5f970b97c150cf186a6fd308752385bb011"), looks := true }, kinds := [], alts := [], laidByText := true, laidKinds := [.data, .data, .data, .data, .pinned], laidTests := true, laidLooks := .later }
def DecimalFormCardSaid : Prop := Claim7.holds Tryz.pinned (.plain (OpenSpec.ofChange decimalFormSpec)) decimalFormCard

/-- THE TIED CARD OF 'ulpkeep.ShortOwn'. -/
def shortOwnCard : Claim7 := { stood := { row := shortOwnRow, standIns := [], harness := (true, "5657d3a933094f220609bf571324e5f970b97c150cf186a6fd308752385bb011"), looks := true }, kinds := [], alts := [], laidByText := true, laidKinds := [.data, .data, .data, .data, .sentinel, .sentinel, .pinned], laidTests := true, laidLooks := .later }
def ShortOwnCardSaid : Prop := Claim7.holds Tryz.pinned (.plain (OpenSpec.ofChange shortOwnSpec)) shortOwnCard

/-- THE TIED CARD OF 'ulpkeep.HexShifts'. -/
def hexShiftsCard : Claim7 := { stood := { row := hexShiftsRow, standIns := [], harness := (true, "5657d3a933094f220609bf571324e5f970b97c150cf186a6fd308752385bb011"), looks := true }, kinds := [], alts := [], laidByText := true, laidKinds := [.data, .data, .data, .data, .sentinel, .sentinel, .pinned], laidTests := true, laidLooks := .later }
def HexShiftsCardSaid : Prop := Claim7.holds Tryz.pinned (.plain (OpenSpec.ofChange hexShiftsSpec)) hexShiftsCard

/-- THE TIED CARD OF 'ulpkeep.WantedParsed'. -/
def wantedParsedCard : Claim7 := { stood := { row := wantedParsedRow, standIns := [], harness := (true, "5657d3a933094f220609bf571324e5f970b97c150cf186a6fd308752385bb011"), looks := true }, kinds := [], alts := [], laidByText := true, laidKinds := [.data, .data, .data, .data, .pinned], laidTests := true, laidLooks := .later }
def WantedParsedCardSaid : Prop := Claim7.holds Tryz.pinned (.plain (OpenSpec.ofChange wantedParsedSpec)) wantedParsedCard

/-- THE TIED CARD OF 'ulpkeep.WantedSigns'. -/
def wantedSignsCard : Claim7 := { stood := { row := wantedSignsRow, standIns := [], harness := (true, "5657d3a933094f220609bf571324e5f970b97c150cf186a6fd308752385bb011"), looks := true }, kinds := [], alts := [], laidByText := true, laidKinds := [.data, .data, .data, .data, .pinned], laidTests := true, laidLooks := .later }
def WantedSignsCardSaid : Prop := Claim7.holds Tryz.pinned (.plain (OpenSpec.ofChange wantedSignsSpec)) wantedSignsCard

/-- THE TIED CARD OF 'ulpkeep.ReadExact'. -/
def readExactCard : Claim7 := { stood := { row := readExactRow, standIns := [], harness := (true, "5657d3a933094f220609bf571324e5f970b97c150cf186a6fd308752385bb011"), looks := true }, kinds := [], alts := [], laidByText := true, laidKinds := [.data, .data, .data, .data, .sentinel, .sentinel, .pinned], laidTests := true, laidLooks := .later }
def ReadExactCardSaid : Prop := Claim7.holds Tryz.pinned (.plain (OpenSpec.ofChange readExactSpec)) readExactCard

/-- THE TIED CARD OF 'ulpkeep.WantedWidth'. -/
def wantedWidthCard : Claim7 := { stood := { row := wantedWidthRow, standIns := [], harness := (true, "5657d3a933094f220609bf571324e5f970b97c150cf186a6fd308752385bb011"), looks := true }, kinds := [], alts := [], laidByText := true, laidKinds := [.data, .data, .data, .data, .pinned], laidTests := true, laidLooks := .later }
def WantedWidthCardSaid : Prop := Claim7.holds Tryz.pinned (.plain (OpenSpec.ofChange wantedWidthSpec)) wantedWidthCard

/-- THE TIED CARD OF 'ulpkeep.ReadSeventeen'. -/
def readSeventeenCard : Claim7 := { stood := { row := readSeventeenRow, standIns := [], harness := (true, "5657d3a933094f220609bf571324e5f970b97c150cf186a6fd308752385bb011"), looks := true }, kinds := [], alts := [], laidByText := true, laidKinds := [.data, .data, .data, .data, .sentinel, .sentinel, .pinned], laidTests := true, laidLooks := .later }
def ReadSeventeenCardSaid : Prop := Claim7.holds Tryz.pinned (.plain (OpenSpec.ofChange readSeventeenSpec)) readSeventeenCard

/-- THE TIED CARD OF 'ulpkeep.ShortBack'. -/
def shortBackCard : Claim7 := { stood := { row := shortBackRow, standIns := [], harness := (true, "5657d3a933094f220609bf571324e5f970b97c150cf186a6fd308752385bb011"), looks := true }, kinds := [], alts := [], laidByText := true, laidKinds := [.data, .data, .data, .data, .sentinel, .sentinel, .pinned], laidTests := true, laidLooks := .later }
def ShortBackCardSaid : Prop := Claim7.holds Tryz.pinned (.plain (OpenSpec.ofChange shortBackSpec)) shortBackCard

/-- THE TIED CARD OF 'ulpkeep.ShortLeast'. -/
def shortLeastCard : Claim7 := { stood := { row := shortLeastRow, standIns := [], harness := (true, "5657d3a933094f220609bf571324e5f970b97c150cf186a6fd308752385bb011"), looks := true }, kinds := [], alts := [], laidByText := true, laidKinds := [.data, .data, .data, .data, .sentinel, .sentinel, .pinned], laidTests := true, laidLooks := .later }
def ShortLeastCardSaid : Prop := Claim7.holds Tryz.pinned (.plain (OpenSpec.ofChange shortLeastSpec)) shortLeastCard

/-- THE TIED CARD OF 'ulpkeep.HexTens'. -/
def hexTensCard : Claim7 := { stood := { row := hexTensRow, standIns := [], harness := (true, "5657d3a933094f220609bf571324e5f970b97c150cf186a6fd308752385bb011"), looks := true }, kinds := [], alts := [], laidByText := true, laidKinds := [.data, .data, .data, .data, .sentinel, .sentinel, .pinned], laidTests := true, laidLooks := .later }
def HexTensCardSaid : Prop := Claim7.holds Tryz.pinned (.plain (OpenSpec.ofChange hexTensSpec)) hexTensCard

/-- THE TIED CARD OF 'ulpkeep.WantedBack'. -/
def wantedBackCard : Claim7 := { stood := { row := wantedBackRow, standIns := [], harness := (true, "5657d3a933094f220609bf571324e5f970b97c150cf186a6fd308752385bb011"), looks := true }, kinds := [], alts := [], laidByText := true, laidKinds := [.data, .data, .data, .data, .sentinel, .sentinel, .pinned], laidTests := true, laidLooks := .later }
def WantedBackCardSaid : Prop := Claim7.holds Tryz.pinned (.plain (OpenSpec.ofChange wantedBackSpec)) wantedBackCard

/-- THE SECOND FORM's CARD OF 'ulptop.TopFused'. -/
def topFusedUptoCard : Claim7 := { stood := { row := topFusedUptoRow, standIns := [], harness := (true, "5657d3a933094f220609bf571324e5f970b97c150cf186a6fd308752385bb011"), looks := true }, kinds := [], alts := [], laidByText := true, laidKinds := [.data, .data, .data, .data, .sentinel, .sentinel, .pinned], laidTests := true, laidLooks := .later }
def TopFusedUptoCardSaid : Prop := Claim7.holds Tryz.pinned (.plain (OpenSpec.upto topFusedSpec)) topFusedUptoCard

/-- THE SECOND FORM's CARD OF 'ulptop.TopSpan'. -/
def topSpanUptoCard : Claim7 := { stood := { row := topSpanUptoRow, standIns := [], harness := (true, "5657d3a933094f220609bf571324e5f970b97c150cf186a6fd308752385bb011"), looks := true }, kinds := [], alts := [], laidByText := true, laidKinds := [.data, .data, .data, .data, .sentinel, .sentinel, .pinned], laidTests := true, laidLooks := .later }
def TopSpanUptoCardSaid : Prop := Claim7.holds Tryz.pinned (.plain (OpenSpec.upto topSpanSpec)) topSpanUptoCard

/-- THE SECOND FORM's CARD OF 'ulpkeep.HexTurned'. -/
def hexTurnedUptoCard : Claim7 := { stood := { row := hexTurnedUptoRow, standIns := [], harness := (true, "5657d3a933094f220609bf571324e5f970b97c150cf186a6fd308752385bb011"), looks := true }, kinds := [], alts := [], laidByText := true, laidKinds := [.data, .data, .data, .data, .sentinel, .sentinel, .pinned], laidTests := true, laidLooks := .later }
def HexTurnedUptoCardSaid : Prop := Claim7.holds Tryz.pinned (.plain (OpenSpec.upto hexTurnedSpec)) hexTurnedUptoCard

/-- THE SECOND FORM's CARD OF 'ulpkeep.DecimalForm'. -/
def decimalFormUptoCard : Claim7 := { stood := { row := decimalFormUptoRow, standIns := [], harness := (true, "5657d3a933094f220609bf571324e5f970b97c150cf186a6fd308752385bb011"), looks := true }, kinds := [], alts := [], laidByText := true, laidKinds := [.data, .data, .data, .data, .pinned], laidTests := true, laidLooks := .later }
def DecimalFormUptoCardSaid : Prop := Claim7.holds Tryz.pinned (.plain (OpenSpec.upto decimalFormSpec)) decimalFormUptoCard

/-- THE SECOND FORM's CARD OF 'ulpkeep.ShortOwn'. -/
def shortOwnUptoCard : Claim7 := { stood := { row := shortOwnUptoRow, standIns := [], harness := (true, "5657d3a933094f220609bf571324e5f970b97c150cf186a6fd308752385bb011"), looks := true }, kinds := [], alts := [], laidByText := true, laidKinds := [.data, .data, .data, .data, .sentinel, .sentinel, .pinned], laidTests := true, laidLooks := .later }
def ShortOwnUptoCardSaid : Prop := Claim7.holds Tryz.pinned (.plain (OpenSpec.upto shortOwnSpec)) shortOwnUptoCard

/-- THE SECOND FORM's CARD OF 'ulpkeep.HexShifts'. -/
def hexShiftsUptoCard : Claim7 := { stood := { row := hexShiftsUptoRow, standIns := [], harness := (true, "5657d3a933094f220609bf571324e5f970b97c150cf186a6fd308752385bb011"), looks := true }, kinds := [], alts := [], laidByText := true, laidKinds := [.data, .data, .data, .data, .sentinel, .sentinel, .pinned], laidTests := true, laidLooks := .later }
def HexShiftsUptoCardSaid : Prop := Claim7.holds Tryz.pinned (.plain (OpenSpec.upto hexShiftsSpec)) hexShiftsUptoCard

/-- THE SECOND FORM's CARD OF 'ulpkeep.WantedParsed'. -/
def wantedParsedUptoCard : Claim7 := { stood := { row := wantedParsedUptoRow, standIns := [], harness := (true, "5657d3a933094f220609bf571324e5f970b97c150cf186a6fd308752385bb011"), looks := true }, kinds := [], alts := [], laidByText := true, laidKinds := [.data, .data, .data, .data, .pinned], laidTests := true, laidLooks := .later }
def WantedParsedUptoCardSaid : Prop := Claim7.holds Tryz.pinned (.plain (OpenSpec.upto wantedParsedSpec)) wantedParsedUptoCard

/-- THE SECOND FORM's CARD OF 'ulpkeep.WantedSigns'. -/
def wantedSignsUptoCard : Claim7 := { stood := { row := wantedSignsUptoRow, standIns := [], harness := (true, "5657d3a933094f220609bf571324e5f970b97c150cf186a6fd308752385bb011"), looks := true }, kinds := [], alts := [], laidByText := true, laidKinds := [.data, .data, .data, .data, .pinned], laidTests := true, laidLooks := .later }
def WantedSignsUptoCardSaid : Prop := Claim7.holds Tryz.pinned (.plain (OpenSpec.upto wantedSignsSpec)) wantedSignsUptoCard

/-- THE SECOND FORM's CARD OF 'ulpkeep.ReadExact'. -/
def readExactUptoCard : Claim7 := { stood := { row := readExactUptoRow, standIns := [], harness := (true, "5657d3a933094f220609bf571324e5f970b97c150cf186a6fd308752385bb011"), looks := true }, kinds := [], alts := [], laidByText := true, laidKinds := [.data, .data, .data, .data, .sentinel, .sentinel, .pinned], laidTests := true, laidLooks := .later }
def ReadExactUptoCardSaid : Prop := Claim7.holds Tryz.pinned (.plain (OpenSpec.upto readExactSpec)) readExactUptoCard

/-- THE SECOND FORM's CARD OF 'ulpkeep.WantedWidth'. -/
def wantedWidthUptoCard : Claim7 := { stood := { row := wantedWidthUptoRow, standIns := [], harness := (true, "5657d3a933094f220609bf571324e5f970b97c150cf186a6fd308752385bb011"), looks := true }, kinds := [], alts := [], laidByText := true, laidKinds := [.data, .data, .data, .data, .pinned], laidTests := true, laidLooks := .later }
def WantedWidthUptoCardSaid : Prop := Claim7.holds Tryz.pinned (.plain (OpenSpec.upto wantedWidthSpec)) wantedWidthUptoCard

/-- THE SECOND FORM's CARD OF 'ulpkeep.ReadSeventeen'. -/
def readSeventeenUptoCard : Claim7 := { stood := { row := readSeventeenUptoRow, standIns := [], harness := (true, "5657d3a933094f220609bf571324e5f970b97c150cf186a6fd308752385bb011"), looks := true }, kinds := [], alts := [], laidByText := true, laidKinds := [.data, .data, .data, .data, .sentinel, .sentinel, .pinned], laidTests := true, laidLooks := .later }
def ReadSeventeenUptoCardSaid : Prop := Claim7.holds Tryz.pinned (.plain (OpenSpec.upto readSeventeenSpec)) readSeventeenUptoCard

/-- THE SECOND FORM's CARD OF 'ulpkeep.ShortBack'. -/
def shortBackUptoCard : Claim7 := { stood := { row := shortBackUptoRow, standIns := [], harness := (true, "5657d3a933094f220609bf571324e5f970b97c150cf186a6fd308752385bb011"), looks := true }, kinds := [], alts := [], laidByText := true, laidKinds := [.data, .data, .data, .data, .sentinel, .sentinel, .pinned], laidTests := true, laidLooks := .later }
def ShortBackUptoCardSaid : Prop := Claim7.holds Tryz.pinned (.plain (OpenSpec.upto shortBackSpec)) shortBackUptoCard

/-- THE SECOND FORM's CARD OF 'ulpkeep.ShortLeast'. -/
def shortLeastUptoCard : Claim7 := { stood := { row := shortLeastUptoRow, standIns := [], harness := (true, "5657d3a933094f220609bf571324e5f970b97c150cf186a6fd308752385bb011"), looks := true }, kinds := [], alts := [], laidByText := true, laidKinds := [.data, .data, .data, .data, .sentinel, .sentinel, .pinned], laidTests := true, laidLooks := .later }
def ShortLeastUptoCardSaid : Prop := Claim7.holds Tryz.pinned (.plain (OpenSpec.upto shortLeastSpec)) shortLeastUptoCard

/-- THE SECOND FORM's CARD OF 'ulpkeep.HexTens'. -/
def hexTensUptoCard : Claim7 := { stood := { row := hexTensUptoRow, standIns := [], harness := (true, "5657d3a933094f220609bf571324e5f970b97c150cf186a6fd308752385bb011"), looks := true }, kinds := [], alts := [], laidByText := true, laidKinds := [.data, .data, .data, .data, .sentinel, .sentinel, .pinned], laidTests := true, laidLooks := .later }
def HexTensUptoCardSaid : Prop := Claim7.holds Tryz.pinned (.plain (OpenSpec.upto hexTensSpec)) hexTensUptoCard

/-- THE SECOND FORM's CARD OF 'ulpkeep.WantedBack'. -/
def wantedBackUptoCard : Claim7 := { stood := { row := wantedBackUptoRow, standIns := [], harness := (true, "5657d3a933094f220609bf571324e5f970b97c150cf186a6fd308752385bb011"), looks := true }, kinds := [], alts := [], laidByText := true, laidKinds := [.data, .data, .data, .data, .sentinel, .sentinel, .pinned], laidTests := true, laidLooks := .later }
def WantedBackUptoCardSaid : Prop := Claim7.holds Tryz.pinned (.plain (OpenSpec.upto wantedBackSpec)) wantedBackUptoCard
end Rows
end Go.Proofs.YthlocmhfjandlaaGreatDoor
