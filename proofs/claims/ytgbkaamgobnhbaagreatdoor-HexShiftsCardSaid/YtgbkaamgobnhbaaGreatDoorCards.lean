/-
  DERIVED. GIVEN WITH THE SEED: THE CARDS: each row of YtgbkaamgobnhbaaGreatDoorRows.lean that lists a variable, with what it lists TIED to the program's text (the seventh form; the later family's looks); each row that meets fmt, with fmt's text TOLD by the authors' own Lean function (tested against real Go, not proved from fmt's source: count such statements apart). THE CARD IS WHAT COUNTS. Prove the row's statement (the work); the ties are given (YtgbkaamgobnhbaaGreatDoorTie.lean); close each card by the builder's one call (the guide's Derived/Test/ToyasCard.lean, 'card_holds'). Laid BY PROGRAM, IN A SANDBOX (cutbox-door.mjs). By AI agents, Wed Nov 11 2026. No macro, syntax, notation, axiom, sorry.
-/
import Derived.Test.YtgbkaamgobnhbaaGreatDoorRows
import GoSem.ClaimSeven
namespace Go.Proofs.YtgbkaamgobnhbaaGreatDoor
namespace Rows

/-- THE TIED CARD OF 'ulpkeep.HexTurned'. -/
def hexTurnedCard : Claim7 := { stood := { row := hexTurnedRow, standIns := [], harness := (true, "0db83da01699f96ec22d2f07e9f423f1bfe75de2f3324b00298dfe4c8b07b995"), looks := true }, kinds := [], alts := [], laidByText := true, laidKinds := [.data, .data, .data, .data, .sentinel, .sentinel, .pinned], laidTests := true, laidLooks := .later }
def HexTurnedCardSaid : Prop := Claim7.holds Tryz.pinned (.plain (OpenSpec.ofChange hexTurnedSpec)) hexTurnedCard

/-- THE TIED CARD OF 'ulpkeep.DecimalForm'. -/
def decimalFormCard : Claim7 := { stood := { row := decimalFormRow, standIns := [], harness := (true, "0db83da01699f96ec22d2f07e9f423f1bfe75de2f3324b00298dfe4c8b07b995"), looks := true }, kinds := [], alts := [], laidByText := true, laidKinds := [.data, .data, .data, .data, .pinned], laidTests := true, laidLooks := .later }
def DecimalFormCardSaid : Prop := Claim7.holds Tryz.pinned (.plain (OpenSpec.ofChange decimalFormSpec)) decimalFormCard

/-- THE TIED CARD OF 'ulpkeep.ShortOwn'. -/
def shortOwnCard : Claim7 := { stood := { row := shortOwnRow, standIns := [], harness := (true, "0db83da01699f96ec22d2f07e9f423f1bfe75de2f3324b00298dfe4c8b07b995"), looks := true }, kinds := [], alts := [], laidByText := true, laidKinds := [.data, .data, .data, .data, .sentinel, .sentinel, .pinned], laidTests := true, laidLooks := .later }
def ShortOwnCardSaid : Prop := Claim7.holds Tryz.pinned (.plain (OpenSpec.ofChange shortOwnSpec)) shortOwnCard

/-- THE TIED CARD OF 'ulpkeep.HexShifts'. -/
def hexShiftsCard : Claim7 := { stood := { row := hexShiftsRow, standIns := [], harness := (true, "0db83da01699f96ec22d2f07e9f423f1bfe75de2f3324b00298dfe4c8b07b995"), looks := true }, kinds := [], alts := [], laidByText := true, laidKinds := [.data, .data, .data, .data, .sentinel, .sentinel, .pinned], laidTests := true, laidLooks := .later }
def HexShiftsCardSaid : Prop := Claim7.holds Tryz.pinned (.plain (OpenSpec.ofChange hexShiftsSpec)) hexShiftsCard

/-- THE TIED CARD OF 'ulpkeep.ReadExact'. -/
def readExactCard : Claim7 := { stood := { row := readExactRow, standIns := [], harness := (true, "0db83da01699f96ec22d2f07e9f423f1bfe75de2f3324b00298dfe4c8b07b995"), looks := true }, kinds := [], alts := [], laidByText := true, laidKinds := [.data, .data, .data, .data, .sentinel, .sentinel, .pinned], laidTests := true, laidLooks := .later }
def ReadExactCardSaid : Prop := Claim7.holds Tryz.pinned (.plain (OpenSpec.ofChange readExactSpec)) readExactCard

/-- THE TIED CARD OF 'ulpkeep.ReadSeventeen'. -/
def readSeventeenCard : Claim7 := { stood := { row := readSeventeenRow, standIns := [], harness := (true, "0db83da01699f96ec22d2f07e9f423f1bfe75de2f3324b00298dfe4c8b07b995"), looks := true }, kinds := [], alts := [], laidByText := true, laidKinds := [.data, .data, .data, .data, .sentinel, .sentinel, .pinned], laidTests := true, laidLooks := .later }
def ReadSeventeenCardSaid : Prop := Claim7.holds Tryz.pinned (.plain (OpenSpec.ofChange readSeventeenSpec)) readSeventeenCard

/-- THE TIED CARD OF 'ulpkeep.ShortBack'. -/
def shortBackCard : Claim7 := { stood := { row := shortBackRow, standIns := [], harness := (true, "0db83da01699f96ec22d2f07e9f423f1bfe75de2f3324b00298dfe4c8b07b995"), looks := true }, kinds := [], alts := [], laidByText := true, laidKinds := [.data, .data, .data, .data, .sentinel, .sentinel, .pinned], laidTests := true, laidLooks := .later }
def ShortBackCardSaid : Prop := Claim7.holds Tryz.pinned (.plain (OpenSpec.ofChange shortBackSpec)) shortBackCard

/-- THE TIED CARD OF 'ulpkeep.ShortLeast'. -/
def shortLeastCard : Claim7 := { stood := { row := shortLeastRow, standIns := [], harness := (true, "0db83da01699f96ec22d2f07e9f423f1bfe75de2f3324b00298dfe4c8b07b995"), looks := true }, kinds := [], alts := [], laidByText := true, laidKinds := [.data, .data, .data, .data, .sentinel, .sentinel, .pinned], laidTests := true, laidLooks := .later }
def ShortLeastCardSaid : Prop := Claim7.holds Tryz.pinned (.plain (OpenSpec.ofChange shortLeastSpec)) shortLeastCard

/-- THE TIED CARD OF 'ulpkeep.HexTens'. -/
def hexTensCard : Claim7 := { stood := { row := hexTensRow, standIns := [], harness := (true, "0db83da01699f96ec22d2f07e9f423f1bfe75de2f3324b00298dfe4c8b07b995"), looks := true }, kinds := [], alts := [], laidByText := true, laidKinds := [.data, .data, .data, .data, .sentinel, .sentinel, .pinned], laidTests := true, laidLooks := .later }
def HexTensCardSaid : Prop := Claim7.holds Tryz.pinned (.plain (OpenSpec.ofChange hexTensSpec)) hexTensCard

/-- THE SECOND FORM's CARD OF 'ulpkeep.HexTurned'. -/
def hexTurnedUptoCard : Claim7 := { stood := { row := hexTurnedUptoRow, standIns := [], harness := (true, "0db83da01699f96ec22d2f07e9f423f1bfe75de2f3324b00298dfe4c8b07b995"), looks := true }, kinds := [], alts := [], laidByText := true, laidKinds := [.data, .data, .data, .data, .sentinel, .sentinel, .pinned], laidTests := true, laidLooks := .later }
def HexTurnedUptoCardSaid : Prop := Claim7.holds Tryz.pinned (.plain (OpenSpec.upto hexTurnedSpec)) hexTurnedUptoCard

/-- THE SECOND FORM's CARD OF 'ulpkeep.DecimalForm'. -/
def decimalFormUptoCard : Claim7 := { stood := { row := decimalFormUptoRow, standIns := [], harness := (true, "0db83da01699f96ec22d2f07e9f423f1bfe75de2f3324b00298dfe4c8b07b995"), looks := true }, kinds := [], alts := [], laidByText := true, laidKinds := [.data, .data, .data, .data, .pinned], laidTests := true, laidLooks := .later }
def DecimalFormUptoCardSaid : Prop := Claim7.holds Tryz.pinned (.plain (OpenSpec.upto decimalFormSpec)) decimalFormUptoCard

/-- THE SECOND FORM's CARD OF 'ulpkeep.ShortOwn'. -/
def shortOwnUptoCard : Claim7 := { stood := { row := shortOwnUptoRow, standIns := [], harness := (true, "0db83da01699f96ec22d2f07e9f423f1bfe75de2f3324b00298dfe4c8b07b995"), looks := true }, kinds := [], alts := [], laidByText := true, laidKinds := [.data, .data, .data, .data, .sentinel, .sentinel, .pinned], laidTests := true, laidLooks := .later }
def ShortOwnUptoCardSaid : Prop := Claim7.holds Tryz.pinned (.plain (OpenSpec.upto shortOwnSpec)) shortOwnUptoCard

/-- THE SECOND FORM's CARD OF 'ulpkeep.HexShifts'. -/
def hexShiftsUptoCard : Claim7 := { stood := { row := hexShiftsUptoRow, standIns := [], harness := (true, "0db83da01699f96ec22d2f07e9f423f1bfe75de2f3324b00298dfe4c8b07b995"), looks := true }, kinds := [], alts := [], laidByText := true, laidKinds := [.data, .data, .data, .data, .sentinel, .sentinel, .pinned], laidTests := true, laidLooks := .later }
def HexShiftsUptoCardSaid : Prop := Claim7.holds Tryz.pinned (.plain (OpenSpec.upto hexShiftsSpec)) hexShiftsUptoCard

/-- THE SECOND FORM's CARD OF 'ulpkeep.ReadExact'. -/
def readExactUptoCard : Claim7 := { stood := { row := readExactUptoRow, standIns := [], harness := (true, "0db83da01699f96ec22d2f07e9f423f1bfe75de2f3324b00298dfe4c8b07b995"), looks := true }, kinds := [], alts := [], laidByText := true, laidKinds := [.data, .data, .data, .data, .sentinel, .sentinel, .pinned], laidTests := true, laidLooks := .later }
def ReadExactUptoCardSaid : Prop := Claim7.holds Tryz.pinned (.plain (OpenSpec.upto readExactSpec)) readExactUptoCard

/-- THE SECOND FORM's CARD OF 'ulpkeep.ReadSeventeen'. -/
def readSeventeenUptoCard : Claim7 := { stood := { row := readSeventeenUptoRow, standIns := [], harness := (true, "0db83da01699f96ec22d2f07e9f423f1bfe75de2f3324b00298dfe4c8b07b995"), looks := true }, kinds := [], alts := [], laidByText := true, laidKinds := [.data, .data, .data, .data, .sentinel, .sentinel, .pinned], laidTests := true, laidLooks := .later }
def ReadSeventeenUptoCardSaid : Prop := Claim7.holds Tryz.pinned (.plain (OpenSpec.upto readSeventeenSpec)) readSeventeenUptoCard

/-- THE SECOND FORM's CARD OF 'ulpkeep.ShortBack'. -/
def shortBackUptoCard : Claim7 := { stood := { row := shortBackUptoRow, standIns := [], harness := (true, "0db83da01699f96ec22d2f07e9f423f1bfe75de2f3324b00298dfe4c8b07b995"), looks := true }, kinds := [], alts := [], laidByText := true, laidKinds := [.data, .data, .data, .data, .sentinel, .sentinel, .pinned], laidTests := true, laidLooks := .later }
def ShortBackUptoCardSaid : Prop := Claim7.holds Tryz.pinned (.plain (OpenSpec.upto shortBackSpec)) shortBackUptoCard

/-- THE SECOND FORM's CARD OF 'ulpkeep.ShortLeast'. -/
def shortLeastUptoCard : Claim7 := { stood := { row := shortLeastUptoRow, standIns := [], harness := (true, "0db83da01699f96ec22d2f07e9f423f1bfe75de2f3324b00298dfe4c8b07b995"), looks := true }, kinds := [], alts := [], laidByText := true, laidKinds := [.data, .data, .data, .data, .sentinel, .sentinel, .pinned], laidTests := true, laidLooks := .later }
def ShortLeastUptoCardSaid : Prop := Claim7.holds Tryz.pinned (.plain (OpenSpec.upto shortLeastSpec)) shortLeastUptoCard

/-- THE SECOND FORM's CARD OF 'ulpkeep.HexTens'. -/
def hexTensUptoCard : Claim7 := { stood := { row := hexTensUptoRow, standIns := [], harness := (true, "0db83da01699f96ec22d2f07e9f423f1bfe75de2f3324b00298dfe4c8b07b995"), looks := true }, kinds := [], alts := [], laidByText := true, laidKinds := [.data, .data, .data, .data, .sentinel, .sentinel, .pinned], laidTests := true, laidLooks := .later }
def HexTensUptoCardSaid : Prop := Claim7.holds Tryz.pinned (.plain (OpenSpec.upto hexTensSpec)) hexTensUptoCard
end Rows
end Go.Proofs.YtgbkaamgobnhbaaGreatDoor
