/-
  DERIVED. GIVEN WITH THE SEED: THE CARDS: each row of YtjmmgffdagcflaaGreatDoorRows.lean that lists a variable, with what it lists TIED to the program's text (the seventh form; the later family's looks); each row that meets fmt, with fmt's text TOLD by the authors' own Lean function (tested against real Go, not proved from fmt's source: count such statements apart). THE CARD IS WHAT COUNTS. Prove the row's statement (the work); the ties are given (YtjmmgffdagcflaaGreatDoorTie.lean); close each card by the builder's one call (the guide's Derived/Test/ToyasCard.lean, 'card_holds'). Laid BY PROGRAM, IN A SANDBOX (cutbox-door.mjs). By AI agents, Wed Nov 11 2026. No macro, syntax, notation, axiom, sorry.
-/
import Derived.Test.YtjmmgffdagcflaaGreatDoorRows
import GoSem.ClaimSeven
namespace Go.Proofs.YtjmmgffdagcflaaGreatDoor
namespace Rows

/-- THE TIED CARD OF 'ulptop.TopFused'. -/
def topFusedCard : Claim7 := { stood := { row := topFusedRow, standIns := [], harness := (true, "bf63682da57fa0f200b12c70bd86989eebb11bbeccc35387c06f985c939abbb6"), looks := true }, kinds := [], alts := [], laidByText := true, laidKinds := [.data, .data, .data, .data, .sentinel, .sentinel, .pinned], laidTests := true, laidLooks := .later }
def TopFusedCardSaid : Prop := Claim7.holds Tryz.pinned (.plain (OpenSpec.ofChange topFusedSpec)) topFusedCard

/-- THE TIED CARD OF 'ulptop.TopSpan'. -/
def topSpanCard : Claim7 := { stood := { row := topSpanRow, standIns := [], harness := (true, "bf63682da57fa0f200b12c70bd86989eebb11bbeccc35387c06f985c939abbb6"), looks := true }, kinds := [], alts := [], laidByText := true, laidKinds := [.data, .data, .data, .data, .sentinel, .sentinel, .pinned], laidTests := true, laidLooks := .later }
def TopSpanCardSaid : Prop := Claim7.holds Tryz.pinned (.plain (OpenSpec.ofChange topSpanSpec)) topSpanCard

/-- THE TIED CARD OF 'ulpkeep.WantedParsed'. -/
def wantedParsedCard : Claim7 := { stood := { row := wantedParsedRow, standIns := [], harness := (true, "bf63682da57fa0f200b12c70bd86989eebb11bbeccc35387c06f985c939abbb6"), looks := true }, kinds := [], alts := [], laidByText := true, laidKinds := [.data, .data, .data, .data, .pinned], laidTests := true, laidLooks := .later }
def WantedParsedCardSaid : Prop := Claim7.holds Tryz.pinned (.plain (OpenSpec.ofChange wantedParsedSpec)) wantedParsedCard

/-- THE TIED CARD OF 'ulpkeep.WantedSigns'. -/
def wantedSignsCard : Claim7 := { stood := { row := wantedSignsRow, standIns := [], harness := (true, "bf63682da57fa0f200b12c70bd86989eebb11bbeccc35387c06f985c939abbb6"), looks := true }, kinds := [], alts := [], laidByText := true, laidKinds := [.data, .data, .data, .data, .pinned], laidTests := true, laidLooks := .later }
def WantedSignsCardSaid : Prop := Claim7.holds Tryz.pinned (.plain (OpenSpec.ofChange wantedSignsSpec)) wantedSignsCard

/-- THE TIED CARD OF 'ulpkeep.WantedWidth'. -/
def wantedWidthCard : Claim7 := { stood := { row := wantedWidthRow, standIns := [], harness := (true, "bf63682da57fa0f200b12c70bd86989eebb11bbeccc35387c06f985c939abbb6"), looks := true }, kinds := [], alts := [], laidByText := true, laidKinds := [.data, .data, .data, .data, .pinned], laidTests := true, laidLooks := .later }
def WantedWidthCardSaid : Prop := Claim7.holds Tryz.pinned (.plain (OpenSpec.ofChange wantedWidthSpec)) wantedWidthCard

/-- THE TIED CARD OF 'ulpkeep.ReadSeventeen'. -/
def readSeventeenCard : Claim7 := { stood := { row := readSeventeenRow, standIns := [], harness := (true, "bf63682da57fa0f200b12c70bd86989eebb11bbeccc35387c06f985c939abbb6"), looks := true }, kinds := [], alts := [], laidByText := true, laidKinds := [.data, .data, .data, .data, .sentinel, .sentinel, .pinned], laidTests := true, laidLooks := .later }
def ReadSeventeenCardSaid : Prop := Claim7.holds Tryz.pinned (.plain (OpenSpec.ofChange readSeventeenSpec)) readSeventeenCard

/-- THE TIED CARD OF 'ulpkeep.WantedBack'. -/
def wantedBackCard : Claim7 := { stood := { row := wantedBackRow, standIns := [], harness := (true, "bf63682da57fa0f200b12c70bd86989eebb11bbeccc35387c06f985c939abbb6"), looks := true }, kinds := [], alts := [], laidByText := true, laidKinds := [.data, .data, .data, .data, .sentinel, .sentinel, .pinned], laidTests := true, laidLooks := .later }
def WantedBackCardSaid : Prop := Claim7.holds Tryz.pinned (.plain (OpenSpec.ofChange wantedBackSpec)) wantedBackCard

/-- THE SECOND FORM's CARD OF 'ulptop.TopFused'. -/
def topFusedUptoCard : Claim7 := { stood := { row := topFusedUptoRow, standIns := [], harness := (true, "bf63682da57fa0f200b12c70bd86989eebb11bbeccc35387c06f985c939abbb6"), looks := true }, kinds := [], alts := [], laidByText := true, laidKinds := [.data, .data, .data, .data, .sentinel, .sentinel, .pinned], laidTests := true, laidLooks := .later }
def TopFusedUptoCardSaid : Prop := Claim7.holds Tryz.pinned (.plain (OpenSpec.upto topFusedSpec)) topFusedUptoCard

/-- THE SECOND FORM's CARD OF 'ulptop.TopSpan'. -/
def topSpanUptoCard : Claim7 := { stood := { row := topSpanUptoRow, standIns := [], harness := (true, "bf63682da57fa0f200b12c70bd86989eebb11bbeccc35387c06f985c939abbb6"), looks := true }, kinds := [], alts := [], laidByText := true, laidKinds := [.data, .data, .data, .data, .sentinel, .sentinel, .pinned], laidTests := true, laidLooks := .later }
def TopSpanUptoCardSaid : Prop := Claim7.holds Tryz.pinned (.plain (OpenSpec.upto topSpanSpec)) topSpanUptoCard

/-- THE SECOND FORM's CARD OF 'ulpkeep.WantedParsed'. -/
def wantedParsedUptoCard : Claim7 := { stood := { row := wantedParsedUptoRow, standIns := [], harness := (true, "bf63682da57fa0f200b12c70bd86989eebb11bbeccc35387c06f985c939abbb6"), looks := true }, kinds := [], alts := [], laidByText := true, laidKinds := [.data, .data, .data, .data, .pinned], laidTests := true, laidLooks := .later }
def WantedParsedUptoCardSaid : Prop := Claim7.holds Tryz.pinned (.plain (OpenSpec.upto wantedParsedSpec)) wantedParsedUptoCard

/-- THE SECOND FORM's CARD OF 'ulpkeep.WantedSigns'. -/
def wantedSignsUptoCard : Claim7 := { stood := { row := wantedSignsUptoRow, standIns := [], harness := (true, "bf63682da57fa0f200b12c70bd86989eebb11bbeccc35387c06f985c939abbb6"), looks := true }, kinds := [], alts := [], laidByText := true, laidKinds := [.data, .data, .data, .data, .pinned], laidTests := true, laidLooks := .later }
def WantedSignsUptoCardSaid : Prop := Claim7.holds Tryz.pinned (.plain (OpenSpec.upto wantedSignsSpec)) wantedSignsUptoCard

/-- THE SECOND FORM's CARD OF 'ulpkeep.WantedWidth'. -/
def wantedWidthUptoCard : Claim7 := { stood := { row := wantedWidthUptoRow, standIns := [], harness := (true, "bf63682da57fa0f200b12c70bd86989eebb11bbeccc35387c06f985c939abbb6"), looks := true }, kinds := [], alts := [], laidByText := true, laidKinds := [.data, .data, .data, .data, .pinned], laidTests := true, laidLooks := .later }
def WantedWidthUptoCardSaid : Prop := Claim7.holds Tryz.pinned (.plain (OpenSpec.upto wantedWidthSpec)) wantedWidthUptoCard

/-- THE SECOND FORM's CARD OF 'ulpkeep.ReadSeventeen'. -/
def readSeventeenUptoCard : Claim7 := { stood := { row := readSeventeenUptoRow, standIns := [], harness := (true, "bf63682da57fa0f200b12c70bd86989eebb11bbeccc35387c06f985c939abbb6"), looks := true }, kinds := [], alts := [], laidByText := true, laidKinds := [.data, .data, .data, .data, .sentinel, .sentinel, .pinned], laidTests := true, laidLooks := .later }
def ReadSeventeenUptoCardSaid : Prop := Claim7.holds Tryz.pinned (.plain (OpenSpec.upto readSeventeenSpec)) readSeventeenUptoCard

/-- THE SECOND FORM's CARD OF 'ulpkeep.WantedBack'. -/
def wantedBackUptoCard : Claim7 := { stood := { row := wantedBackUptoRow, standIns := [], harness := (true, "bf63682da57fa0f200b12c70bd86989eebb11bbeccc35387c06f985c939abbb6"), looks := true }, kinds := [], alts := [], laidByText := true, laidKinds := [.data, .data, .data, .data, .sentinel, .sentinel, .pinned], laidTests := true, laidLooks := .later }
def WantedBackUptoCardSaid : Prop := Claim7.holds Tryz.pinned (.plain (OpenSpec.upto wantedBackSpec)) wantedBackUptoCard
end Rows
end Go.Proofs.YtjmmgffdagcflaaGreatDoor
