/-
  DERIVED. GIVEN WITH THE SEED: THE CARDS: each row of YtjmmgffdagcflaaDoorRows.lean that lists a variable, with what it lists TIED to the program's text (the seventh form; the later family's looks); each row that meets fmt, with fmt's text TOLD by the authors' own Lean function (tested against real Go, not proved from fmt's source: count such statements apart). THE CARD IS WHAT COUNTS. Prove the row's statement (the work); the ties are given (YtjmmgffdagcflaaDoorTie.lean); close each card by the builder's one call (the guide's Derived/Test/ToyasCard.lean, 'card_holds'). Laid BY PROGRAM, IN A SANDBOX (cutbox-door.mjs). By AI agents, Wed Nov 11 2026. No macro, syntax, notation, axiom, sorry.
-/
import Derived.Test.YtjmmgffdagcflaaDoorRows
import GoSem.ClaimSeven
namespace Go.Proofs.YtjmmgffdagcflaaDoor
namespace Rows

/-- THE TIED CARD OF 'ulpkeep.CoinExp'. -/
def coinExpCard : Claim7 := { stood := { row := coinExpRow, standIns := [], harness := (true, "a4e62c9ee57815188fa50e4a0f4c58a9b62af117dfb842d2db138c4fbdffaba0"), looks := true }, kinds := [], alts := [], laidByText := true, laidKinds := [.data], laidTests := true, laidLooks := .later }
def CoinExpCardSaid : Prop := Claim7.holds Tryd.pinned (.plain (OpenSpec.ofChange coinExpSpec)) coinExpCard

/-- THE TIED CARD OF 'ulpkeep.ReadForms'. -/
def readFormsCard : Claim7 := { stood := { row := readFormsRow, standIns := [], harness := (true, "a4e62c9ee57815188fa50e4a0f4c58a9b62af117dfb842d2db138c4fbdffaba0"), looks := true }, kinds := [], alts := [], laidByText := true, laidKinds := [.data, .data, .data, .data, .sentinel, .sentinel, .pinned], laidTests := true, laidLooks := .later }
def ReadFormsCardSaid : Prop := Claim7.holds Tryd.pinned (.plain (OpenSpec.ofChange readFormsSpec)) readFormsCard

/-- THE SECOND FORM's CARD OF 'ulpkeep.CoinExp'. -/
def coinExpUptoCard : Claim7 := { stood := { row := coinExpUptoRow, standIns := [], harness := (true, "a4e62c9ee57815188fa50e4a0f4c58a9b62af117dfb842d2db138c4fbdffaba0"), looks := true }, kinds := [], alts := [], laidByText := true, laidKinds := [.data], laidTests := true, laidLooks := .later }
def CoinExpUptoCardSaid : Prop := Claim7.holds Tryd.pinned (.plain (OpenSpec.upto coinExpSpec)) coinExpUptoCard

/-- THE SECOND FORM's CARD OF 'ulpkeep.ReadForms'. -/
def readFormsUptoCard : Claim7 := { stood := { row := readFormsUptoRow, standIns := [], harness := (true, "a4e62c9ee57815188fa50e4a0f4c58a9b62af117dfb842d2db138c4fbdffaba0"), looks := true }, kinds := [], alts := [], laidByText := true, laidKinds := [.data, .data, .data, .data, .sentinel, .sentinel, .pinned], laidTests := true, laidLooks := .later }
def ReadFormsUptoCardSaid : Prop := Claim7.holds Tryd.pinned (.plain (OpenSpec.upto readFormsSpec)) readFormsUptoCard
end Rows
end Go.Proofs.YtjmmgffdagcflaaDoor
