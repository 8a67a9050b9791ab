/-
  DERIVED. GIVEN WITH THE SEED: THE CARDS: each row of YtapdjclhpcakeaaDoorRows.lean that lists a variable, with what it lists TIED to the program's text (the seventh form; the later family's looks); each row that meets fmt, with fmt's text TOLD by the authors' own Lean function (tested against real Go, not proved from fmt's source: count such statements apart). THE CARD IS WHAT COUNTS. Prove the row's statement (the work); the ties are given (YtapdjclhpcakeaaDoorTie.lean); close each card by the builder's one call (the guide's Derived/Test/ToyasCard.lean, 'card_holds'). Laid BY PROGRAM, IN A SANDBOX (cutbox-door.mjs). By AI agents, Wed Nov 11 2026. No macro, syntax, notation, axiom, sorry.
-/
import Derived.Test.YtapdjclhpcakeaaDoorRows
import GoSem.ClaimSeven
namespace Go.Proofs.YtapdjclhpcakeaaDoor
namespace Rows

/-- THE TIED CARD OF 'ulpkeep.ProdDots'. -/
def prodDotsCard : Claim7 := { stood := { row := prodDotsRow, standIns := [], harness := (true, "a4f8ee8b7b62380c4bd62fd554495b68dcc04e54c83e52d4871686cadc59d3ac"), looks := false }, kinds := [], alts := [], laidByText := true, laidKinds := [.data], laidTests := true, laidLooks := .later }
def ProdDotsCardSaid : Prop := Claim7.holds Tryd.pinned (.plain (OpenSpec.ofChange prodDotsSpec)) prodDotsCard

/-- THE TIED CARD OF 'ulpkeep.QuotNever'. -/
def quotNeverCard : Claim7 := { stood := { row := quotNeverRow, standIns := [], harness := (true, "a4f8ee8b7b62380c4bd62fd554495b68dcc04e54c83e52d4871686cadc59d3ac"), looks := false }, kinds := [], alts := [], laidByText := true, laidKinds := [.data], laidTests := true, laidLooks := .later }
def QuotNeverCardSaid : Prop := Claim7.holds Tryd.pinned (.plain (OpenSpec.ofChange quotNeverSpec)) quotNeverCard

/-- THE TIED CARD OF 'ulpkeep.QuotSelf'. -/
def quotSelfCard : Claim7 := { stood := { row := quotSelfRow, standIns := [], harness := (true, "a4f8ee8b7b62380c4bd62fd554495b68dcc04e54c83e52d4871686cadc59d3ac"), looks := false }, kinds := [], alts := [], laidByText := true, laidKinds := [.data], laidTests := true, laidLooks := .later }
def QuotSelfCardSaid : Prop := Claim7.holds Tryd.pinned (.plain (OpenSpec.ofChange quotSelfSpec)) quotSelfCard

/-- THE TIED CARD OF 'ulpkeep.ExactZero'. -/
def exactZeroCard : Claim7 := { stood := { row := exactZeroRow, standIns := [], harness := (true, "a4f8ee8b7b62380c4bd62fd554495b68dcc04e54c83e52d4871686cadc59d3ac"), looks := false }, kinds := [], alts := [], laidByText := true, laidKinds := [.data], laidTests := true, laidLooks := .later }
def ExactZeroCardSaid : Prop := Claim7.holds Tryd.pinned (.plain (OpenSpec.ofChange exactZeroSpec)) exactZeroCard

/-- THE TIED CARD OF 'ulpkeep.QuotRoot'. -/
def quotRootCard : Claim7 := { stood := { row := quotRootRow, standIns := [], harness := (true, "a4f8ee8b7b62380c4bd62fd554495b68dcc04e54c83e52d4871686cadc59d3ac"), looks := false }, kinds := [], alts := [], laidByText := true, laidKinds := [.data], laidTests := true, laidLooks := .later }
def QuotRootCardSaid : Prop := Claim7.holds Tryd.pinned (.plain (OpenSpec.ofChange quotRootSpec)) quotRootCard

/-- THE TIED CARD OF 'ulpkeep.GrowSides'. -/
def growSidesCard : Claim7 := { stood := { row := growSidesRow, standIns := [], harness := (true, "a4f8ee8b7b62380c4bd62fd554495b68dcc04e54c83e52d4871686cadc59d3ac"), looks := false }, kinds := [], alts := [], laidByText := true, laidKinds := [.data], laidTests := true, laidLooks := .later }
def GrowSidesCardSaid : Prop := Claim7.holds Tryd.pinned (.plain (OpenSpec.ofChange growSidesSpec)) growSidesCard

/-- THE TIED CARD OF 'ulpkeep.SpanJoins'. -/
def spanJoinsCard : Claim7 := { stood := { row := spanJoinsRow, standIns := [], harness := (true, "a4f8ee8b7b62380c4bd62fd554495b68dcc04e54c83e52d4871686cadc59d3ac"), looks := false }, kinds := [], alts := [], laidByText := true, laidKinds := [.data], laidTests := true, laidLooks := .later }
def SpanJoinsCardSaid : Prop := Claim7.holds Tryd.pinned (.plain (OpenSpec.ofChange spanJoinsSpec)) spanJoinsCard

/-- THE TIED CARD OF 'ulpkeep.SpanParts'. -/
def spanPartsCard : Claim7 := { stood := { row := spanPartsRow, standIns := [], harness := (true, "a4f8ee8b7b62380c4bd62fd554495b68dcc04e54c83e52d4871686cadc59d3ac"), looks := false }, kinds := [], alts := [], laidByText := true, laidKinds := [.data], laidTests := true, laidLooks := .later }
def SpanPartsCardSaid : Prop := Claim7.holds Tryd.pinned (.plain (OpenSpec.ofChange spanPartsSpec)) spanPartsCard

/-- THE TIED CARD OF 'ulpkeep.ExactSplit'. -/
def exactSplitCard : Claim7 := { stood := { row := exactSplitRow, standIns := [], harness := (true, "a4f8ee8b7b62380c4bd62fd554495b68dcc04e54c83e52d4871686cadc59d3ac"), looks := false }, kinds := [], alts := [], laidByText := true, laidKinds := [.data], laidTests := true, laidLooks := .later }
def ExactSplitCardSaid : Prop := Claim7.holds Tryd.pinned (.plain (OpenSpec.ofChange exactSplitSpec)) exactSplitCard

/-- THE TIED CARD OF 'ulpkeep.GrowSign'. -/
def growSignCard : Claim7 := { stood := { row := growSignRow, standIns := [], harness := (true, "a4f8ee8b7b62380c4bd62fd554495b68dcc04e54c83e52d4871686cadc59d3ac"), looks := false }, kinds := [], alts := [], laidByText := true, laidKinds := [.data], laidTests := true, laidLooks := .later }
def GrowSignCardSaid : Prop := Claim7.holds Tryd.pinned (.plain (OpenSpec.ofChange growSignSpec)) growSignCard

/-- THE TIED CARD OF 'ulpkeep.ExactFast'. -/
def exactFastCard : Claim7 := { stood := { row := exactFastRow, standIns := [], harness := (true, "a4f8ee8b7b62380c4bd62fd554495b68dcc04e54c83e52d4871686cadc59d3ac"), looks := false }, kinds := [], alts := [], laidByText := true, laidKinds := [.data], laidTests := true, laidLooks := .later }
def ExactFastCardSaid : Prop := Claim7.holds Tryd.pinned (.plain (OpenSpec.ofChange exactFastSpec)) exactFastCard

/-- THE TIED CARD OF 'ulpkeep.ExactProd'. -/
def exactProdCard : Claim7 := { stood := { row := exactProdRow, standIns := [], harness := (true, "a4f8ee8b7b62380c4bd62fd554495b68dcc04e54c83e52d4871686cadc59d3ac"), looks := false }, kinds := [], alts := [], laidByText := true, laidKinds := [.data], laidTests := true, laidLooks := .later }
def ExactProdCardSaid : Prop := Claim7.holds Tryd.pinned (.plain (OpenSpec.ofChange exactProdSpec)) exactProdCard

/-- THE TIED CARD OF 'ulpkeep.GrowExact'. -/
def growExactCard : Claim7 := { stood := { row := growExactRow, standIns := [], harness := (true, "a4f8ee8b7b62380c4bd62fd554495b68dcc04e54c83e52d4871686cadc59d3ac"), looks := false }, kinds := [], alts := [], laidByText := true, laidKinds := [.data], laidTests := true, laidLooks := .later }
def GrowExactCardSaid : Prop := Claim7.holds Tryd.pinned (.plain (OpenSpec.ofChange growExactSpec)) growExactCard

/-- THE TIED CARD OF 'ulpkeep.ExactSum'. -/
def exactSumCard : Claim7 := { stood := { row := exactSumRow, standIns := [], harness := (true, "a4f8ee8b7b62380c4bd62fd554495b68dcc04e54c83e52d4871686cadc59d3ac"), looks := false }, kinds := [], alts := [], laidByText := true, laidKinds := [.data], laidTests := true, laidLooks := .later }
def ExactSumCardSaid : Prop := Claim7.holds Tryd.pinned (.plain (OpenSpec.ofChange exactSumSpec)) exactSumCard

/-- THE TIED CARD OF 'ulpkeep.QuotRest'. -/
def quotRestCard : Claim7 := { stood := { row := quotRestRow, standIns := [], harness := (true, "a4f8ee8b7b62380c4bd62fd554495b68dcc04e54c83e52d4871686cadc59d3ac"), looks := false }, kinds := [], alts := [], laidByText := true, laidKinds := [.data], laidTests := true, laidLooks := .later }
def QuotRestCardSaid : Prop := Claim7.holds Tryd.pinned (.plain (OpenSpec.ofChange quotRestSpec)) quotRestCard

/-- THE TIED CARD OF 'ulpkeep.GrowJoins'. -/
def growJoinsCard : Claim7 := { stood := { row := growJoinsRow, standIns := [], harness := (true, "a4f8ee8b7b62380c4bd62fd554495b68dcc04e54c83e52d4871686cadc59d3ac"), looks := false }, kinds := [], alts := [], laidByText := true, laidKinds := [.data], laidTests := true, laidLooks := .later }
def GrowJoinsCardSaid : Prop := Claim7.holds Tryd.pinned (.plain (OpenSpec.ofChange growJoinsSpec)) growJoinsCard

/-- THE TIED CARD OF 'ulpkeep.SpanHolds'. -/
def spanHoldsCard : Claim7 := { stood := { row := spanHoldsRow, standIns := [], harness := (true, "a4f8ee8b7b62380c4bd62fd554495b68dcc04e54c83e52d4871686cadc59d3ac"), looks := false }, kinds := [], alts := [], laidByText := true, laidKinds := [.data], laidTests := true, laidLooks := .later }
def SpanHoldsCardSaid : Prop := Claim7.holds Tryd.pinned (.plain (OpenSpec.ofChange spanHoldsSpec)) spanHoldsCard

/-- THE TIED CARD OF 'ulpkeep.SpanMore'. -/
def spanMoreCard : Claim7 := { stood := { row := spanMoreRow, standIns := [], harness := (true, "a4f8ee8b7b62380c4bd62fd554495b68dcc04e54c83e52d4871686cadc59d3ac"), looks := false }, kinds := [], alts := [], laidByText := true, laidKinds := [.data], laidTests := true, laidLooks := .later }
def SpanMoreCardSaid : Prop := Claim7.holds Tryd.pinned (.plain (OpenSpec.ofChange spanMoreSpec)) spanMoreCard

/-- THE TIED CARD OF 'ulpkeep.QuotBack'. -/
def quotBackCard : Claim7 := { stood := { row := quotBackRow, standIns := [], harness := (true, "a4f8ee8b7b62380c4bd62fd554495b68dcc04e54c83e52d4871686cadc59d3ac"), looks := false }, kinds := [], alts := [], laidByText := true, laidKinds := [.data], laidTests := true, laidLooks := .later }
def QuotBackCardSaid : Prop := Claim7.holds Tryd.pinned (.plain (OpenSpec.ofChange quotBackSpec)) quotBackCard

/-- THE SECOND FORM's CARD OF 'ulpkeep.ProdDots'. -/
def prodDotsUptoCard : Claim7 := { stood := { row := prodDotsUptoRow, standIns := [], harness := (true, "a4f8ee8b7b62380c4bd62fd554495b68dcc04e54c83e52d4871686cadc59d3ac"), looks := false }, kinds := [], alts := [], laidByText := true, laidKinds := [.data], laidTests := true, laidLooks := .later }
def ProdDotsUptoCardSaid : Prop := Claim7.holds Tryd.pinned (.plain (OpenSpec.upto prodDotsSpec)) prodDotsUptoCard

/-- THE SECOND FORM's CARD OF 'ulpkeep.QuotNever'. -/
def quotNeverUptoCard : Claim7 := { stood := { row := quotNeverUptoRow, standIns := [], harness := (true, "a4f8ee8b7b62380c4bd62fd554495b68dcc04e54c83e52d4871686cadc59d3ac"), looks := false }, kinds := [], alts := [], laidByText := true, laidKinds := [.data], laidTests := true, laidLooks := .later }
def QuotNeverUptoCardSaid : Prop := Claim7.holds Tryd.pinned (.plain (OpenSpec.upto quotNeverSpec)) quotNeverUptoCard

/-- THE SECOND FORM's CARD OF 'ulpkeep.QuotSelf'. -/
def quotSelfUptoCard : Claim7 := { stood := { row := quotSelfUptoRow, standIns := [], harness := (true, "a4f8ee8b7b62380c4bd62fd554495b68dcc04e54c83e52d4871686cadc59d3ac"), looks := false }, kinds := [], alts := [], laidByText := true, laidKinds := [.data], laidTests := true, laidLooks := .later }
def QuotSelfUptoCardSaid : Prop := Claim7.holds Tryd.pinned (.plain (OpenSpec.upto quotSelfSpec)) quotSelfUptoCard

/-- THE SECOND FORM's CARD OF 'ulpkeep.ExactZero'. -/
def exactZeroUptoCard : Claim7 := { stood := { row := exactZeroUptoRow, standIns := [], harness := (true, "a4f8ee8b7b62380c4bd62fd554495b68dcc04e54c83e52d4871686cadc59d3ac"), looks := false }, kinds := [], alts := [], laidByText := true, laidKinds := [.data], laidTests := true, laidLooks := .later }
def ExactZeroUptoCardSaid : Prop := Claim7.holds Tryd.pinned (.plain (OpenSpec.upto exactZeroSpec)) exactZeroUptoCard

/-- THE SECOND FORM's CARD OF 'ulpkeep.QuotRoot'. -/
def quotRootUptoCard : Claim7 := { stood := { row := quotRootUptoRow, standIns := [], harness := (true, "a4f8ee8b7b62380c4bd62fd554495b68dcc04e54c83e52d4871686cadc59d3ac"), looks := false }, kinds := [], alts := [], laidByText := true, laidKinds := [.data], laidTests := true, laidLooks := .later }
def QuotRootUptoCardSaid : Prop := Claim7.holds Tryd.pinned (.plain (OpenSpec.upto quotRootSpec)) quotRootUptoCard

/-- THE SECOND FORM's CARD OF 'ulpkeep.GrowSides'. -/
def growSidesUptoCard : Claim7 := { stood := { row := growSidesUptoRow, standIns := [], harness := (true, "a4f8ee8b7b62380c4bd62fd554495b68dcc04e54c83e52d4871686cadc59d3ac"), looks := false }, kinds := [], alts := [], laidByText := true, laidKinds := [.data], laidTests := true, laidLooks := .later }
def GrowSidesUptoCardSaid : Prop := Claim7.holds Tryd.pinned (.plain (OpenSpec.upto growSidesSpec)) growSidesUptoCard

/-- THE SECOND FORM's CARD OF 'ulpkeep.SpanJoins'. -/
def spanJoinsUptoCard : Claim7 := { stood := { row := spanJoinsUptoRow, standIns := [], harness := (true, "a4f8ee8b7b62380c4bd62fd554495b68dcc04e54c83e52d4871686cadc59d3ac"), looks := false }, kinds := [], alts := [], laidByText := true, laidKinds := [.data], laidTests := true, laidLooks := .later }
def SpanJoinsUptoCardSaid : Prop := Claim7.holds Tryd.pinned (.plain (OpenSpec.upto spanJoinsSpec)) spanJoinsUptoCard

/-- THE SECOND FORM's CARD OF 'ulpkeep.SpanParts'. -/
def spanPartsUptoCard : Claim7 := { stood := { row := spanPartsUptoRow, standIns := [], harness := (true, "a4f8ee8b7b62380c4bd62fd554495b68dcc04e54c83e52d4871686cadc59d3ac"), looks := false }, kinds := [], alts := [], laidByText := true, laidKinds := [.data], laidTests := true, laidLooks := .later }
def SpanPartsUptoCardSaid : Prop := Claim7.holds Tryd.pinned (.plain (OpenSpec.upto spanPartsSpec)) spanPartsUptoCard

/-- THE SECOND FORM's CARD OF 'ulpkeep.ExactSplit'. -/
def exactSplitUptoCard : Claim7 := { stood := { row := exactSplitUptoRow, standIns := [], harness := (true, "a4f8ee8b7b62380c4bd62fd554495b68dcc04e54c83e52d4871686cadc59d3ac"), looks := false }, kinds := [], alts := [], laidByText := true, laidKinds := [.data], laidTests := true, laidLooks := .later }
def ExactSplitUptoCardSaid : Prop := Claim7.holds Tryd.pinned (.plain (OpenSpec.upto exactSplitSpec)) exactSplitUptoCard

/-- THE SECOND FORM's CARD OF 'ulpkeep.GrowSign'. -/
def growSignUptoCard : Claim7 := { stood := { row := growSignUptoRow, standIns := [], harness := (true, "a4f8ee8b7b62380c4bd62fd554495b68dcc04e54c83e52d4871686cadc59d3ac"), looks := false }, kinds := [], alts := [], laidByText := true, laidKinds := [.data], laidTests := true, laidLooks := .later }
def GrowSignUptoCardSaid : Prop := Claim7.holds Tryd.pinned (.plain (OpenSpec.upto growSignSpec)) growSignUptoCard

/-- THE SECOND FORM's CARD OF 'ulpkeep.ExactFast'. -/
def exactFastUptoCard : Claim7 := { stood := { row := exactFastUptoRow, standIns := [], harness := (true, "a4f8ee8b7b62380c4bd62fd554495b68dcc04e54c83e52d4871686cadc59d3ac"), looks := false }, kinds := [], alts := [], laidByText := true, laidKinds := [.data], laidTests := true, laidLooks := .later }
def ExactFastUptoCardSaid : Prop := Claim7.holds Tryd.pinned (.plain (OpenSpec.upto exactFastSpec)) exactFastUptoCard

/-- THE SECOND FORM's CARD OF 'ulpkeep.ExactProd'. -/
def exactProdUptoCard : Claim7 := { stood := { row := exactProdUptoRow, standIns := [], harness := (true, "a4f8ee8b7b62380c4bd62fd554495b68dcc04e54c83e52d4871686cadc59d3ac"), looks := false }, kinds := [], alts := [], laidByText := true, laidKinds := [.data], laidTests := true, laidLooks := .later }
def ExactProdUptoCardSaid : Prop := Claim7.holds Tryd.pinned (.plain (OpenSpec.upto exactProdSpec)) exactProdUptoCard

/-- THE SECOND FORM's CARD OF 'ulpkeep.GrowExact'. -/
def growExactUptoCard : Claim7 := { stood := { row := growExactUptoRow, standIns := [], harness := (true, "a4f8ee8b7b62380c4bd62fd554495b68dcc04e54c83e52d4871686cadc59d3ac"), looks := false }, kinds := [], alts := [], laidByText := true, laidKinds := [.data], laidTests := true, laidLooks := .later }
def GrowExactUptoCardSaid : Prop := Claim7.holds Tryd.pinned (.plain (OpenSpec.upto growExactSpec)) growExactUptoCard

/-- THE SECOND FORM's CARD OF 'ulpkeep.ExactSum'. -/
def exactSumUptoCard : Claim7 := { stood := { row := exactSumUptoRow, standIns := [], harness := (true, "a4f8ee8b7b62380c4bd62fd554495b68dcc04e54c83e52d4871686cadc59d3ac"), looks := false }, kinds := [], alts := [], laidByText := true, laidKinds := [.data], laidTests := true, laidLooks := .later }
def ExactSumUptoCardSaid : Prop := Claim7.holds Tryd.pinned (.plain (OpenSpec.upto exactSumSpec)) exactSumUptoCard

/-- THE SECOND FORM's CARD OF 'ulpkeep.QuotRest'. -/
def quotRestUptoCard : Claim7 := { stood := { row := quotRestUptoRow, standIns := [], harness := (true, "a4f8ee8b7b62380c4bd62fd554495b68dcc04e54c83e52d4871686cadc59d3ac"), looks := false }, kinds := [], alts := [], laidByText := true, laidKinds := [.data], laidTests := true, laidLooks := .later }
def QuotRestUptoCardSaid : Prop := Claim7.holds Tryd.pinned (.plain (OpenSpec.upto quotRestSpec)) quotRestUptoCard

/-- THE SECOND FORM's CARD OF 'ulpkeep.GrowJoins'. -/
def growJoinsUptoCard : Claim7 := { stood := { row := growJoinsUptoRow, standIns := [], harness := (true, "a4f8ee8b7b62380c4bd62fd554495b68dcc04e54c83e52d4871686cadc59d3ac"), looks := false }, kinds := [], alts := [], laidByText := true, laidKinds := [.data], laidTests := true, laidLooks := .later }
def GrowJoinsUptoCardSaid : Prop := Claim7.holds Tryd.pinned (.plain (OpenSpec.upto growJoinsSpec)) growJoinsUptoCard

/-- THE SECOND FORM's CARD OF 'ulpkeep.SpanHolds'. -/
def spanHoldsUptoCard : Claim7 := { stood := { row := spanHoldsUptoRow, standIns := [], harness := (true, "a4f8ee8b7b62380c4bd62fd554495b68dcc04e54c83e52d4871686cadc59d3ac"), looks := false }, kinds := [], alts := [], laidByText := true, laidKinds := [.data], laidTests := true, laidLooks := .later }
def SpanHoldsUptoCardSaid : Prop := Claim7.holds Tryd.pinned (.plain (OpenSpec.upto spanHoldsSpec)) spanHoldsUptoCard

/-- THE SECOND FORM's CARD OF 'ulpkeep.SpanMore'. -/
def spanMoreUptoCard : Claim7 := { stood := { row := spanMoreUptoRow, standIns := [], harness := (true, "a4f8ee8b7b62380c4bd62fd554495b68dcc04e54c83e52d4871686cadc59d3ac"), looks := false }, kinds := [], alts := [], laidByText := true, laidKinds := [.data], laidTests := true, laidLooks := .later }
def SpanMoreUptoCardSaid : Prop := Claim7.holds Tryd.pinned (.plain (OpenSpec.upto spanMoreSpec)) spanMoreUptoCard

/-- THE SECOND FORM's CARD OF 'ulpkeep.QuotBack'. -/
def quotBackUptoCard : Claim7 := { stood := { row := quotBackUptoRow, standIns := [], harness := (true, "a4f8ee8b7b62380c4bd62fd554495b68dcc04e54c83e52d4871686cadc59d3ac"), looks := false }, kinds := [], alts := [], laidByText := true, laidKinds := [.data], laidTests := true, laidLooks := .later }
def QuotBackUptoCardSaid : Prop := Claim7.holds Tryd.pinned (.plain (OpenSpec.upto quotBackSpec)) quotBackUptoCard
end Rows
end Go.Proofs.YtapdjclhpcakeaaDoor
