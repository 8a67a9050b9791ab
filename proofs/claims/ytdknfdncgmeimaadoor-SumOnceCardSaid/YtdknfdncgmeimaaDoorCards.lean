/-
  DERIVED. GIVEN WITH THE SEED: THE CARDS: each row of YtdknfdncgmeimaaDoorRows.lean that lists a variable, with what it lists TIED to the program's text (the seventh form; the later family's looks); each row that meets fmt, with fmt's text TOLD by the authors' own Lean function (tested against real Go, not proved from fmt's source: count such statements apart). THE CARD IS WHAT COUNTS. Prove the row's statement (the work); the ties are given (YtdknfdncgmeimaaDoorTie.lean); close each card by the builder's one call (the guide's Derived/Test/ToyasCard.lean, 'card_holds'). Laid BY PROGRAM, IN A SANDBOX (cutbox-door.mjs). By AI agents, Wed Nov 11 2026. No macro, syntax, notation, axiom, sorry.
-/
import Derived.Test.YtdknfdncgmeimaaDoorRows
import GoSem.ClaimSeven
namespace Go.Proofs.YtdknfdncgmeimaaDoor
namespace Rows

/-- THE TIED CARD OF 'ulpkeep.RoundSame'. -/
def roundSameCard : Claim7 := { stood := { row := roundSameRow, standIns := [], harness := (true, "4581961a95d7a2604251d5c31c69326413e69318065580ae6104b0a00c62f8fc"), looks := false }, kinds := [], alts := [], laidByText := true, laidKinds := [.data], laidTests := true, laidLooks := .later }
def RoundSameCardSaid : Prop := Claim7.holds Tryd.pinned (.plain (OpenSpec.ofChange roundSameSpec)) roundSameCard

/-- THE TIED CARD OF 'ulpkeep.DyadRing'. -/
def dyadRingCard : Claim7 := { stood := { row := dyadRingRow, standIns := [], harness := (true, "4581961a95d7a2604251d5c31c69326413e69318065580ae6104b0a00c62f8fc"), looks := false }, kinds := [], alts := [], laidByText := true, laidKinds := [.data], laidTests := true, laidLooks := .later }
def DyadRingCardSaid : Prop := Claim7.holds Tryd.pinned (.plain (OpenSpec.ofChange dyadRingSpec)) dyadRingCard

/-- THE TIED CARD OF 'ulpkeep.DyadOrder'. -/
def dyadOrderCard : Claim7 := { stood := { row := dyadOrderRow, standIns := [], harness := (true, "4581961a95d7a2604251d5c31c69326413e69318065580ae6104b0a00c62f8fc"), looks := false }, kinds := [], alts := [], laidByText := true, laidKinds := [.data], laidTests := true, laidLooks := .later }
def DyadOrderCardSaid : Prop := Claim7.holds Tryd.pinned (.plain (OpenSpec.ofChange dyadOrderSpec)) dyadOrderCard

/-- THE TIED CARD OF 'ulpkeep.DyadBack'. -/
def dyadBackCard : Claim7 := { stood := { row := dyadBackRow, standIns := [], harness := (true, "4581961a95d7a2604251d5c31c69326413e69318065580ae6104b0a00c62f8fc"), looks := false }, kinds := [], alts := [], laidByText := true, laidKinds := [.data], laidTests := true, laidLooks := .later }
def DyadBackCardSaid : Prop := Claim7.holds Tryd.pinned (.plain (OpenSpec.ofChange dyadBackSpec)) dyadBackCard

/-- THE TIED CARD OF 'ulpkeep.DyadForm'. -/
def dyadFormCard : Claim7 := { stood := { row := dyadFormRow, standIns := [], harness := (true, "4581961a95d7a2604251d5c31c69326413e69318065580ae6104b0a00c62f8fc"), looks := false }, kinds := [], alts := [], laidByText := true, laidKinds := [.data], laidTests := true, laidLooks := .later }
def DyadFormCardSaid : Prop := Claim7.holds Tryd.pinned (.plain (OpenSpec.ofChange dyadFormSpec)) dyadFormCard

/-- THE TIED CARD OF 'ulpkeep.WholeInts'. -/
def wholeIntsCard : Claim7 := { stood := { row := wholeIntsRow, standIns := [], harness := (true, "4581961a95d7a2604251d5c31c69326413e69318065580ae6104b0a00c62f8fc"), looks := false }, kinds := [], alts := [], laidByText := true, laidKinds := [.data], laidTests := true, laidLooks := .later }
def WholeIntsCardSaid : Prop := Claim7.holds Tryd.pinned (.plain (OpenSpec.ofChange wholeIntsSpec)) wholeIntsCard

/-- THE TIED CARD OF 'ulpkeep.SumSmall'. -/
def sumSmallCard : Claim7 := { stood := { row := sumSmallRow, standIns := [], harness := (true, "4581961a95d7a2604251d5c31c69326413e69318065580ae6104b0a00c62f8fc"), looks := false }, kinds := [], alts := [], laidByText := true, laidKinds := [.data], laidTests := true, laidLooks := .later }
def SumSmallCardSaid : Prop := Claim7.holds Tryd.pinned (.plain (OpenSpec.ofChange sumSmallSpec)) sumSmallCard

/-- THE TIED CARD OF 'ulpkeep.SumCommutes'. -/
def sumCommutesCard : Claim7 := { stood := { row := sumCommutesRow, standIns := [], harness := (true, "4581961a95d7a2604251d5c31c69326413e69318065580ae6104b0a00c62f8fc"), looks := false }, kinds := [], alts := [], laidByText := true, laidKinds := [.data], laidTests := true, laidLooks := .later }
def SumCommutesCardSaid : Prop := Claim7.holds Tryd.pinned (.plain (OpenSpec.ofChange sumCommutesSpec)) sumCommutesCard

/-- THE TIED CARD OF 'ulpkeep.WholeOrder'. -/
def wholeOrderCard : Claim7 := { stood := { row := wholeOrderRow, standIns := [], harness := (true, "4581961a95d7a2604251d5c31c69326413e69318065580ae6104b0a00c62f8fc"), looks := false }, kinds := [], alts := [], laidByText := true, laidKinds := [.data], laidTests := true, laidLooks := .later }
def WholeOrderCardSaid : Prop := Claim7.holds Tryd.pinned (.plain (OpenSpec.ofChange wholeOrderSpec)) wholeOrderCard

/-- THE TIED CARD OF 'ulpkeep.SumOrder'. -/
def sumOrderCard : Claim7 := { stood := { row := sumOrderRow, standIns := [], harness := (true, "4581961a95d7a2604251d5c31c69326413e69318065580ae6104b0a00c62f8fc"), looks := false }, kinds := [], alts := [], laidByText := true, laidKinds := [.data], laidTests := true, laidLooks := .later }
def SumOrderCardSaid : Prop := Claim7.holds Tryd.pinned (.plain (OpenSpec.ofChange sumOrderSpec)) sumOrderCard

/-- THE TIED CARD OF 'ulpkeep.RoundOrder'. -/
def roundOrderCard : Claim7 := { stood := { row := roundOrderRow, standIns := [], harness := (true, "4581961a95d7a2604251d5c31c69326413e69318065580ae6104b0a00c62f8fc"), looks := false }, kinds := [], alts := [], laidByText := true, laidKinds := [.data], laidTests := true, laidLooks := .later }
def RoundOrderCardSaid : Prop := Claim7.holds Tryd.pinned (.plain (OpenSpec.ofChange roundOrderSpec)) roundOrderCard

/-- THE TIED CARD OF 'ulpkeep.RoundNear'. -/
def roundNearCard : Claim7 := { stood := { row := roundNearRow, standIns := [], harness := (true, "4581961a95d7a2604251d5c31c69326413e69318065580ae6104b0a00c62f8fc"), looks := false }, kinds := [], alts := [], laidByText := true, laidKinds := [.data], laidTests := true, laidLooks := .later }
def RoundNearCardSaid : Prop := Claim7.holds Tryd.pinned (.plain (OpenSpec.ofChange roundNearSpec)) roundNearCard

/-- THE TIED CARD OF 'ulpkeep.RoundCutTwice'. -/
def roundCutTwiceCard : Claim7 := { stood := { row := roundCutTwiceRow, standIns := [], harness := (true, "4581961a95d7a2604251d5c31c69326413e69318065580ae6104b0a00c62f8fc"), looks := false }, kinds := [], alts := [], laidByText := true, laidKinds := [.data], laidTests := true, laidLooks := .later }
def RoundCutTwiceCardSaid : Prop := Claim7.holds Tryd.pinned (.plain (OpenSpec.ofChange roundCutTwiceSpec)) roundCutTwiceCard

/-- THE TIED CARD OF 'ulpkeep.SumOnce'. -/
def sumOnceCard : Claim7 := { stood := { row := sumOnceRow, standIns := [], harness := (true, "4581961a95d7a2604251d5c31c69326413e69318065580ae6104b0a00c62f8fc"), looks := false }, kinds := [], alts := [], laidByText := true, laidKinds := [.data], laidTests := true, laidLooks := .later }
def SumOnceCardSaid : Prop := Claim7.holds Tryd.pinned (.plain (OpenSpec.ofChange sumOnceSpec)) sumOnceCard

/-- THE TIED CARD OF 'ulpkeep.ProdCommutes'. -/
def prodCommutesCard : Claim7 := { stood := { row := prodCommutesRow, standIns := [], harness := (true, "4581961a95d7a2604251d5c31c69326413e69318065580ae6104b0a00c62f8fc"), looks := false }, kinds := [], alts := [], laidByText := true, laidKinds := [.data], laidTests := true, laidLooks := .later }
def ProdCommutesCardSaid : Prop := Claim7.holds Tryd.pinned (.plain (OpenSpec.ofChange prodCommutesSpec)) prodCommutesCard

/-- THE TIED CARD OF 'ulpkeep.ProdFused'. -/
def prodFusedCard : Claim7 := { stood := { row := prodFusedRow, standIns := [], harness := (true, "4581961a95d7a2604251d5c31c69326413e69318065580ae6104b0a00c62f8fc"), looks := false }, kinds := [], alts := [], laidByText := true, laidKinds := [.data], laidTests := true, laidLooks := .later }
def ProdFusedCardSaid : Prop := Claim7.holds Tryd.pinned (.plain (OpenSpec.ofChange prodFusedSpec)) prodFusedCard

/-- THE TIED CARD OF 'ulpkeep.ProdPowers'. -/
def prodPowersCard : Claim7 := { stood := { row := prodPowersRow, standIns := [], harness := (true, "4581961a95d7a2604251d5c31c69326413e69318065580ae6104b0a00c62f8fc"), looks := false }, kinds := [], alts := [], laidByText := true, laidKinds := [.data], laidTests := true, laidLooks := .later }
def ProdPowersCardSaid : Prop := Claim7.holds Tryd.pinned (.plain (OpenSpec.ofChange prodPowersSpec)) prodPowersCard

/-- THE TIED CARD OF 'ulpkeep.ProdOrder'. -/
def prodOrderCard : Claim7 := { stood := { row := prodOrderRow, standIns := [], harness := (true, "4581961a95d7a2604251d5c31c69326413e69318065580ae6104b0a00c62f8fc"), looks := false }, kinds := [], alts := [], laidByText := true, laidKinds := [.data], laidTests := true, laidLooks := .later }
def ProdOrderCardSaid : Prop := Claim7.holds Tryd.pinned (.plain (OpenSpec.ofChange prodOrderSpec)) prodOrderCard

/-- THE TIED CARD OF 'ulpkeep.WholeRounds'. -/
def wholeRoundsCard : Claim7 := { stood := { row := wholeRoundsRow, standIns := [], harness := (true, "4581961a95d7a2604251d5c31c69326413e69318065580ae6104b0a00c62f8fc"), looks := false }, kinds := [], alts := [], laidByText := true, laidKinds := [.data], laidTests := true, laidLooks := .later }
def WholeRoundsCardSaid : Prop := Claim7.holds Tryd.pinned (.plain (OpenSpec.ofChange wholeRoundsSpec)) wholeRoundsCard

/-- THE TIED CARD OF 'ulpkeep.SumSterbenz'. -/
def sumSterbenzCard : Claim7 := { stood := { row := sumSterbenzRow, standIns := [], harness := (true, "4581961a95d7a2604251d5c31c69326413e69318065580ae6104b0a00c62f8fc"), looks := false }, kinds := [], alts := [], laidByText := true, laidKinds := [.data], laidTests := true, laidLooks := .later }
def SumSterbenzCardSaid : Prop := Claim7.holds Tryd.pinned (.plain (OpenSpec.ofChange sumSterbenzSpec)) sumSterbenzCard

/-- THE TIED CARD OF 'ulpkeep.ProdDots'. -/
def prodDotsCard : Claim7 := { stood := { row := prodDotsRow, standIns := [], harness := (true, "4581961a95d7a2604251d5c31c69326413e69318065580ae6104b0a00c62f8fc"), looks := false }, kinds := [], alts := [], laidByText := true, laidKinds := [.data], laidTests := true, laidLooks := .later }
def ProdDotsCardSaid : Prop := Claim7.holds Tryd.pinned (.plain (OpenSpec.ofChange prodDotsSpec)) prodDotsCard

/-- THE TIED CARD OF 'ulpkeep.ProdExact'. -/
def prodExactCard : Claim7 := { stood := { row := prodExactRow, standIns := [], harness := (true, "4581961a95d7a2604251d5c31c69326413e69318065580ae6104b0a00c62f8fc"), looks := false }, kinds := [], alts := [], laidByText := true, laidKinds := [.data], laidTests := true, laidLooks := .later }
def ProdExactCardSaid : Prop := Claim7.holds Tryd.pinned (.plain (OpenSpec.ofChange prodExactSpec)) prodExactCard

/-- THE SECOND FORM's CARD OF 'ulpkeep.RoundSame'. -/
def roundSameUptoCard : Claim7 := { stood := { row := roundSameUptoRow, standIns := [], harness := (true, "4581961a95d7a2604251d5c31c69326413e69318065580ae6104b0a00c62f8fc"), looks := false }, kinds := [], alts := [], laidByText := true, laidKinds := [.data], laidTests := true, laidLooks := .later }
def RoundSameUptoCardSaid : Prop := Claim7.holds Tryd.pinned (.plain (OpenSpec.upto roundSameSpec)) roundSameUptoCard

/-- THE SECOND FORM's CARD OF 'ulpkeep.DyadRing'. -/
def dyadRingUptoCard : Claim7 := { stood := { row := dyadRingUptoRow, standIns := [], harness := (true, "4581961a95d7a2604251d5c31c69326413e69318065580ae6104b0a00c62f8fc"), looks := false }, kinds := [], alts := [], laidByText := true, laidKinds := [.data], laidTests := true, laidLooks := .later }
def DyadRingUptoCardSaid : Prop := Claim7.holds Tryd.pinned (.plain (OpenSpec.upto dyadRingSpec)) dyadRingUptoCard

/-- THE SECOND FORM's CARD OF 'ulpkeep.DyadOrder'. -/
def dyadOrderUptoCard : Claim7 := { stood := { row := dyadOrderUptoRow, standIns := [], harness := (true, "4581961a95d7a2604251d5c31c69326413e69318065580ae6104b0a00c62f8fc"), looks := false }, kinds := [], alts := [], laidByText := true, laidKinds := [.data], laidTests := true, laidLooks := .later }
def DyadOrderUptoCardSaid : Prop := Claim7.holds Tryd.pinned (.plain (OpenSpec.upto dyadOrderSpec)) dyadOrderUptoCard

/-- THE SECOND FORM's CARD OF 'ulpkeep.DyadBack'. -/
def dyadBackUptoCard : Claim7 := { stood := { row := dyadBackUptoRow, standIns := [], harness := (true, "4581961a95d7a2604251d5c31c69326413e69318065580ae6104b0a00c62f8fc"), looks := false }, kinds := [], alts := [], laidByText := true, laidKinds := [.data], laidTests := true, laidLooks := .later }
def DyadBackUptoCardSaid : Prop := Claim7.holds Tryd.pinned (.plain (OpenSpec.upto dyadBackSpec)) dyadBackUptoCard

/-- THE SECOND FORM's CARD OF 'ulpkeep.DyadForm'. -/
def dyadFormUptoCard : Claim7 := { stood := { row := dyadFormUptoRow, standIns := [], harness := (true, "4581961a95d7a2604251d5c31c69326413e69318065580ae6104b0a00c62f8fc"), looks := false }, kinds := [], alts := [], laidByText := true, laidKinds := [.data], laidTests := true, laidLooks := .later }
def DyadFormUptoCardSaid : Prop := Claim7.holds Tryd.pinned (.plain (OpenSpec.upto dyadFormSpec)) dyadFormUptoCard

/-- THE SECOND FORM's CARD OF 'ulpkeep.WholeInts'. -/
def wholeIntsUptoCard : Claim7 := { stood := { row := wholeIntsUptoRow, standIns := [], harness := (true, "4581961a95d7a2604251d5c31c69326413e69318065580ae6104b0a00c62f8fc"), looks := false }, kinds := [], alts := [], laidByText := true, laidKinds := [.data], laidTests := true, laidLooks := .later }
def WholeIntsUptoCardSaid : Prop := Claim7.holds Tryd.pinned (.plain (OpenSpec.upto wholeIntsSpec)) wholeIntsUptoCard

/-- THE SECOND FORM's CARD OF 'ulpkeep.SumSmall'. -/
def sumSmallUptoCard : Claim7 := { stood := { row := sumSmallUptoRow, standIns := [], harness := (true, "4581961a95d7a2604251d5c31c69326413e69318065580ae6104b0a00c62f8fc"), looks := false }, kinds := [], alts := [], laidByText := true, laidKinds := [.data], laidTests := true, laidLooks := .later }
def SumSmallUptoCardSaid : Prop := Claim7.holds Tryd.pinned (.plain (OpenSpec.upto sumSmallSpec)) sumSmallUptoCard

/-- THE SECOND FORM's CARD OF 'ulpkeep.SumCommutes'. -/
def sumCommutesUptoCard : Claim7 := { stood := { row := sumCommutesUptoRow, standIns := [], harness := (true, "4581961a95d7a2604251d5c31c69326413e69318065580ae6104b0a00c62f8fc"), looks := false }, kinds := [], alts := [], laidByText := true, laidKinds := [.data], laidTests := true, laidLooks := .later }
def SumCommutesUptoCardSaid : Prop := Claim7.holds Tryd.pinned (.plain (OpenSpec.upto sumCommutesSpec)) sumCommutesUptoCard

/-- THE SECOND FORM's CARD OF 'ulpkeep.WholeOrder'. -/
def wholeOrderUptoCard : Claim7 := { stood := { row := wholeOrderUptoRow, standIns := [], harness := (true, "4581961a95d7a2604251d5c31c69326413e69318065580ae6104b0a00c62f8fc"), looks := false }, kinds := [], alts := [], laidByText := true, laidKinds := [.data], laidTests := true, laidLooks := .later }
def WholeOrderUptoCardSaid : Prop := Claim7.holds Tryd.pinned (.plain (OpenSpec.upto wholeOrderSpec)) wholeOrderUptoCard

/-- THE SECOND FORM's CARD OF 'ulpkeep.SumOrder'. -/
def sumOrderUptoCard : Claim7 := { stood := { row := sumOrderUptoRow, standIns := [], harness := (true, "4581961a95d7a2604251d5c31c69326413e69318065580ae6104b0a00c62f8fc"), looks := false }, kinds := [], alts := [], laidByText := true, laidKinds := [.data], laidTests := true, laidLooks := .later }
def SumOrderUptoCardSaid : Prop := Claim7.holds Tryd.pinned (.plain (OpenSpec.upto sumOrderSpec)) sumOrderUptoCard

/-- THE SECOND FORM's CARD OF 'ulpkeep.RoundOrder'. -/
def roundOrderUptoCard : Claim7 := { stood := { row := roundOrderUptoRow, standIns := [], harness := (true, "4581961a95d7a2604251d5c31c69326413e69318065580ae6104b0a00c62f8fc"), looks := false }, kinds := [], alts := [], laidByText := true, laidKinds := [.data], laidTests := true, laidLooks := .later }
def RoundOrderUptoCardSaid : Prop := Claim7.holds Tryd.pinned (.plain (OpenSpec.upto roundOrderSpec)) roundOrderUptoCard

/-- THE SECOND FORM's CARD OF 'ulpkeep.RoundNear'. -/
def roundNearUptoCard : Claim7 := { stood := { row := roundNearUptoRow, standIns := [], harness := (true, "4581961a95d7a2604251d5c31c69326413e69318065580ae6104b0a00c62f8fc"), looks := false }, kinds := [], alts := [], laidByText := true, laidKinds := [.data], laidTests := true, laidLooks := .later }
def RoundNearUptoCardSaid : Prop := Claim7.holds Tryd.pinned (.plain (OpenSpec.upto roundNearSpec)) roundNearUptoCard

/-- THE SECOND FORM's CARD OF 'ulpkeep.RoundCutTwice'. -/
def roundCutTwiceUptoCard : Claim7 := { stood := { row := roundCutTwiceUptoRow, standIns := [], harness := (true, "4581961a95d7a2604251d5c31c69326413e69318065580ae6104b0a00c62f8fc"), looks := false }, kinds := [], alts := [], laidByText := true, laidKinds := [.data], laidTests := true, laidLooks := .later }
def RoundCutTwiceUptoCardSaid : Prop := Claim7.holds Tryd.pinned (.plain (OpenSpec.upto roundCutTwiceSpec)) roundCutTwiceUptoCard

/-- THE SECOND FORM's CARD OF 'ulpkeep.SumOnce'. -/
def sumOnceUptoCard : Claim7 := { stood := { row := sumOnceUptoRow, standIns := [], harness := (true, "4581961a95d7a2604251d5c31c69326413e69318065580ae6104b0a00c62f8fc"), looks := false }, kinds := [], alts := [], laidByText := true, laidKinds := [.data], laidTests := true, laidLooks := .later }
def SumOnceUptoCardSaid : Prop := Claim7.holds Tryd.pinned (.plain (OpenSpec.upto sumOnceSpec)) sumOnceUptoCard

/-- THE SECOND FORM's CARD OF 'ulpkeep.ProdCommutes'. -/
def prodCommutesUptoCard : Claim7 := { stood := { row := prodCommutesUptoRow, standIns := [], harness := (true, "4581961a95d7a2604251d5c31c69326413e69318065580ae6104b0a00c62f8fc"), looks := false }, kinds := [], alts := [], laidByText := true, laidKinds := [.data], laidTests := true, laidLooks := .later }
def ProdCommutesUptoCardSaid : Prop := Claim7.holds Tryd.pinned (.plain (OpenSpec.upto prodCommutesSpec)) prodCommutesUptoCard

/-- THE SECOND FORM's CARD OF 'ulpkeep.ProdFused'. -/
def prodFusedUptoCard : Claim7 := { stood := { row := prodFusedUptoRow, standIns := [], harness := (true, "4581961a95d7a2604251d5c31c69326413e69318065580ae6104b0a00c62f8fc"), looks := false }, kinds := [], alts := [], laidByText := true, laidKinds := [.data], laidTests := true, laidLooks := .later }
def ProdFusedUptoCardSaid : Prop := Claim7.holds Tryd.pinned (.plain (OpenSpec.upto prodFusedSpec)) prodFusedUptoCard

/-- THE SECOND FORM's CARD OF 'ulpkeep.ProdPowers'. -/
def prodPowersUptoCard : Claim7 := { stood := { row := prodPowersUptoRow, standIns := [], harness := (true, "4581961a95d7a2604251d5c31c69326413e69318065580ae6104b0a00c62f8fc"), looks := false }, kinds := [], alts := [], laidByText := true, laidKinds := [.data], laidTests := true, laidLooks := .later }
def ProdPowersUptoCardSaid : Prop := Claim7.holds Tryd.pinned (.plain (OpenSpec.upto prodPowersSpec)) prodPowersUptoCard

/-- THE SECOND FORM's CARD OF 'ulpkeep.ProdOrder'. -/
def prodOrderUptoCard : Claim7 := { stood := { row := prodOrderUptoRow, standIns := [], harness := (true, "4581961a95d7a2604251d5c31c69326413e69318065580ae6104b0a00c62f8fc"), looks := false }, kinds := [], alts := [], laidByText := true, laidKinds := [.data], laidTests := true, laidLooks := .later }
def ProdOrderUptoCardSaid : Prop := Claim7.holds Tryd.pinned (.plain (OpenSpec.upto prodOrderSpec)) prodOrderUptoCard

/-- THE SECOND FORM's CARD OF 'ulpkeep.WholeRounds'. -/
def wholeRoundsUptoCard : Claim7 := { stood := { row := wholeRoundsUptoRow, standIns := [], harness := (true, "4581961a95d7a2604251d5c31c69326413e69318065580ae6104b0a00c62f8fc"), looks := false }, kinds := [], alts := [], laidByText := true, laidKinds := [.data], laidTests := true, laidLooks := .later }
def WholeRoundsUptoCardSaid : Prop := Claim7.holds Tryd.pinned (.plain (OpenSpec.upto wholeRoundsSpec)) wholeRoundsUptoCard

/-- THE SECOND FORM's CARD OF 'ulpkeep.SumSterbenz'. -/
def sumSterbenzUptoCard : Claim7 := { stood := { row := sumSterbenzUptoRow, standIns := [], harness := (true, "4581961a95d7a2604251d5c31c69326413e69318065580ae6104b0a00c62f8fc"), looks := false }, kinds := [], alts := [], laidByText := true, laidKinds := [.data], laidTests := true, laidLooks := .later }
def SumSterbenzUptoCardSaid : Prop := Claim7.holds Tryd.pinned (.plain (OpenSpec.upto sumSterbenzSpec)) sumSterbenzUptoCard

/-- THE SECOND FORM's CARD OF 'ulpkeep.ProdDots'. -/
def prodDotsUptoCard : Claim7 := { stood := { row := prodDotsUptoRow, standIns := [], harness := (true, "4581961a95d7a2604251d5c31c69326413e69318065580ae6104b0a00c62f8fc"), looks := false }, kinds := [], alts := [], laidByText := true, laidKinds := [.data], laidTests := true, laidLooks := .later }
def ProdDotsUptoCardSaid : Prop := Claim7.holds Tryd.pinned (.plain (OpenSpec.upto prodDotsSpec)) prodDotsUptoCard

/-- THE SECOND FORM's CARD OF 'ulpkeep.ProdExact'. -/
def prodExactUptoCard : Claim7 := { stood := { row := prodExactUptoRow, standIns := [], harness := (true, "4581961a95d7a2604251d5c31c69326413e69318065580ae6104b0a00c62f8fc"), looks := false }, kinds := [], alts := [], laidByText := true, laidKinds := [.data], laidTests := true, laidLooks := .later }
def ProdExactUptoCardSaid : Prop := Claim7.holds Tryd.pinned (.plain (OpenSpec.upto prodExactSpec)) prodExactUptoCard
end Rows
end Go.Proofs.YtdknfdncgmeimaaDoor
