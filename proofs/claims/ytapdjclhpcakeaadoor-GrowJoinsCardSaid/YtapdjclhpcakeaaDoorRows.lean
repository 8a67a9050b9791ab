/-
  NARROWER THAN 'FOR EVERY INPUT', by the rows' own cells (each row's printed sentence says how): ProdDots: laid · QuotNever: laid · QuotSelf: laid · ExactZero: laid · QuotRoot: laid · GrowSides: laid · SpanJoins: laid · SpanParts: laid · ExactSplit: laid · GrowSign: laid · ExactFast: laid · ExactProd: laid · GrowExact: laid · ExactSum: laid · QuotRest: laid · GrowJoins: laid · SpanHolds: laid · SpanMore: laid · QuotBack: laid.
  DERIVED. THE GIVEN ROWS OF THIS SEAT. 19 by the template 'for every input the law returns true; each argument reads behind the call as it read before'; 0 by the template 'total and deterministic' (their statements: YtapdjclhpcakeaaDoorTotals.lean).
  GIVEN WITH THE SEED: the statements are not yours to turn. If you find one false, say at which input.
  Laid BY PROGRAM, IN A SANDBOX (cutbox-rows.mjs): the forced cells as the released guide's own fill.sh prints them over the translation a8eed59457850112… (all of the seat's roots in one cut). By AI agents, Wed Nov 11 2026. No macro, syntax, notation, axiom, sorry.
-/
import Derived.Test.YtapdjclhpcakeaaDoorChecked
import GoSem.Claim
import GoSem.ClaimJoined
import GoSem.ClaimMapViews
import Derived.JoinedTies
import Derived.KernelRfl
namespace Go.Proofs.YtapdjclhpcakeaaDoor
/- THE CELL 'sum', in the pinned program and in every row, IS THE sha256 OF THE DUMP (.gsa) THAT YtapdjclhpcakeaaDoorProg.lean LOADS. Nothing in Lean hashes anything: it is a label: what it is worth is what the hold of that sum in a sandbox is worth. -/
noncomputable def Tryd.pinned : Pinned := { name := "ytapdjclhpcakeaadoor", sum := "a8eed59457850112c0ee6f83c9fccfafc68f791a32da11dccbe731cbec73310f", checked := Tryd.checked }
namespace Rows
def none {H : Type} : Left H := { results := [], args := [] }

/- WHAT THE LISTED PACKAGE-LEVEL VARIABLES READ AS WHEN THE CALL BEGINS. Each datum BY PROGRAM (the guide's laid-datum.mjs) off the statement by which the dump's own 'gosem.cut.vars' lays the variable. In a bare row this is a premise. The card (YtapdjclhpcakeaaDoorCards.lean) ties it to the program's text. -/
def laid_math_bits_deBruijn32tab {H : Type} : DataW H := .agg [.lit (.int .u8 0), .lit (.int .u8 1), .lit (.int .u8 28), .lit (.int .u8 2), .lit (.int .u8 29), .lit (.int .u8 14), .lit (.int .u8 24), .lit (.int .u8 3), .lit (.int .u8 30), .lit (.int .u8 22), .lit (.int .u8 20), .lit (.int .u8 15), .lit (.int .u8 25), .lit (.int .u8 17), .lit (.int .u8 4), .lit (.int .u8 8), .lit (.int .u8 31), .lit (.int .u8 27), .lit (.int .u8 13), .lit (.int .u8 23), .lit (.int .u8 21), .lit (.int .u8 19), .lit (.int .u8 16), .lit (.int .u8 7), .lit (.int .u8 26), .lit (.int .u8 12), .lit (.int .u8 18), .lit (.int .u8 6), .lit (.int .u8 11), .lit (.int .u8 5), .lit (.int .u8 10), .lit (.int .u8 9)]

/-- 'ulpkeep.ProdDots': WHATEVER THE INPUT: true; the input reads as it did. -/
def prodDotsSpec : ChangeSpec := { name := "prodDots", fn := fun _ => fun
  | [d1, d2] => { results := [.lit (.bool true)], args := [d1, d2] }
  | _ => none }
def prodDotsRow : OpenClaim := { program := "ytapdjclhpcakeaadoor", sum := "a8eed59457850112c0ee6f83c9fccfafc68f791a32da11dccbe731cbec73310f", func := "ulpwright/ulpkeep.ProdDots", spec := "prodDots", unfollowed := true, recurses := true, named := ["math/bits.deBruijn32tab"], apart := false, laid := [("math/bits.deBruijn32tab", laid_math_bits_deBruijn32tab)] }
def ProdDotsSaid : Prop := prodDotsRow.holds Tryd.pinned (OpenSpec.ofChange prodDotsSpec)

/-- ITS FALSE NEIGHBOUR: 'it returns false'. Refute it at one input. -/
def prodDotsWrong : ChangeSpec := { name := "prodDots", fn := fun _ => fun
  | [d1, d2] => { results := [.lit (.bool false)], args := [d1, d2] }
  | _ => none }
def ProdDotsWrongFalsely : Prop := prodDotsRow.holds Tryd.pinned (OpenSpec.ofChange prodDotsWrong)

/-- 'ulpkeep.QuotNever': WHATEVER THE INPUT: true; the input reads as it did. -/
def quotNeverSpec : ChangeSpec := { name := "quotNever", fn := fun _ => fun
  | [d1, d2] => { results := [.lit (.bool true)], args := [d1, d2] }
  | _ => none }
def quotNeverRow : OpenClaim := { program := "ytapdjclhpcakeaadoor", sum := "a8eed59457850112c0ee6f83c9fccfafc68f791a32da11dccbe731cbec73310f", func := "ulpwright/ulpkeep.QuotNever", spec := "quotNever", named := ["math/bits.deBruijn32tab"], apart := false, laid := [("math/bits.deBruijn32tab", laid_math_bits_deBruijn32tab)] }
def QuotNeverSaid : Prop := quotNeverRow.holds Tryd.pinned (OpenSpec.ofChange quotNeverSpec)

/-- ITS FALSE NEIGHBOUR: 'it returns false'. Refute it at one input. -/
def quotNeverWrong : ChangeSpec := { name := "quotNever", fn := fun _ => fun
  | [d1, d2] => { results := [.lit (.bool false)], args := [d1, d2] }
  | _ => none }
def QuotNeverWrongFalsely : Prop := quotNeverRow.holds Tryd.pinned (OpenSpec.ofChange quotNeverWrong)

/-- 'ulpkeep.QuotSelf': WHATEVER THE INPUT: true; the input reads as it did. -/
def quotSelfSpec : ChangeSpec := { name := "quotSelf", fn := fun _ => fun
  | [d1, d2, d3] => { results := [.lit (.bool true)], args := [d1, d2, d3] }
  | _ => none }
def quotSelfRow : OpenClaim := { program := "ytapdjclhpcakeaadoor", sum := "a8eed59457850112c0ee6f83c9fccfafc68f791a32da11dccbe731cbec73310f", func := "ulpwright/ulpkeep.QuotSelf", spec := "quotSelf", named := ["math/bits.deBruijn32tab"], apart := false, laid := [("math/bits.deBruijn32tab", laid_math_bits_deBruijn32tab)] }
def QuotSelfSaid : Prop := quotSelfRow.holds Tryd.pinned (OpenSpec.ofChange quotSelfSpec)

/-- ITS FALSE NEIGHBOUR: 'it returns false'. Refute it at one input. -/
def quotSelfWrong : ChangeSpec := { name := "quotSelf", fn := fun _ => fun
  | [d1, d2, d3] => { results := [.lit (.bool false)], args := [d1, d2, d3] }
  | _ => none }
def QuotSelfWrongFalsely : Prop := quotSelfRow.holds Tryd.pinned (OpenSpec.ofChange quotSelfWrong)

/-- 'ulpkeep.ExactZero': WHATEVER THE INPUT: true; the input reads as it did. -/
def exactZeroSpec : ChangeSpec := { name := "exactZero", fn := fun _ => fun
  | [d] => { results := [.lit (.bool true)], args := [d] }
  | _ => none }
def exactZeroRow : OpenClaim := { program := "ytapdjclhpcakeaadoor", sum := "a8eed59457850112c0ee6f83c9fccfafc68f791a32da11dccbe731cbec73310f", func := "ulpwright/ulpkeep.ExactZero", spec := "exactZero", named := ["math/bits.deBruijn32tab"], apart := false, laid := [("math/bits.deBruijn32tab", laid_math_bits_deBruijn32tab)] }
def ExactZeroSaid : Prop := exactZeroRow.holds Tryd.pinned (OpenSpec.ofChange exactZeroSpec)

/-- ITS FALSE NEIGHBOUR: 'it returns false'. Refute it at one input. -/
def exactZeroWrong : ChangeSpec := { name := "exactZero", fn := fun _ => fun
  | [d] => { results := [.lit (.bool false)], args := [d] }
  | _ => none }
def ExactZeroWrongFalsely : Prop := exactZeroRow.holds Tryd.pinned (OpenSpec.ofChange exactZeroWrong)

/-- 'ulpkeep.QuotRoot': WHATEVER THE INPUT: true; the input reads as it did. -/
def quotRootSpec : ChangeSpec := { name := "quotRoot", fn := fun _ => fun
  | [d1, d2, d3] => { results := [.lit (.bool true)], args := [d1, d2, d3] }
  | _ => none }
def quotRootRow : OpenClaim := { program := "ytapdjclhpcakeaadoor", sum := "a8eed59457850112c0ee6f83c9fccfafc68f791a32da11dccbe731cbec73310f", func := "ulpwright/ulpkeep.QuotRoot", spec := "quotRoot", named := ["math/bits.deBruijn32tab"], apart := false, laid := [("math/bits.deBruijn32tab", laid_math_bits_deBruijn32tab)] }
def QuotRootSaid : Prop := quotRootRow.holds Tryd.pinned (OpenSpec.ofChange quotRootSpec)

/-- ITS FALSE NEIGHBOUR: 'it returns false'. Refute it at one input. -/
def quotRootWrong : ChangeSpec := { name := "quotRoot", fn := fun _ => fun
  | [d1, d2, d3] => { results := [.lit (.bool false)], args := [d1, d2, d3] }
  | _ => none }
def QuotRootWrongFalsely : Prop := quotRootRow.holds Tryd.pinned (OpenSpec.ofChange quotRootWrong)

/-- 'ulpkeep.GrowSides': WHATEVER THE INPUT: true; the input reads as it did. -/
def growSidesSpec : ChangeSpec := { name := "growSides", fn := fun _ => fun
  | [d1, d2, d3, d4, d5, d6] => { results := [.lit (.bool true)], args := [d1, d2, d3, d4, d5, d6] }
  | _ => none }
def growSidesRow : OpenClaim := { program := "ytapdjclhpcakeaadoor", sum := "a8eed59457850112c0ee6f83c9fccfafc68f791a32da11dccbe731cbec73310f", func := "ulpwright/ulpkeep.GrowSides", spec := "growSides", unfollowed := true, recurses := true, named := ["math/bits.deBruijn32tab"], apart := false, laid := [("math/bits.deBruijn32tab", laid_math_bits_deBruijn32tab)] }
def GrowSidesSaid : Prop := growSidesRow.holds Tryd.pinned (OpenSpec.ofChange growSidesSpec)

/-- ITS FALSE NEIGHBOUR: 'it returns false'. Refute it at one input. -/
def growSidesWrong : ChangeSpec := { name := "growSides", fn := fun _ => fun
  | [d1, d2, d3, d4, d5, d6] => { results := [.lit (.bool false)], args := [d1, d2, d3, d4, d5, d6] }
  | _ => none }
def GrowSidesWrongFalsely : Prop := growSidesRow.holds Tryd.pinned (OpenSpec.ofChange growSidesWrong)

/-- 'ulpkeep.SpanJoins': WHATEVER THE INPUT: true; the input reads as it did. -/
def spanJoinsSpec : ChangeSpec := { name := "spanJoins", fn := fun _ => fun
  | [d1, d2, d3] => { results := [.lit (.bool true)], args := [d1, d2, d3] }
  | _ => none }
def spanJoinsRow : OpenClaim := { program := "ytapdjclhpcakeaadoor", sum := "a8eed59457850112c0ee6f83c9fccfafc68f791a32da11dccbe731cbec73310f", func := "ulpwright/ulpkeep.SpanJoins", spec := "spanJoins", unfollowed := true, recurses := true, named := ["math/bits.deBruijn32tab"], apart := false, laid := [("math/bits.deBruijn32tab", laid_math_bits_deBruijn32tab)] }
def SpanJoinsSaid : Prop := spanJoinsRow.holds Tryd.pinned (OpenSpec.ofChange spanJoinsSpec)

/-- ITS FALSE NEIGHBOUR: 'it returns false'. Refute it at one input. -/
def spanJoinsWrong : ChangeSpec := { name := "spanJoins", fn := fun _ => fun
  | [d1, d2, d3] => { results := [.lit (.bool false)], args := [d1, d2, d3] }
  | _ => none }
def SpanJoinsWrongFalsely : Prop := spanJoinsRow.holds Tryd.pinned (OpenSpec.ofChange spanJoinsWrong)

/-- 'ulpkeep.SpanParts': WHATEVER THE INPUT: true; the input reads as it did. -/
def spanPartsSpec : ChangeSpec := { name := "spanParts", fn := fun _ => fun
  | [d1, d2, d3] => { results := [.lit (.bool true)], args := [d1, d2, d3] }
  | _ => none }
def spanPartsRow : OpenClaim := { program := "ytapdjclhpcakeaadoor", sum := "a8eed59457850112c0ee6f83c9fccfafc68f791a32da11dccbe731cbec73310f", func := "ulpwright/ulpkeep.SpanParts", spec := "spanParts", unfollowed := true, recurses := true, named := ["math/bits.deBruijn32tab"], apart := false, laid := [("math/bits.deBruijn32tab", laid_math_bits_deBruijn32tab)] }
def SpanPartsSaid : Prop := spanPartsRow.holds Tryd.pinned (OpenSpec.ofChange spanPartsSpec)

/-- ITS FALSE NEIGHBOUR: 'it returns false'. Refute it at one input. -/
def spanPartsWrong : ChangeSpec := { name := "spanParts", fn := fun _ => fun
  | [d1, d2, d3] => { results := [.lit (.bool false)], args := [d1, d2, d3] }
  | _ => none }
def SpanPartsWrongFalsely : Prop := spanPartsRow.holds Tryd.pinned (OpenSpec.ofChange spanPartsWrong)

/-- 'ulpkeep.ExactSplit': WHATEVER THE INPUT: true; the input reads as it did. -/
def exactSplitSpec : ChangeSpec := { name := "exactSplit", fn := fun _ => fun
  | [d1, d2] => { results := [.lit (.bool true)], args := [d1, d2] }
  | _ => none }
def exactSplitRow : OpenClaim := { program := "ytapdjclhpcakeaadoor", sum := "a8eed59457850112c0ee6f83c9fccfafc68f791a32da11dccbe731cbec73310f", func := "ulpwright/ulpkeep.ExactSplit", spec := "exactSplit", named := ["math/bits.deBruijn32tab"], apart := false, laid := [("math/bits.deBruijn32tab", laid_math_bits_deBruijn32tab)] }
def ExactSplitSaid : Prop := exactSplitRow.holds Tryd.pinned (OpenSpec.ofChange exactSplitSpec)

/-- ITS FALSE NEIGHBOUR: 'it returns false'. Refute it at one input. -/
def exactSplitWrong : ChangeSpec := { name := "exactSplit", fn := fun _ => fun
  | [d1, d2] => { results := [.lit (.bool false)], args := [d1, d2] }
  | _ => none }
def ExactSplitWrongFalsely : Prop := exactSplitRow.holds Tryd.pinned (OpenSpec.ofChange exactSplitWrong)

/-- 'ulpkeep.GrowSign': WHATEVER THE INPUT: true; the input reads as it did. -/
def growSignSpec : ChangeSpec := { name := "growSign", fn := fun _ => fun
  | [d] => { results := [.lit (.bool true)], args := [d] }
  | _ => none }
def growSignRow : OpenClaim := { program := "ytapdjclhpcakeaadoor", sum := "a8eed59457850112c0ee6f83c9fccfafc68f791a32da11dccbe731cbec73310f", func := "ulpwright/ulpkeep.GrowSign", spec := "growSign", unfollowed := true, recurses := true, named := ["math/bits.deBruijn32tab"], apart := false, laid := [("math/bits.deBruijn32tab", laid_math_bits_deBruijn32tab)] }
def GrowSignSaid : Prop := growSignRow.holds Tryd.pinned (OpenSpec.ofChange growSignSpec)

/-- ITS FALSE NEIGHBOUR: 'it returns false'. Refute it at one input. -/
def growSignWrong : ChangeSpec := { name := "growSign", fn := fun _ => fun
  | [d] => { results := [.lit (.bool false)], args := [d] }
  | _ => none }
def GrowSignWrongFalsely : Prop := growSignRow.holds Tryd.pinned (OpenSpec.ofChange growSignWrong)

/-- 'ulpkeep.ExactFast': WHATEVER THE INPUT: true; the input reads as it did. -/
def exactFastSpec : ChangeSpec := { name := "exactFast", fn := fun _ => fun
  | [d1, d2] => { results := [.lit (.bool true)], args := [d1, d2] }
  | _ => none }
def exactFastRow : OpenClaim := { program := "ytapdjclhpcakeaadoor", sum := "a8eed59457850112c0ee6f83c9fccfafc68f791a32da11dccbe731cbec73310f", func := "ulpwright/ulpkeep.ExactFast", spec := "exactFast", named := ["math/bits.deBruijn32tab"], apart := false, laid := [("math/bits.deBruijn32tab", laid_math_bits_deBruijn32tab)] }
def ExactFastSaid : Prop := exactFastRow.holds Tryd.pinned (OpenSpec.ofChange exactFastSpec)

/-- ITS FALSE NEIGHBOUR: 'it returns false'. Refute it at one input. -/
def exactFastWrong : ChangeSpec := { name := "exactFast", fn := fun _ => fun
  | [d1, d2] => { results := [.lit (.bool false)], args := [d1, d2] }
  | _ => none }
def ExactFastWrongFalsely : Prop := exactFastRow.holds Tryd.pinned (OpenSpec.ofChange exactFastWrong)

/-- 'ulpkeep.ExactProd': WHATEVER THE INPUT: true; the input reads as it did. -/
def exactProdSpec : ChangeSpec := { name := "exactProd", fn := fun _ => fun
  | [d1, d2] => { results := [.lit (.bool true)], args := [d1, d2] }
  | _ => none }
def exactProdRow : OpenClaim := { program := "ytapdjclhpcakeaadoor", sum := "a8eed59457850112c0ee6f83c9fccfafc68f791a32da11dccbe731cbec73310f", func := "ulpwright/ulpkeep.ExactProd", spec := "exactProd", named := ["math/bits.deBruijn32tab"], apart := false, laid := [("math/bits.deBruijn32tab", laid_math_bits_deBruijn32tab)] }
def ExactProdSaid : Prop := exactProdRow.holds Tryd.pinned (OpenSpec.ofChange exactProdSpec)

/-- ITS FALSE NEIGHBOUR: 'it returns false'. Refute it at one input. -/
def exactProdWrong : ChangeSpec := { name := "exactProd", fn := fun _ => fun
  | [d1, d2] => { results := [.lit (.bool false)], args := [d1, d2] }
  | _ => none }
def ExactProdWrongFalsely : Prop := exactProdRow.holds Tryd.pinned (OpenSpec.ofChange exactProdWrong)

/-- 'ulpkeep.GrowExact': WHATEVER THE INPUT: true; the input reads as it did. -/
def growExactSpec : ChangeSpec := { name := "growExact", fn := fun _ => fun
  | [d1, d2] => { results := [.lit (.bool true)], args := [d1, d2] }
  | _ => none }
def growExactRow : OpenClaim := { program := "ytapdjclhpcakeaadoor", sum := "a8eed59457850112c0ee6f83c9fccfafc68f791a32da11dccbe731cbec73310f", func := "ulpwright/ulpkeep.GrowExact", spec := "growExact", unfollowed := true, recurses := true, named := ["math/bits.deBruijn32tab"], apart := false, laid := [("math/bits.deBruijn32tab", laid_math_bits_deBruijn32tab)] }
def GrowExactSaid : Prop := growExactRow.holds Tryd.pinned (OpenSpec.ofChange growExactSpec)

/-- ITS FALSE NEIGHBOUR: 'it returns false'. Refute it at one input. -/
def growExactWrong : ChangeSpec := { name := "growExact", fn := fun _ => fun
  | [d1, d2] => { results := [.lit (.bool false)], args := [d1, d2] }
  | _ => none }
def GrowExactWrongFalsely : Prop := growExactRow.holds Tryd.pinned (OpenSpec.ofChange growExactWrong)

/-- 'ulpkeep.ExactSum': WHATEVER THE INPUT: true; the input reads as it did. -/
def exactSumSpec : ChangeSpec := { name := "exactSum", fn := fun _ => fun
  | [d1, d2] => { results := [.lit (.bool true)], args := [d1, d2] }
  | _ => none }
def exactSumRow : OpenClaim := { program := "ytapdjclhpcakeaadoor", sum := "a8eed59457850112c0ee6f83c9fccfafc68f791a32da11dccbe731cbec73310f", func := "ulpwright/ulpkeep.ExactSum", spec := "exactSum", named := ["math/bits.deBruijn32tab"], apart := false, laid := [("math/bits.deBruijn32tab", laid_math_bits_deBruijn32tab)] }
def ExactSumSaid : Prop := exactSumRow.holds Tryd.pinned (OpenSpec.ofChange exactSumSpec)

/-- ITS FALSE NEIGHBOUR: 'it returns false'. Refute it at one input. -/
def exactSumWrong : ChangeSpec := { name := "exactSum", fn := fun _ => fun
  | [d1, d2] => { results := [.lit (.bool false)], args := [d1, d2] }
  | _ => none }
def ExactSumWrongFalsely : Prop := exactSumRow.holds Tryd.pinned (OpenSpec.ofChange exactSumWrong)

/-- 'ulpkeep.QuotRest': WHATEVER THE INPUT: true; the input reads as it did. -/
def quotRestSpec : ChangeSpec := { name := "quotRest", fn := fun _ => fun
  | [d1, d2] => { results := [.lit (.bool true)], args := [d1, d2] }
  | _ => none }
def quotRestRow : OpenClaim := { program := "ytapdjclhpcakeaadoor", sum := "a8eed59457850112c0ee6f83c9fccfafc68f791a32da11dccbe731cbec73310f", func := "ulpwright/ulpkeep.QuotRest", spec := "quotRest", named := ["math/bits.deBruijn32tab"], apart := false, laid := [("math/bits.deBruijn32tab", laid_math_bits_deBruijn32tab)] }
def QuotRestSaid : Prop := quotRestRow.holds Tryd.pinned (OpenSpec.ofChange quotRestSpec)

/-- ITS FALSE NEIGHBOUR: 'it returns false'. Refute it at one input. -/
def quotRestWrong : ChangeSpec := { name := "quotRest", fn := fun _ => fun
  | [d1, d2] => { results := [.lit (.bool false)], args := [d1, d2] }
  | _ => none }
def QuotRestWrongFalsely : Prop := quotRestRow.holds Tryd.pinned (OpenSpec.ofChange quotRestWrong)

/-- 'ulpkeep.GrowJoins': WHATEVER THE INPUT: true; the input reads as it did. -/
def growJoinsSpec : ChangeSpec := { name := "growJoins", fn := fun _ => fun
  | [d1, d2] => { results := [.lit (.bool true)], args := [d1, d2] }
  | _ => none }
def growJoinsRow : OpenClaim := { program := "ytapdjclhpcakeaadoor", sum := "a8eed59457850112c0ee6f83c9fccfafc68f791a32da11dccbe731cbec73310f", func := "ulpwright/ulpkeep.GrowJoins", spec := "growJoins", unfollowed := true, recurses := true, named := ["math/bits.deBruijn32tab"], apart := false, laid := [("math/bits.deBruijn32tab", laid_math_bits_deBruijn32tab)] }
def GrowJoinsSaid : Prop := growJoinsRow.holds Tryd.pinned (OpenSpec.ofChange growJoinsSpec)

/-- ITS FALSE NEIGHBOUR: 'it returns false'. Refute it at one input. -/
def growJoinsWrong : ChangeSpec := { name := "growJoins", fn := fun _ => fun
  | [d1, d2] => { results := [.lit (.bool false)], args := [d1, d2] }
  | _ => none }
def GrowJoinsWrongFalsely : Prop := growJoinsRow.holds Tryd.pinned (OpenSpec.ofChange growJoinsWrong)

/-- 'ulpkeep.SpanHolds': WHATEVER THE INPUT: true; the input reads as it did. -/
def spanHoldsSpec : ChangeSpec := { name := "spanHolds", fn := fun _ => fun
  | [d1, d2, d3, d4, d5] => { results := [.lit (.bool true)], args := [d1, d2, d3, d4, d5] }
  | _ => none }
def spanHoldsRow : OpenClaim := { program := "ytapdjclhpcakeaadoor", sum := "a8eed59457850112c0ee6f83c9fccfafc68f791a32da11dccbe731cbec73310f", func := "ulpwright/ulpkeep.SpanHolds", spec := "spanHolds", unfollowed := true, recurses := true, named := ["math/bits.deBruijn32tab"], apart := false, laid := [("math/bits.deBruijn32tab", laid_math_bits_deBruijn32tab)] }
def SpanHoldsSaid : Prop := spanHoldsRow.holds Tryd.pinned (OpenSpec.ofChange spanHoldsSpec)

/-- ITS FALSE NEIGHBOUR: 'it returns false'. Refute it at one input. -/
def spanHoldsWrong : ChangeSpec := { name := "spanHolds", fn := fun _ => fun
  | [d1, d2, d3, d4, d5] => { results := [.lit (.bool false)], args := [d1, d2, d3, d4, d5] }
  | _ => none }
def SpanHoldsWrongFalsely : Prop := spanHoldsRow.holds Tryd.pinned (OpenSpec.ofChange spanHoldsWrong)

/-- 'ulpkeep.SpanMore': WHATEVER THE INPUT: true; the input reads as it did. -/
def spanMoreSpec : ChangeSpec := { name := "spanMore", fn := fun _ => fun
  | [d1, d2, d3] => { results := [.lit (.bool true)], args := [d1, d2, d3] }
  | _ => none }
def spanMoreRow : OpenClaim := { program := "ytapdjclhpcakeaadoor", sum := "a8eed59457850112c0ee6f83c9fccfafc68f791a32da11dccbe731cbec73310f", func := "ulpwright/ulpkeep.SpanMore", spec := "spanMore", unfollowed := true, recurses := true, named := ["math/bits.deBruijn32tab"], apart := false, laid := [("math/bits.deBruijn32tab", laid_math_bits_deBruijn32tab)] }
def SpanMoreSaid : Prop := spanMoreRow.holds Tryd.pinned (OpenSpec.ofChange spanMoreSpec)

/-- ITS FALSE NEIGHBOUR: 'it returns false'. Refute it at one input. -/
def spanMoreWrong : ChangeSpec := { name := "spanMore", fn := fun _ => fun
  | [d1, d2, d3] => { results := [.lit (.bool false)], args := [d1, d2, d3] }
  | _ => none }
def SpanMoreWrongFalsely : Prop := spanMoreRow.holds Tryd.pinned (OpenSpec.ofChange spanMoreWrong)

/-- 'ulpkeep.QuotBack': WHATEVER THE INPUT: true; the input reads as it did. -/
def quotBackSpec : ChangeSpec := { name := "quotBack", fn := fun _ => fun
  | [d1, d2, d3] => { results := [.lit (.bool true)], args := [d1, d2, d3] }
  | _ => none }
def quotBackRow : OpenClaim := { program := "ytapdjclhpcakeaadoor", sum := "a8eed59457850112c0ee6f83c9fccfafc68f791a32da11dccbe731cbec73310f", func := "ulpwright/ulpkeep.QuotBack", spec := "quotBack", named := ["math/bits.deBruijn32tab"], apart := false, laid := [("math/bits.deBruijn32tab", laid_math_bits_deBruijn32tab)] }
def QuotBackSaid : Prop := quotBackRow.holds Tryd.pinned (OpenSpec.ofChange quotBackSpec)

/-- ITS FALSE NEIGHBOUR: 'it returns false'. Refute it at one input. -/
def quotBackWrong : ChangeSpec := { name := "quotBack", fn := fun _ => fun
  | [d1, d2, d3] => { results := [.lit (.bool false)], args := [d1, d2, d3] }
  | _ => none }
def QuotBackWrongFalsely : Prop := quotBackRow.holds Tryd.pinned (OpenSpec.ofChange quotBackWrong)

/- THE SECOND FORM. 'bulk': how many values and letters a reading holds, each counted each time it is reached (what is shared counts as often as it is met; a slice's spare places count too). A statement '..UptoSaid' is the law's where the arguments, and the package variables that the reading takes, are together of bulk at most 1048576: NARROWER than '..Said'. Prove '..Said' where nothing that the law and all that it calls make is longer than what came in: it says more and counts as full. Else prove '..UptoSaid'. A law counts once. -/
mutual
def uptoBulk {H : Type} : DataW H → Nat
  | .lit (.string bytes) => bytes.length + 1
  | .lit _ => 1
  | .nil => 1
  | .ptr d => uptoBulk d + 1
  | .slice elems spare => uptoBulkAll elems + uptoBulkAll spare + 1
  | .agg parts => uptoBulkAll parts + 1
  | .iface _ d => uptoBulk d + 1
  | .map entries => uptoBulkEntries entries + 1
  | .held _ => 1
def uptoBulkAll {H : Type} : List (DataW H) → Nat
  | [] => 0
  | d :: r => uptoBulk d + uptoBulkAll r
def uptoBulkEntries {H : Type} : List (Lit × DataW H) → Nat
  | [] => 0
  | x :: r => uptoBulkEntry x + uptoBulkEntries r
def uptoBulkEntry {H : Type} : Lit × DataW H → Nat
  | (.string bytes, d) => bytes.length + uptoBulk d + 1
  | (_, d) => uptoBulk d + 1
 end
def uptoSmall : (H : Type) → List (DataW H) → Bool := fun _ ds => decide (uptoBulkAll ds ≤ 1048576)
def OpenSpec.upto (s : _root_.Go.ChangeSpec) : _root_.Go.OpenSpec := { _root_.Go.OpenSpec.ofChange s with cond := some uptoSmall }

/-- 'ulpkeep.ProdDots', WHERE WHAT IT READS IS OF BULK AT MOST 1048576: true; the input reads as it did. -/
def prodDotsUptoRow : OpenClaim := { program := "ytapdjclhpcakeaadoor", sum := "a8eed59457850112c0ee6f83c9fccfafc68f791a32da11dccbe731cbec73310f", func := "ulpwright/ulpkeep.ProdDots", spec := "prodDots", unfollowed := true, recurses := true, named := ["math/bits.deBruijn32tab"], apart := false, laid := [("math/bits.deBruijn32tab", laid_math_bits_deBruijn32tab)], narrowed := true }
def ProdDotsUptoSaid : Prop := prodDotsUptoRow.holds Tryd.pinned (OpenSpec.upto prodDotsSpec)

/-- 'ulpkeep.QuotNever', WHERE WHAT IT READS IS OF BULK AT MOST 1048576: true; the input reads as it did. -/
def quotNeverUptoRow : OpenClaim := { program := "ytapdjclhpcakeaadoor", sum := "a8eed59457850112c0ee6f83c9fccfafc68f791a32da11dccbe731cbec73310f", func := "ulpwright/ulpkeep.QuotNever", spec := "quotNever", named := ["math/bits.deBruijn32tab"], apart := false, laid := [("math/bits.deBruijn32tab", laid_math_bits_deBruijn32tab)], narrowed := true }
def QuotNeverUptoSaid : Prop := quotNeverUptoRow.holds Tryd.pinned (OpenSpec.upto quotNeverSpec)

/-- 'ulpkeep.QuotSelf', WHERE WHAT IT READS IS OF BULK AT MOST 1048576: true; the input reads as it did. -/
def quotSelfUptoRow : OpenClaim := { program := "ytapdjclhpcakeaadoor", sum := "a8eed59457850112c0ee6f83c9fccfafc68f791a32da11dccbe731cbec73310f", func := "ulpwright/ulpkeep.QuotSelf", spec := "quotSelf", named := ["math/bits.deBruijn32tab"], apart := false, laid := [("math/bits.deBruijn32tab", laid_math_bits_deBruijn32tab)], narrowed := true }
def QuotSelfUptoSaid : Prop := quotSelfUptoRow.holds Tryd.pinned (OpenSpec.upto quotSelfSpec)

/-- 'ulpkeep.ExactZero', WHERE WHAT IT READS IS OF BULK AT MOST 1048576: true; the input reads as it did. -/
def exactZeroUptoRow : OpenClaim := { program := "ytapdjclhpcakeaadoor", sum := "a8eed59457850112c0ee6f83c9fccfafc68f791a32da11dccbe731cbec73310f", func := "ulpwright/ulpkeep.ExactZero", spec := "exactZero", named := ["math/bits.deBruijn32tab"], apart := false, laid := [("math/bits.deBruijn32tab", laid_math_bits_deBruijn32tab)], narrowed := true }
def ExactZeroUptoSaid : Prop := exactZeroUptoRow.holds Tryd.pinned (OpenSpec.upto exactZeroSpec)

/-- 'ulpkeep.QuotRoot', WHERE WHAT IT READS IS OF BULK AT MOST 1048576: true; the input reads as it did. -/
def quotRootUptoRow : OpenClaim := { program := "ytapdjclhpcakeaadoor", sum := "a8eed59457850112c0ee6f83c9fccfafc68f791a32da11dccbe731cbec73310f", func := "ulpwright/ulpkeep.QuotRoot", spec := "quotRoot", named := ["math/bits.deBruijn32tab"], apart := false, laid := [("math/bits.deBruijn32tab", laid_math_bits_deBruijn32tab)], narrowed := true }
def QuotRootUptoSaid : Prop := quotRootUptoRow.holds Tryd.pinned (OpenSpec.upto quotRootSpec)

/-- 'ulpkeep.GrowSides', WHERE WHAT IT READS IS OF BULK AT MOST 1048576: true; the input reads as it did. -/
def growSidesUptoRow : OpenClaim := { program := "ytapdjclhpcakeaadoor", sum := "a8eed59457850112c0ee6f83c9fccfafc68f791a32da11dccbe731cbec73310f", func := "ulpwright/ulpkeep.GrowSides", spec := "growSides", unfollowed := true, recurses := true, named := ["math/bits.deBruijn32tab"], apart := false, laid := [("math/bits.deBruijn32tab", laid_math_bits_deBruijn32tab)], narrowed := true }
def GrowSidesUptoSaid : Prop := growSidesUptoRow.holds Tryd.pinned (OpenSpec.upto growSidesSpec)

/-- 'ulpkeep.SpanJoins', WHERE WHAT IT READS IS OF BULK AT MOST 1048576: true; the input reads as it did. -/
def spanJoinsUptoRow : OpenClaim := { program := "ytapdjclhpcakeaadoor", sum := "a8eed59457850112c0ee6f83c9fccfafc68f791a32da11dccbe731cbec73310f", func := "ulpwright/ulpkeep.SpanJoins", spec := "spanJoins", unfollowed := true, recurses := true, named := ["math/bits.deBruijn32tab"], apart := false, laid := [("math/bits.deBruijn32tab", laid_math_bits_deBruijn32tab)], narrowed := true }
def SpanJoinsUptoSaid : Prop := spanJoinsUptoRow.holds Tryd.pinned (OpenSpec.upto spanJoinsSpec)

/-- 'ulpkeep.SpanParts', WHERE WHAT IT READS IS OF BULK AT MOST 1048576: true; the input reads as it did. -/
def spanPartsUptoRow : OpenClaim := { program := "ytapdjclhpcakeaadoor", sum := "a8eed59457850112c0ee6f83c9fccfafc68f791a32da11dccbe731cbec73310f", func := "ulpwright/ulpkeep.SpanParts", spec := "spanParts", unfollowed := true, recurses := true, named := ["math/bits.deBruijn32tab"], apart := false, laid := [("math/bits.deBruijn32tab", laid_math_bits_deBruijn32tab)], narrowed := true }
def SpanPartsUptoSaid : Prop := spanPartsUptoRow.holds Tryd.pinned (OpenSpec.upto spanPartsSpec)

/-- 'ulpkeep.ExactSplit', WHERE WHAT IT READS IS OF BULK AT MOST 1048576: true; the input reads as it did. -/
def exactSplitUptoRow : OpenClaim := { program := "ytapdjclhpcakeaadoor", sum := "a8eed59457850112c0ee6f83c9fccfafc68f791a32da11dccbe731cbec73310f", func := "ulpwright/ulpkeep.ExactSplit", spec := "exactSplit", named := ["math/bits.deBruijn32tab"], apart := false, laid := [("math/bits.deBruijn32tab", laid_math_bits_deBruijn32tab)], narrowed := true }
def ExactSplitUptoSaid : Prop := exactSplitUptoRow.holds Tryd.pinned (OpenSpec.upto exactSplitSpec)

/-- 'ulpkeep.GrowSign', WHERE WHAT IT READS IS OF BULK AT MOST 1048576: true; the input reads as it did. -/
def growSignUptoRow : OpenClaim := { program := "ytapdjclhpcakeaadoor", sum := "a8eed59457850112c0ee6f83c9fccfafc68f791a32da11dccbe731cbec73310f", func := "ulpwright/ulpkeep.GrowSign", spec := "growSign", unfollowed := true, recurses := true, named := ["math/bits.deBruijn32tab"], apart := false, laid := [("math/bits.deBruijn32tab", laid_math_bits_deBruijn32tab)], narrowed := true }
def GrowSignUptoSaid : Prop := growSignUptoRow.holds Tryd.pinned (OpenSpec.upto growSignSpec)

/-- 'ulpkeep.ExactFast', WHERE WHAT IT READS IS OF BULK AT MOST 1048576: true; the input reads as it did. -/
def exactFastUptoRow : OpenClaim := { program := "ytapdjclhpcakeaadoor", sum := "a8eed59457850112c0ee6f83c9fccfafc68f791a32da11dccbe731cbec73310f", func := "ulpwright/ulpkeep.ExactFast", spec := "exactFast", named := ["math/bits.deBruijn32tab"], apart := false, laid := [("math/bits.deBruijn32tab", laid_math_bits_deBruijn32tab)], narrowed := true }
def ExactFastUptoSaid : Prop := exactFastUptoRow.holds Tryd.pinned (OpenSpec.upto exactFastSpec)

/-- 'ulpkeep.ExactProd', WHERE WHAT IT READS IS OF BULK AT MOST 1048576: true; the input reads as it did. -/
def exactProdUptoRow : OpenClaim := { program := "ytapdjclhpcakeaadoor", sum := "a8eed59457850112c0ee6f83c9fccfafc68f791a32da11dccbe731cbec73310f", func := "ulpwright/ulpkeep.ExactProd", spec := "exactProd", named := ["math/bits.deBruijn32tab"], apart := false, laid := [("math/bits.deBruijn32tab", laid_math_bits_deBruijn32tab)], narrowed := true }
def ExactProdUptoSaid : Prop := exactProdUptoRow.holds Tryd.pinned (OpenSpec.upto exactProdSpec)

/-- 'ulpkeep.GrowExact', WHERE WHAT IT READS IS OF BULK AT MOST 1048576: true; the input reads as it did. -/
def growExactUptoRow : OpenClaim := { program := "ytapdjclhpcakeaadoor", sum := "a8eed59457850112c0ee6f83c9fccfafc68f791a32da11dccbe731cbec73310f", func := "ulpwright/ulpkeep.GrowExact", spec := "growExact", unfollowed := true, recurses := true, named := ["math/bits.deBruijn32tab"], apart := false, laid := [("math/bits.deBruijn32tab", laid_math_bits_deBruijn32tab)], narrowed := true }
def GrowExactUptoSaid : Prop := growExactUptoRow.holds Tryd.pinned (OpenSpec.upto growExactSpec)

/-- 'ulpkeep.ExactSum', WHERE WHAT IT READS IS OF BULK AT MOST 1048576: true; the input reads as it did. -/
def exactSumUptoRow : OpenClaim := { program := "ytapdjclhpcakeaadoor", sum := "a8eed59457850112c0ee6f83c9fccfafc68f791a32da11dccbe731cbec73310f", func := "ulpwright/ulpkeep.ExactSum", spec := "exactSum", named := ["math/bits.deBruijn32tab"], apart := false, laid := [("math/bits.deBruijn32tab", laid_math_bits_deBruijn32tab)], narrowed := true }
def ExactSumUptoSaid : Prop := exactSumUptoRow.holds Tryd.pinned (OpenSpec.upto exactSumSpec)

/-- 'ulpkeep.QuotRest', WHERE WHAT IT READS IS OF BULK AT MOST 1048576: true; the input reads as it did. -/
def quotRestUptoRow : OpenClaim := { program := "ytapdjclhpcakeaadoor", sum := "a8eed59457850112c0ee6f83c9fccfafc68f791a32da11dccbe731cbec73310f", func := "ulpwright/ulpkeep.QuotRest", spec := "quotRest", named := ["math/bits.deBruijn32tab"], apart := false, laid := [("math/bits.deBruijn32tab", laid_math_bits_deBruijn32tab)], narrowed := true }
def QuotRestUptoSaid : Prop := quotRestUptoRow.holds Tryd.pinned (OpenSpec.upto quotRestSpec)

/-- 'ulpkeep.GrowJoins', WHERE WHAT IT READS IS OF BULK AT MOST 1048576: true; the input reads as it did. -/
def growJoinsUptoRow : OpenClaim := { program := "ytapdjclhpcakeaadoor", sum := "a8eed59457850112c0ee6f83c9fccfafc68f791a32da11dccbe731cbec73310f", func := "ulpwright/ulpkeep.GrowJoins", spec := "growJoins", unfollowed := true, recurses := true, named := ["math/bits.deBruijn32tab"], apart := false, laid := [("math/bits.deBruijn32tab", laid_math_bits_deBruijn32tab)], narrowed := true }
def GrowJoinsUptoSaid : Prop := growJoinsUptoRow.holds Tryd.pinned (OpenSpec.upto growJoinsSpec)

/-- 'ulpkeep.SpanHolds', WHERE WHAT IT READS IS OF BULK AT MOST 1048576: true; the input reads as it did. -/
def spanHoldsUptoRow : OpenClaim := { program := "ytapdjclhpcakeaadoor", sum := "a8eed59457850112c0ee6f83c9fccfafc68f791a32da11dccbe731cbec73310f", func := "ulpwright/ulpkeep.SpanHolds", spec := "spanHolds", unfollowed := true, recurses := true, named := ["math/bits.deBruijn32tab"], apart := false, laid := [("math/bits.deBruijn32tab", laid_math_bits_deBruijn32tab)], narrowed := true }
def SpanHoldsUptoSaid : Prop := spanHoldsUptoRow.holds Tryd.pinned (OpenSpec.upto spanHoldsSpec)

/-- 'ulpkeep.SpanMore', WHERE WHAT IT READS IS OF BULK AT MOST 1048576: true; the input reads as it did. -/
def spanMoreUptoRow : OpenClaim := { program := "ytapdjclhpcakeaadoor", sum := "a8eed59457850112c0ee6f83c9fccfafc68f791a32da11dccbe731cbec73310f", func := "ulpwright/ulpkeep.SpanMore", spec := "spanMore", unfollowed := true, recurses := true, named := ["math/bits.deBruijn32tab"], apart := false, laid := [("math/bits.deBruijn32tab", laid_math_bits_deBruijn32tab)], narrowed := true }
def SpanMoreUptoSaid : Prop := spanMoreUptoRow.holds Tryd.pinned (OpenSpec.upto spanMoreSpec)

/-- 'ulpkeep.QuotBack', WHERE WHAT IT READS IS OF BULK AT MOST 1048576: true; the input reads as it did. -/
def quotBackUptoRow : OpenClaim := { program := "ytapdjclhpcakeaadoor", sum := "a8eed59457850112c0ee6f83c9fccfafc68f791a32da11dccbe731cbec73310f", func := "ulpwright/ulpkeep.QuotBack", spec := "quotBack", named := ["math/bits.deBruijn32tab"], apart := false, laid := [("math/bits.deBruijn32tab", laid_math_bits_deBruijn32tab)], narrowed := true }
def QuotBackUptoSaid : Prop := quotBackUptoRow.holds Tryd.pinned (OpenSpec.upto quotBackSpec)

end Rows
end Go.Proofs.YtapdjclhpcakeaaDoor
