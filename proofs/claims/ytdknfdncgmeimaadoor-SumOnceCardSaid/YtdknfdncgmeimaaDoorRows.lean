/-
  NARROWER THAN 'FOR EVERY INPUT', by the rows' own cells (each row's printed sentence says how): RoundSame: laid · DyadRing: laid · DyadOrder: laid · DyadBack: laid · DyadForm: laid · WholeInts: laid · SumSmall: laid · SumCommutes: laid · WholeOrder: laid · SumOrder: laid · RoundOrder: laid · RoundNear: laid · RoundCutTwice: laid · SumOnce: laid · ProdCommutes: laid · ProdFused: laid · ProdPowers: laid · ProdOrder: laid · WholeRounds: laid · SumSterbenz: laid · ProdDots: laid · ProdExact: laid.
  DERIVED. THE GIVEN ROWS OF THIS SEAT. 22 by the template 'for every input the law returns true; each argument reads behind the call as it read before'; 0 by the template 'total and deterministic' (their statements: YtdknfdncgmeimaaDoorTotals.lean).
  GIVEN WITH THE SEED: the statements are not yours to turn. If you find one false, say at which input.
  Laid BY PROGRAM, IN A SANDBOX (cutbox-rows.mjs): the forced cells as the released guide's own fill.sh prints them over the translation 67a15c9558b61452… (all of the seat's roots in one cut). By AI agents, Wed Nov 11 2026. No macro, syntax, notation, axiom, sorry.
-/
import Derived.Test.YtdknfdncgmeimaaDoorChecked
import GoSem.Claim
import GoSem.ClaimJoined
import GoSem.ClaimMapViews
import Derived.JoinedTies
import Derived.KernelRfl
namespace Go.Proofs.YtdknfdncgmeimaaDoor
/- THE CELL 'sum', in the pinned program and in every row, IS THE sha256 OF THE DUMP (.gsa) THAT YtdknfdncgmeimaaDoorProg.lean LOADS. Nothing in Lean hashes anything: it is a label: what it is worth is what the hold of that sum in a sandbox is worth. -/
noncomputable def Tryd.pinned : Pinned := { name := "ytdknfdncgmeimaadoor", sum := "67a15c9558b614523ee489a6b1218294c0997e0117437b3599f5102140f41d3b", checked := Tryd.checked }
namespace Rows
def none {H : Type} : Left H := { results := [], args := [] }

/- WHAT THE LISTED PACKAGE-LEVEL VARIABLES READ AS WHEN THE CALL BEGINS. Each datum BY PROGRAM (the guide's laid-datum.mjs) off the statement by which the dump's own 'gosem.cut.vars' lays the variable. In a bare row this is a premise. The card (YtdknfdncgmeimaaDoorCards.lean) ties it to the program's text. -/
def laid_math_bits_deBruijn32tab {H : Type} : DataW H := .agg [.lit (.int .u8 0), .lit (.int .u8 1), .lit (.int .u8 28), .lit (.int .u8 2), .lit (.int .u8 29), .lit (.int .u8 14), .lit (.int .u8 24), .lit (.int .u8 3), .lit (.int .u8 30), .lit (.int .u8 22), .lit (.int .u8 20), .lit (.int .u8 15), .lit (.int .u8 25), .lit (.int .u8 17), .lit (.int .u8 4), .lit (.int .u8 8), .lit (.int .u8 31), .lit (.int .u8 27), .lit (.int .u8 13), .lit (.int .u8 23), .lit (.int .u8 21), .lit (.int .u8 19), .lit (.int .u8 16), .lit (.int .u8 7), .lit (.int .u8 26), .lit (.int .u8 12), .lit (.int .u8 18), .lit (.int .u8 6), .lit (.int .u8 11), .lit (.int .u8 5), .lit (.int .u8 10), .lit (.int .u8 9)]

/-- 'ulpkeep.RoundSame': WHATEVER THE INPUT: true; the input reads as it did. -/
def roundSameSpec : ChangeSpec := { name := "roundSame", fn := fun _ => fun
  | [d1, d2] => { results := [.lit (.bool true)], args := [d1, d2] }
  | _ => none }
def roundSameRow : OpenClaim := { program := "ytdknfdncgmeimaadoor", sum := "67a15c9558b614523ee489a6b1218294c0997e0117437b3599f5102140f41d3b", func := "ulpwright/ulpkeep.RoundSame", spec := "roundSame", named := ["math/bits.deBruijn32tab"], apart := false, laid := [("math/bits.deBruijn32tab", laid_math_bits_deBruijn32tab)] }
def RoundSameSaid : Prop := roundSameRow.holds Tryd.pinned (OpenSpec.ofChange roundSameSpec)

/-- ITS FALSE NEIGHBOUR: 'it returns false'. Refute it at one input. -/
def roundSameWrong : ChangeSpec := { name := "roundSame", fn := fun _ => fun
  | [d1, d2] => { results := [.lit (.bool false)], args := [d1, d2] }
  | _ => none }
def RoundSameWrongFalsely : Prop := roundSameRow.holds Tryd.pinned (OpenSpec.ofChange roundSameWrong)

/-- 'ulpkeep.DyadRing': WHATEVER THE INPUT: true; the input reads as it did. -/
def dyadRingSpec : ChangeSpec := { name := "dyadRing", fn := fun _ => fun
  | [d1, d2, d3] => { results := [.lit (.bool true)], args := [d1, d2, d3] }
  | _ => none }
def dyadRingRow : OpenClaim := { program := "ytdknfdncgmeimaadoor", sum := "67a15c9558b614523ee489a6b1218294c0997e0117437b3599f5102140f41d3b", func := "ulpwright/ulpkeep.DyadRing", spec := "dyadRing", named := ["math/bits.deBruijn32tab"], apart := false, laid := [("math/bits.deBruijn32tab", laid_math_bits_deBruijn32tab)] }
def DyadRingSaid : Prop := dyadRingRow.holds Tryd.pinned (OpenSpec.ofChange dyadRingSpec)

/-- ITS FALSE NEIGHBOUR: 'it returns false'. Refute it at one input. -/
def dyadRingWrong : ChangeSpec := { name := "dyadRing", fn := fun _ => fun
  | [d1, d2, d3] => { results := [.lit (.bool false)], args := [d1, d2, d3] }
  | _ => none }
def DyadRingWrongFalsely : Prop := dyadRingRow.holds Tryd.pinned (OpenSpec.ofChange dyadRingWrong)

/-- 'ulpkeep.DyadOrder': WHATEVER THE INPUT: true; the input reads as it did. -/
def dyadOrderSpec : ChangeSpec := { name := "dyadOrder", fn := fun _ => fun
  | [d1, d2, d3] => { results := [.lit (.bool true)], args := [d1, d2, d3] }
  | _ => none }
def dyadOrderRow : OpenClaim := { program := "ytdknfdncgmeimaadoor", sum := "67a15c9558b614523ee489a6b1218294c0997e0117437b3599f5102140f41d3b", func := "ulpwright/ulpkeep.DyadOrder", spec := "dyadOrder", named := ["math/bits.deBruijn32tab"], apart := false, laid := [("math/bits.deBruijn32tab", laid_math_bits_deBruijn32tab)] }
def DyadOrderSaid : Prop := dyadOrderRow.holds Tryd.pinned (OpenSpec.ofChange dyadOrderSpec)

/-- ITS FALSE NEIGHBOUR: 'it returns false'. Refute it at one input. -/
def dyadOrderWrong : ChangeSpec := { name := "dyadOrder", fn := fun _ => fun
  | [d1, d2, d3] => { results := [.lit (.bool false)], args := [d1, d2, d3] }
  | _ => none }
def DyadOrderWrongFalsely : Prop := dyadOrderRow.holds Tryd.pinned (OpenSpec.ofChange dyadOrderWrong)

/-- 'ulpkeep.DyadBack': WHATEVER THE INPUT: true; the input reads as it did. -/
def dyadBackSpec : ChangeSpec := { name := "dyadBack", fn := fun _ => fun
  | [d1, d2, d3] => { results := [.lit (.bool true)], args := [d1, d2, d3] }
  | _ => none }
def dyadBackRow : OpenClaim := { program := "ytdknfdncgmeimaadoor", sum := "67a15c9558b614523ee489a6b1218294c0997e0117437b3599f5102140f41d3b", func := "ulpwright/ulpkeep.DyadBack", spec := "dyadBack", named := ["math/bits.deBruijn32tab"], apart := false, laid := [("math/bits.deBruijn32tab", laid_math_bits_deBruijn32tab)] }
def DyadBackSaid : Prop := dyadBackRow.holds Tryd.pinned (OpenSpec.ofChange dyadBackSpec)

/-- ITS FALSE NEIGHBOUR: 'it returns false'. Refute it at one input. -/
def dyadBackWrong : ChangeSpec := { name := "dyadBack", fn := fun _ => fun
  | [d1, d2, d3] => { results := [.lit (.bool false)], args := [d1, d2, d3] }
  | _ => none }
def DyadBackWrongFalsely : Prop := dyadBackRow.holds Tryd.pinned (OpenSpec.ofChange dyadBackWrong)

/-- 'ulpkeep.DyadForm': WHATEVER THE INPUT: true; the input reads as it did. -/
def dyadFormSpec : ChangeSpec := { name := "dyadForm", fn := fun _ => fun
  | [d1, d2, d3] => { results := [.lit (.bool true)], args := [d1, d2, d3] }
  | _ => none }
def dyadFormRow : OpenClaim := { program := "ytdknfdncgmeimaadoor", sum := "67a15c9558b614523ee489a6b1218294c0997e0117437b3599f5102140f41d3b", func := "ulpwright/ulpkeep.DyadForm", spec := "dyadForm", named := ["math/bits.deBruijn32tab"], apart := false, laid := [("math/bits.deBruijn32tab", laid_math_bits_deBruijn32tab)] }
def DyadFormSaid : Prop := dyadFormRow.holds Tryd.pinned (OpenSpec.ofChange dyadFormSpec)

/-- ITS FALSE NEIGHBOUR: 'it returns false'. Refute it at one input. -/
def dyadFormWrong : ChangeSpec := { name := "dyadForm", fn := fun _ => fun
  | [d1, d2, d3] => { results := [.lit (.bool false)], args := [d1, d2, d3] }
  | _ => none }
def DyadFormWrongFalsely : Prop := dyadFormRow.holds Tryd.pinned (OpenSpec.ofChange dyadFormWrong)

/-- 'ulpkeep.WholeInts': WHATEVER THE INPUT: true; the input reads as it did. -/
def wholeIntsSpec : ChangeSpec := { name := "wholeInts", fn := fun _ => fun
  | [d1, d2, d3] => { results := [.lit (.bool true)], args := [d1, d2, d3] }
  | _ => none }
def wholeIntsRow : OpenClaim := { program := "ytdknfdncgmeimaadoor", sum := "67a15c9558b614523ee489a6b1218294c0997e0117437b3599f5102140f41d3b", func := "ulpwright/ulpkeep.WholeInts", spec := "wholeInts", named := ["math/bits.deBruijn32tab"], apart := false, laid := [("math/bits.deBruijn32tab", laid_math_bits_deBruijn32tab)] }
def WholeIntsSaid : Prop := wholeIntsRow.holds Tryd.pinned (OpenSpec.ofChange wholeIntsSpec)

/-- ITS FALSE NEIGHBOUR: 'it returns false'. Refute it at one input. -/
def wholeIntsWrong : ChangeSpec := { name := "wholeInts", fn := fun _ => fun
  | [d1, d2, d3] => { results := [.lit (.bool false)], args := [d1, d2, d3] }
  | _ => none }
def WholeIntsWrongFalsely : Prop := wholeIntsRow.holds Tryd.pinned (OpenSpec.ofChange wholeIntsWrong)

/-- 'ulpkeep.SumSmall': WHATEVER THE INPUT: true; the input reads as it did. -/
def sumSmallSpec : ChangeSpec := { name := "sumSmall", fn := fun _ => fun
  | [d1, d2, d3] => { results := [.lit (.bool true)], args := [d1, d2, d3] }
  | _ => none }
def sumSmallRow : OpenClaim := { program := "ytdknfdncgmeimaadoor", sum := "67a15c9558b614523ee489a6b1218294c0997e0117437b3599f5102140f41d3b", func := "ulpwright/ulpkeep.SumSmall", spec := "sumSmall", named := ["math/bits.deBruijn32tab"], apart := false, laid := [("math/bits.deBruijn32tab", laid_math_bits_deBruijn32tab)] }
def SumSmallSaid : Prop := sumSmallRow.holds Tryd.pinned (OpenSpec.ofChange sumSmallSpec)

/-- ITS FALSE NEIGHBOUR: 'it returns false'. Refute it at one input. -/
def sumSmallWrong : ChangeSpec := { name := "sumSmall", fn := fun _ => fun
  | [d1, d2, d3] => { results := [.lit (.bool false)], args := [d1, d2, d3] }
  | _ => none }
def SumSmallWrongFalsely : Prop := sumSmallRow.holds Tryd.pinned (OpenSpec.ofChange sumSmallWrong)

/-- 'ulpkeep.SumCommutes': WHATEVER THE INPUT: true; the input reads as it did. -/
def sumCommutesSpec : ChangeSpec := { name := "sumCommutes", fn := fun _ => fun
  | [d1, d2, d3] => { results := [.lit (.bool true)], args := [d1, d2, d3] }
  | _ => none }
def sumCommutesRow : OpenClaim := { program := "ytdknfdncgmeimaadoor", sum := "67a15c9558b614523ee489a6b1218294c0997e0117437b3599f5102140f41d3b", func := "ulpwright/ulpkeep.SumCommutes", spec := "sumCommutes", named := ["math/bits.deBruijn32tab"], apart := false, laid := [("math/bits.deBruijn32tab", laid_math_bits_deBruijn32tab)] }
def SumCommutesSaid : Prop := sumCommutesRow.holds Tryd.pinned (OpenSpec.ofChange sumCommutesSpec)

/-- ITS FALSE NEIGHBOUR: 'it returns false'. Refute it at one input. -/
def sumCommutesWrong : ChangeSpec := { name := "sumCommutes", fn := fun _ => fun
  | [d1, d2, d3] => { results := [.lit (.bool false)], args := [d1, d2, d3] }
  | _ => none }
def SumCommutesWrongFalsely : Prop := sumCommutesRow.holds Tryd.pinned (OpenSpec.ofChange sumCommutesWrong)

/-- 'ulpkeep.WholeOrder': WHATEVER THE INPUT: true; the input reads as it did. -/
def wholeOrderSpec : ChangeSpec := { name := "wholeOrder", fn := fun _ => fun
  | [d1, d2, d3] => { results := [.lit (.bool true)], args := [d1, d2, d3] }
  | _ => none }
def wholeOrderRow : OpenClaim := { program := "ytdknfdncgmeimaadoor", sum := "67a15c9558b614523ee489a6b1218294c0997e0117437b3599f5102140f41d3b", func := "ulpwright/ulpkeep.WholeOrder", spec := "wholeOrder", named := ["math/bits.deBruijn32tab"], apart := false, laid := [("math/bits.deBruijn32tab", laid_math_bits_deBruijn32tab)] }
def WholeOrderSaid : Prop := wholeOrderRow.holds Tryd.pinned (OpenSpec.ofChange wholeOrderSpec)

/-- ITS FALSE NEIGHBOUR: 'it returns false'. Refute it at one input. -/
def wholeOrderWrong : ChangeSpec := { name := "wholeOrder", fn := fun _ => fun
  | [d1, d2, d3] => { results := [.lit (.bool false)], args := [d1, d2, d3] }
  | _ => none }
def WholeOrderWrongFalsely : Prop := wholeOrderRow.holds Tryd.pinned (OpenSpec.ofChange wholeOrderWrong)

/-- 'ulpkeep.SumOrder': WHATEVER THE INPUT: true; the input reads as it did. -/
def sumOrderSpec : ChangeSpec := { name := "sumOrder", fn := fun _ => fun
  | [d1, d2, d3, d4] => { results := [.lit (.bool true)], args := [d1, d2, d3, d4] }
  | _ => none }
def sumOrderRow : OpenClaim := { program := "ytdknfdncgmeimaadoor", sum := "67a15c9558b614523ee489a6b1218294c0997e0117437b3599f5102140f41d3b", func := "ulpwright/ulpkeep.SumOrder", spec := "sumOrder", named := ["math/bits.deBruijn32tab"], apart := false, laid := [("math/bits.deBruijn32tab", laid_math_bits_deBruijn32tab)] }
def SumOrderSaid : Prop := sumOrderRow.holds Tryd.pinned (OpenSpec.ofChange sumOrderSpec)

/-- ITS FALSE NEIGHBOUR: 'it returns false'. Refute it at one input. -/
def sumOrderWrong : ChangeSpec := { name := "sumOrder", fn := fun _ => fun
  | [d1, d2, d3, d4] => { results := [.lit (.bool false)], args := [d1, d2, d3, d4] }
  | _ => none }
def SumOrderWrongFalsely : Prop := sumOrderRow.holds Tryd.pinned (OpenSpec.ofChange sumOrderWrong)

/-- 'ulpkeep.RoundOrder': WHATEVER THE INPUT: true; the input reads as it did. -/
def roundOrderSpec : ChangeSpec := { name := "roundOrder", fn := fun _ => fun
  | [d1, d2, d3] => { results := [.lit (.bool true)], args := [d1, d2, d3] }
  | _ => none }
def roundOrderRow : OpenClaim := { program := "ytdknfdncgmeimaadoor", sum := "67a15c9558b614523ee489a6b1218294c0997e0117437b3599f5102140f41d3b", func := "ulpwright/ulpkeep.RoundOrder", spec := "roundOrder", named := ["math/bits.deBruijn32tab"], apart := false, laid := [("math/bits.deBruijn32tab", laid_math_bits_deBruijn32tab)] }
def RoundOrderSaid : Prop := roundOrderRow.holds Tryd.pinned (OpenSpec.ofChange roundOrderSpec)

/-- ITS FALSE NEIGHBOUR: 'it returns false'. Refute it at one input. -/
def roundOrderWrong : ChangeSpec := { name := "roundOrder", fn := fun _ => fun
  | [d1, d2, d3] => { results := [.lit (.bool false)], args := [d1, d2, d3] }
  | _ => none }
def RoundOrderWrongFalsely : Prop := roundOrderRow.holds Tryd.pinned (OpenSpec.ofChange roundOrderWrong)

/-- 'ulpkeep.RoundNear': WHATEVER THE INPUT: true; the input reads as it did. -/
def roundNearSpec : ChangeSpec := { name := "roundNear", fn := fun _ => fun
  | [d1, d2, d3] => { results := [.lit (.bool true)], args := [d1, d2, d3] }
  | _ => none }
def roundNearRow : OpenClaim := { program := "ytdknfdncgmeimaadoor", sum := "67a15c9558b614523ee489a6b1218294c0997e0117437b3599f5102140f41d3b", func := "ulpwright/ulpkeep.RoundNear", spec := "roundNear", named := ["math/bits.deBruijn32tab"], apart := false, laid := [("math/bits.deBruijn32tab", laid_math_bits_deBruijn32tab)] }
def RoundNearSaid : Prop := roundNearRow.holds Tryd.pinned (OpenSpec.ofChange roundNearSpec)

/-- ITS FALSE NEIGHBOUR: 'it returns false'. Refute it at one input. -/
def roundNearWrong : ChangeSpec := { name := "roundNear", fn := fun _ => fun
  | [d1, d2, d3] => { results := [.lit (.bool false)], args := [d1, d2, d3] }
  | _ => none }
def RoundNearWrongFalsely : Prop := roundNearRow.holds Tryd.pinned (OpenSpec.ofChange roundNearWrong)

/-- 'ulpkeep.RoundCutTwice': WHATEVER THE INPUT: true; the input reads as it did. -/
def roundCutTwiceSpec : ChangeSpec := { name := "roundCutTwice", fn := fun _ => fun
  | [d1, d2, d3, d4] => { results := [.lit (.bool true)], args := [d1, d2, d3, d4] }
  | _ => none }
def roundCutTwiceRow : OpenClaim := { program := "ytdknfdncgmeimaadoor", sum := "67a15c9558b614523ee489a6b1218294c0997e0117437b3599f5102140f41d3b", func := "ulpwright/ulpkeep.RoundCutTwice", spec := "roundCutTwice", named := ["math/bits.deBruijn32tab"], apart := false, laid := [("math/bits.deBruijn32tab", laid_math_bits_deBruijn32tab)] }
def RoundCutTwiceSaid : Prop := roundCutTwiceRow.holds Tryd.pinned (OpenSpec.ofChange roundCutTwiceSpec)

/-- ITS FALSE NEIGHBOUR: 'it returns false'. Refute it at one input. -/
def roundCutTwiceWrong : ChangeSpec := { name := "roundCutTwice", fn := fun _ => fun
  | [d1, d2, d3, d4] => { results := [.lit (.bool false)], args := [d1, d2, d3, d4] }
  | _ => none }
def RoundCutTwiceWrongFalsely : Prop := roundCutTwiceRow.holds Tryd.pinned (OpenSpec.ofChange roundCutTwiceWrong)

/-- 'ulpkeep.SumOnce': WHATEVER THE INPUT: true; the input reads as it did. -/
def sumOnceSpec : ChangeSpec := { name := "sumOnce", fn := fun _ => fun
  | [d1, d2, d3] => { results := [.lit (.bool true)], args := [d1, d2, d3] }
  | _ => none }
def sumOnceRow : OpenClaim := { program := "ytdknfdncgmeimaadoor", sum := "67a15c9558b614523ee489a6b1218294c0997e0117437b3599f5102140f41d3b", func := "ulpwright/ulpkeep.SumOnce", spec := "sumOnce", named := ["math/bits.deBruijn32tab"], apart := false, laid := [("math/bits.deBruijn32tab", laid_math_bits_deBruijn32tab)] }
def SumOnceSaid : Prop := sumOnceRow.holds Tryd.pinned (OpenSpec.ofChange sumOnceSpec)

/-- ITS FALSE NEIGHBOUR: 'it returns false'. Refute it at one input. -/
def sumOnceWrong : ChangeSpec := { name := "sumOnce", fn := fun _ => fun
  | [d1, d2, d3] => { results := [.lit (.bool false)], args := [d1, d2, d3] }
  | _ => none }
def SumOnceWrongFalsely : Prop := sumOnceRow.holds Tryd.pinned (OpenSpec.ofChange sumOnceWrong)

/-- 'ulpkeep.ProdCommutes': WHATEVER THE INPUT: true; the input reads as it did. -/
def prodCommutesSpec : ChangeSpec := { name := "prodCommutes", fn := fun _ => fun
  | [d1, d2, d3] => { results := [.lit (.bool true)], args := [d1, d2, d3] }
  | _ => none }
def prodCommutesRow : OpenClaim := { program := "ytdknfdncgmeimaadoor", sum := "67a15c9558b614523ee489a6b1218294c0997e0117437b3599f5102140f41d3b", func := "ulpwright/ulpkeep.ProdCommutes", spec := "prodCommutes", named := ["math/bits.deBruijn32tab"], apart := false, laid := [("math/bits.deBruijn32tab", laid_math_bits_deBruijn32tab)] }
def ProdCommutesSaid : Prop := prodCommutesRow.holds Tryd.pinned (OpenSpec.ofChange prodCommutesSpec)

/-- ITS FALSE NEIGHBOUR: 'it returns false'. Refute it at one input. -/
def prodCommutesWrong : ChangeSpec := { name := "prodCommutes", fn := fun _ => fun
  | [d1, d2, d3] => { results := [.lit (.bool false)], args := [d1, d2, d3] }
  | _ => none }
def ProdCommutesWrongFalsely : Prop := prodCommutesRow.holds Tryd.pinned (OpenSpec.ofChange prodCommutesWrong)

/-- 'ulpkeep.ProdFused': WHATEVER THE INPUT: true; the input reads as it did. -/
def prodFusedSpec : ChangeSpec := { name := "prodFused", fn := fun _ => fun
  | [d1, d2, d3, d4] => { results := [.lit (.bool true)], args := [d1, d2, d3, d4] }
  | _ => none }
def prodFusedRow : OpenClaim := { program := "ytdknfdncgmeimaadoor", sum := "67a15c9558b614523ee489a6b1218294c0997e0117437b3599f5102140f41d3b", func := "ulpwright/ulpkeep.ProdFused", spec := "prodFused", named := ["math/bits.deBruijn32tab"], apart := false, laid := [("math/bits.deBruijn32tab", laid_math_bits_deBruijn32tab)] }
def ProdFusedSaid : Prop := prodFusedRow.holds Tryd.pinned (OpenSpec.ofChange prodFusedSpec)

/-- ITS FALSE NEIGHBOUR: 'it returns false'. Refute it at one input. -/
def prodFusedWrong : ChangeSpec := { name := "prodFused", fn := fun _ => fun
  | [d1, d2, d3, d4] => { results := [.lit (.bool false)], args := [d1, d2, d3, d4] }
  | _ => none }
def ProdFusedWrongFalsely : Prop := prodFusedRow.holds Tryd.pinned (OpenSpec.ofChange prodFusedWrong)

/-- 'ulpkeep.ProdPowers': WHATEVER THE INPUT: true; the input reads as it did. -/
def prodPowersSpec : ChangeSpec := { name := "prodPowers", fn := fun _ => fun
  | [d1, d2, d3] => { results := [.lit (.bool true)], args := [d1, d2, d3] }
  | _ => none }
def prodPowersRow : OpenClaim := { program := "ytdknfdncgmeimaadoor", sum := "67a15c9558b614523ee489a6b1218294c0997e0117437b3599f5102140f41d3b", func := "ulpwright/ulpkeep.ProdPowers", spec := "prodPowers", named := ["math/bits.deBruijn32tab"], apart := false, laid := [("math/bits.deBruijn32tab", laid_math_bits_deBruijn32tab)] }
def ProdPowersSaid : Prop := prodPowersRow.holds Tryd.pinned (OpenSpec.ofChange prodPowersSpec)

/-- ITS FALSE NEIGHBOUR: 'it returns false'. Refute it at one input. -/
def prodPowersWrong : ChangeSpec := { name := "prodPowers", fn := fun _ => fun
  | [d1, d2, d3] => { results := [.lit (.bool false)], args := [d1, d2, d3] }
  | _ => none }
def ProdPowersWrongFalsely : Prop := prodPowersRow.holds Tryd.pinned (OpenSpec.ofChange prodPowersWrong)

/-- 'ulpkeep.ProdOrder': WHATEVER THE INPUT: true; the input reads as it did. -/
def prodOrderSpec : ChangeSpec := { name := "prodOrder", fn := fun _ => fun
  | [d1, d2, d3, d4] => { results := [.lit (.bool true)], args := [d1, d2, d3, d4] }
  | _ => none }
def prodOrderRow : OpenClaim := { program := "ytdknfdncgmeimaadoor", sum := "67a15c9558b614523ee489a6b1218294c0997e0117437b3599f5102140f41d3b", func := "ulpwright/ulpkeep.ProdOrder", spec := "prodOrder", named := ["math/bits.deBruijn32tab"], apart := false, laid := [("math/bits.deBruijn32tab", laid_math_bits_deBruijn32tab)] }
def ProdOrderSaid : Prop := prodOrderRow.holds Tryd.pinned (OpenSpec.ofChange prodOrderSpec)

/-- ITS FALSE NEIGHBOUR: 'it returns false'. Refute it at one input. -/
def prodOrderWrong : ChangeSpec := { name := "prodOrder", fn := fun _ => fun
  | [d1, d2, d3, d4] => { results := [.lit (.bool false)], args := [d1, d2, d3, d4] }
  | _ => none }
def ProdOrderWrongFalsely : Prop := prodOrderRow.holds Tryd.pinned (OpenSpec.ofChange prodOrderWrong)

/-- 'ulpkeep.WholeRounds': WHATEVER THE INPUT: true; the input reads as it did. -/
def wholeRoundsSpec : ChangeSpec := { name := "wholeRounds", fn := fun _ => fun
  | [d1, d2] => { results := [.lit (.bool true)], args := [d1, d2] }
  | _ => none }
def wholeRoundsRow : OpenClaim := { program := "ytdknfdncgmeimaadoor", sum := "67a15c9558b614523ee489a6b1218294c0997e0117437b3599f5102140f41d3b", func := "ulpwright/ulpkeep.WholeRounds", spec := "wholeRounds", named := ["math/bits.deBruijn32tab"], apart := false, laid := [("math/bits.deBruijn32tab", laid_math_bits_deBruijn32tab)] }
def WholeRoundsSaid : Prop := wholeRoundsRow.holds Tryd.pinned (OpenSpec.ofChange wholeRoundsSpec)

/-- ITS FALSE NEIGHBOUR: 'it returns false'. Refute it at one input. -/
def wholeRoundsWrong : ChangeSpec := { name := "wholeRounds", fn := fun _ => fun
  | [d1, d2] => { results := [.lit (.bool false)], args := [d1, d2] }
  | _ => none }
def WholeRoundsWrongFalsely : Prop := wholeRoundsRow.holds Tryd.pinned (OpenSpec.ofChange wholeRoundsWrong)

/-- 'ulpkeep.SumSterbenz': WHATEVER THE INPUT: true; the input reads as it did. -/
def sumSterbenzSpec : ChangeSpec := { name := "sumSterbenz", fn := fun _ => fun
  | [d1, d2, d3] => { results := [.lit (.bool true)], args := [d1, d2, d3] }
  | _ => none }
def sumSterbenzRow : OpenClaim := { program := "ytdknfdncgmeimaadoor", sum := "67a15c9558b614523ee489a6b1218294c0997e0117437b3599f5102140f41d3b", func := "ulpwright/ulpkeep.SumSterbenz", spec := "sumSterbenz", named := ["math/bits.deBruijn32tab"], apart := false, laid := [("math/bits.deBruijn32tab", laid_math_bits_deBruijn32tab)] }
def SumSterbenzSaid : Prop := sumSterbenzRow.holds Tryd.pinned (OpenSpec.ofChange sumSterbenzSpec)

/-- ITS FALSE NEIGHBOUR: 'it returns false'. Refute it at one input. -/
def sumSterbenzWrong : ChangeSpec := { name := "sumSterbenz", fn := fun _ => fun
  | [d1, d2, d3] => { results := [.lit (.bool false)], args := [d1, d2, d3] }
  | _ => none }
def SumSterbenzWrongFalsely : Prop := sumSterbenzRow.holds Tryd.pinned (OpenSpec.ofChange sumSterbenzWrong)

/-- 'ulpkeep.ProdDots': WHATEVER THE INPUT: true; the input reads as it did. -/
def prodDotsSpec : ChangeSpec := { name := "prodDots", fn := fun _ => fun
  | [d1, d2] => { results := [.lit (.bool true)], args := [d1, d2] }
  | _ => none }
def prodDotsRow : OpenClaim := { program := "ytdknfdncgmeimaadoor", sum := "67a15c9558b614523ee489a6b1218294c0997e0117437b3599f5102140f41d3b", func := "ulpwright/ulpkeep.ProdDots", spec := "prodDots", unfollowed := true, recurses := true, named := ["math/bits.deBruijn32tab"], apart := false, laid := [("math/bits.deBruijn32tab", laid_math_bits_deBruijn32tab)] }
def ProdDotsSaid : Prop := prodDotsRow.holds Tryd.pinned (OpenSpec.ofChange prodDotsSpec)

/-- ITS FALSE NEIGHBOUR: 'it returns false'. Refute it at one input. -/
def prodDotsWrong : ChangeSpec := { name := "prodDots", fn := fun _ => fun
  | [d1, d2] => { results := [.lit (.bool false)], args := [d1, d2] }
  | _ => none }
def ProdDotsWrongFalsely : Prop := prodDotsRow.holds Tryd.pinned (OpenSpec.ofChange prodDotsWrong)

/-- 'ulpkeep.ProdExact': WHATEVER THE INPUT: true; the input reads as it did. -/
def prodExactSpec : ChangeSpec := { name := "prodExact", fn := fun _ => fun
  | [d1, d2, d3] => { results := [.lit (.bool true)], args := [d1, d2, d3] }
  | _ => none }
def prodExactRow : OpenClaim := { program := "ytdknfdncgmeimaadoor", sum := "67a15c9558b614523ee489a6b1218294c0997e0117437b3599f5102140f41d3b", func := "ulpwright/ulpkeep.ProdExact", spec := "prodExact", named := ["math/bits.deBruijn32tab"], apart := false, laid := [("math/bits.deBruijn32tab", laid_math_bits_deBruijn32tab)] }
def ProdExactSaid : Prop := prodExactRow.holds Tryd.pinned (OpenSpec.ofChange prodExactSpec)

/-- ITS FALSE NEIGHBOUR: 'it returns false'. Refute it at one input. -/
def prodExactWrong : ChangeSpec := { name := "prodExact", fn := fun _ => fun
  | [d1, d2, d3] => { results := [.lit (.bool false)], args := [d1, d2, d3] }
  | _ => none }
def ProdExactWrongFalsely : Prop := prodExactRow.holds Tryd.pinned (OpenSpec.ofChange prodExactWrong)

/- THE SECOND FORM. 'bulk': how many values and letters a reading holds, each counted each time it is reached (what is shared counts as often as it is met; a slice's spare places count too). A statement '..UptoSaid' is the law's where the arguments, and the package variables that the reading takes, are together of bulk at most 1048576: NARROWER than '..Said'. Prove '..Said' where nothing that the law and all that it calls make is longer than what came in: it says more and counts as full. Else prove '..UptoSaid'. A law counts once. -/
mutual
def uptoBulk {H : Type} : DataW H → Nat
  | .lit (.string bytes) => bytes.length + 1
  | .lit _ => 1
  | .nil => 1
  | .ptr d => uptoBulk d + 1
  | .slice elems spare => uptoBulkAll elems + uptoBulkAll spare + 1
  | .agg parts => uptoBulkAll parts + 1
  | .iface _ d => uptoBulk d + 1
  | .map entries => uptoBulkEntries entries + 1
  | .held _ => 1
def uptoBulkAll {H : Type} : List (DataW H) → Nat
  | [] => 0
  | d :: r => uptoBulk d + uptoBulkAll r
def uptoBulkEntries {H : Type} : List (Lit × DataW H) → Nat
  | [] => 0
  | x :: r => uptoBulkEntry x + uptoBulkEntries r
def uptoBulkEntry {H : Type} : Lit × DataW H → Nat
  | (.string bytes, d) => bytes.length + uptoBulk d + 1
  | (_, d) => uptoBulk d + 1
 end
def uptoSmall : (H : Type) → List (DataW H) → Bool := fun _ ds => decide (uptoBulkAll ds ≤ 1048576)
def OpenSpec.upto (s : _root_.Go.ChangeSpec) : _root_.Go.OpenSpec := { _root_.Go.OpenSpec.ofChange s with cond := some uptoSmall }

/-- 'ulpkeep.RoundSame', WHERE WHAT IT READS IS OF BULK AT MOST 1048576: true; the input reads as it did. -/
def roundSameUptoRow : OpenClaim := { program := "ytdknfdncgmeimaadoor", sum := "67a15c9558b614523ee489a6b1218294c0997e0117437b3599f5102140f41d3b", func := "ulpwright/ulpkeep.RoundSame", spec := "roundSame", named := ["math/bits.deBruijn32tab"], apart := false, laid := [("math/bits.deBruijn32tab", laid_math_bits_deBruijn32tab)], narrowed := true }
def RoundSameUptoSaid : Prop := roundSameUptoRow.holds Tryd.pinned (OpenSpec.upto roundSameSpec)

/-- 'ulpkeep.DyadRing', WHERE WHAT IT READS IS OF BULK AT MOST 1048576: true; the input reads as it did. -/
def dyadRingUptoRow : OpenClaim := { program := "ytdknfdncgmeimaadoor", sum := "67a15c9558b614523ee489a6b1218294c0997e0117437b3599f5102140f41d3b", func := "ulpwright/ulpkeep.DyadRing", spec := "dyadRing", named := ["math/bits.deBruijn32tab"], apart := false, laid := [("math/bits.deBruijn32tab", laid_math_bits_deBruijn32tab)], narrowed := true }
def DyadRingUptoSaid : Prop := dyadRingUptoRow.holds Tryd.pinned (OpenSpec.upto dyadRingSpec)

/-- 'ulpkeep.DyadOrder', WHERE WHAT IT READS IS OF BULK AT MOST 1048576: true; the input reads as it did. -/
def dyadOrderUptoRow : OpenClaim := { program := "ytdknfdncgmeimaadoor", sum := "67a15c9558b614523ee489a6b1218294c0997e0117437b3599f5102140f41d3b", func := "ulpwright/ulpkeep.DyadOrder", spec := "dyadOrder", named := ["math/bits.deBruijn32tab"], apart := false, laid := [("math/bits.deBruijn32tab", laid_math_bits_deBruijn32tab)], narrowed := true }
def DyadOrderUptoSaid : Prop := dyadOrderUptoRow.holds Tryd.pinned (OpenSpec.upto dyadOrderSpec)

/-- 'ulpkeep.DyadBack', WHERE WHAT IT READS IS OF BULK AT MOST 1048576: true; the input reads as it did. -/
def dyadBackUptoRow : OpenClaim := { program := "ytdknfdncgmeimaadoor", sum := "67a15c9558b614523ee489a6b1218294c0997e0117437b3599f5102140f41d3b", func := "ulpwright/ulpkeep.DyadBack", spec := "dyadBack", named := ["math/bits.deBruijn32tab"], apart := false, laid := [("math/bits.deBruijn32tab", laid_math_bits_deBruijn32tab)], narrowed := true }
def DyadBackUptoSaid : Prop := dyadBackUptoRow.holds Tryd.pinned (OpenSpec.upto dyadBackSpec)

/-- 'ulpkeep.DyadForm', WHERE WHAT IT READS IS OF BULK AT MOST 1048576: true; the input reads as it did. -/
def dyadFormUptoRow : OpenClaim := { program := "ytdknfdncgmeimaadoor", sum := "67a15c9558b614523ee489a6b1218294c0997e0117437b3599f5102140f41d3b", func := "ulpwright/ulpkeep.DyadForm", spec := "dyadForm", named := ["math/bits.deBruijn32tab"], apart := false, laid := [("math/bits.deBruijn32tab", laid_math_bits_deBruijn32tab)], narrowed := true }
def DyadFormUptoSaid : Prop := dyadFormUptoRow.holds Tryd.pinned (OpenSpec.upto dyadFormSpec)

/-- 'ulpkeep.WholeInts', WHERE WHAT IT READS IS OF BULK AT MOST 1048576: true; the input reads as it did. -/
def wholeIntsUptoRow : OpenClaim := { program := "ytdknfdncgmeimaadoor", sum := "67a15c9558b614523ee489a6b1218294c0997e0117437b3599f5102140f41d3b", func := "ulpwright/ulpkeep.WholeInts", spec := "wholeInts", named := ["math/bits.deBruijn32tab"], apart := false, laid := [("math/bits.deBruijn32tab", laid_math_bits_deBruijn32tab)], narrowed := true }
def WholeIntsUptoSaid : Prop := wholeIntsUptoRow.holds Tryd.pinned (OpenSpec.upto wholeIntsSpec)

/-- 'ulpkeep.SumSmall', WHERE WHAT IT READS IS OF BULK AT MOST 1048576: true; the input reads as it did. -/
def sumSmallUptoRow : OpenClaim := { program := "ytdknfdncgmeimaadoor", sum := "67a15c9558b614523ee489a6b1218294c0997e0117437b3599f5102140f41d3b", func := "ulpwright/ulpkeep.SumSmall", spec := "sumSmall", named := ["math/bits.deBruijn32tab"], apart := false, laid := [("math/bits.deBruijn32tab", laid_math_bits_deBruijn32tab)], narrowed := true }
def SumSmallUptoSaid : Prop := sumSmallUptoRow.holds Tryd.pinned (OpenSpec.upto sumSmallSpec)

/-- 'ulpkeep.SumCommutes', WHERE WHAT IT READS IS OF BULK AT MOST 1048576: true; the input reads as it did. -/
def sumCommutesUptoRow : OpenClaim := { program := "ytdknfdncgmeimaadoor", sum := "67a15c9558b614523ee489a6b1218294c0997e0117437b3599f5102140f41d3b", func := "ulpwright/ulpkeep.SumCommutes", spec := "sumCommutes", named := ["math/bits.deBruijn32tab"], apart := false, laid := [("math/bits.deBruijn32tab", laid_math_bits_deBruijn32tab)], narrowed := true }
def SumCommutesUptoSaid : Prop := sumCommutesUptoRow.holds Tryd.pinned (OpenSpec.upto sumCommutesSpec)

/-- 'ulpkeep.WholeOrder', WHERE WHAT IT READS IS OF BULK AT MOST 1048576: true; the input reads as it did. -/
def wholeOrderUptoRow : OpenClaim := { program := "ytdknfdncgmeimaadoor", sum := "67a15c9558b614523ee489a6b1218294c0997e0117437b3599f5102140f41d3b", func := "ulpwright/ulpkeep.WholeOrder", spec := "wholeOrder", named := ["math/bits.deBruijn32tab"], apart := false, laid := [("math/bits.deBruijn32tab", laid_math_bits_deBruijn32tab)], narrowed := true }
def WholeOrderUptoSaid : Prop := wholeOrderUptoRow.holds Tryd.pinned (OpenSpec.upto wholeOrderSpec)

/-- 'ulpkeep.SumOrder', WHERE WHAT IT READS IS OF BULK AT MOST 1048576: true; the input reads as it did. -/
def sumOrderUptoRow : OpenClaim := { program := "ytdknfdncgmeimaadoor", sum := "67a15c9558b614523ee489a6b1218294c0997e0117437b3599f5102140f41d3b", func := "ulpwright/ulpkeep.SumOrder", spec := "sumOrder", named := ["math/bits.deBruijn32tab"], apart := false, laid := [("math/bits.deBruijn32tab", laid_math_bits_deBruijn32tab)], narrowed := true }
def SumOrderUptoSaid : Prop := sumOrderUptoRow.holds Tryd.pinned (OpenSpec.upto sumOrderSpec)

/-- 'ulpkeep.RoundOrder', WHERE WHAT IT READS IS OF BULK AT MOST 1048576: true; the input reads as it did. -/
def roundOrderUptoRow : OpenClaim := { program := "ytdknfdncgmeimaadoor", sum := "67a15c9558b614523ee489a6b1218294c0997e0117437b3599f5102140f41d3b", func := "ulpwright/ulpkeep.RoundOrder", spec := "roundOrder", named := ["math/bits.deBruijn32tab"], apart := false, laid := [("math/bits.deBruijn32tab", laid_math_bits_deBruijn32tab)], narrowed := true }
def RoundOrderUptoSaid : Prop := roundOrderUptoRow.holds Tryd.pinned (OpenSpec.upto roundOrderSpec)

/-- 'ulpkeep.RoundNear', WHERE WHAT IT READS IS OF BULK AT MOST 1048576: true; the input reads as it did. -/
def roundNearUptoRow : OpenClaim := { program := "ytdknfdncgmeimaadoor", sum := "67a15c9558b614523ee489a6b1218294c0997e0117437b3599f5102140f41d3b", func := "ulpwright/ulpkeep.RoundNear", spec := "roundNear", named := ["math/bits.deBruijn32tab"], apart := false, laid := [("math/bits.deBruijn32tab", laid_math_bits_deBruijn32tab)], narrowed := true }
def RoundNearUptoSaid : Prop := roundNearUptoRow.holds Tryd.pinned (OpenSpec.upto roundNearSpec)

/-- 'ulpkeep.RoundCutTwice', WHERE WHAT IT READS IS OF BULK AT MOST 1048576: true; the input reads as it did. -/
def roundCutTwiceUptoRow : OpenClaim := { program := "ytdknfdncgmeimaadoor", sum := "67a15c9558b614523ee489a6b1218294c0997e0117437b3599f5102140f41d3b", func := "ulpwright/ulpkeep.RoundCutTwice", spec := "roundCutTwice", named := ["math/bits.deBruijn32tab"], apart := false, laid := [("math/bits.deBruijn32tab", laid_math_bits_deBruijn32tab)], narrowed := true }
def RoundCutTwiceUptoSaid : Prop := roundCutTwiceUptoRow.holds Tryd.pinned (OpenSpec.upto roundCutTwiceSpec)

/-- 'ulpkeep.SumOnce', WHERE WHAT IT READS IS OF BULK AT MOST 1048576: true; the input reads as it did. -/
def sumOnceUptoRow : OpenClaim := { program := "ytdknfdncgmeimaadoor", sum := "67a15c9558b614523ee489a6b1218294c0997e0117437b3599f5102140f41d3b", func := "ulpwright/ulpkeep.SumOnce", spec := "sumOnce", named := ["math/bits.deBruijn32tab"], apart := false, laid := [("math/bits.deBruijn32tab", laid_math_bits_deBruijn32tab)], narrowed := true }
def SumOnceUptoSaid : Prop := sumOnceUptoRow.holds Tryd.pinned (OpenSpec.upto sumOnceSpec)

/-- 'ulpkeep.ProdCommutes', WHERE WHAT IT READS IS OF BULK AT MOST 1048576: true; the input reads as it did. -/
def prodCommutesUptoRow : OpenClaim := { program := "ytdknfdncgmeimaadoor", sum := "67a15c9558b614523ee489a6b1218294c0997e0117437b3599f5102140f41d3b", func := "ulpwright/ulpkeep.ProdCommutes", spec := "prodCommutes", named := ["math/bits.deBruijn32tab"], apart := false, laid := [("math/bits.deBruijn32tab", laid_math_bits_deBruijn32tab)], narrowed := true }
def ProdCommutesUptoSaid : Prop := prodCommutesUptoRow.holds Tryd.pinned (OpenSpec.upto prodCommutesSpec)

/-- 'ulpkeep.ProdFused', WHERE WHAT IT READS IS OF BULK AT MOST 1048576: true; the input reads as it did. -/
def prodFusedUptoRow : OpenClaim := { program := "ytdknfdncgmeimaadoor", sum := "67a15c9558b614523ee489a6b1218294c0997e0117437b3599f5102140f41d3b", func := "ulpwright/ulpkeep.ProdFused", spec := "prodFused", named := ["math/bits.deBruijn32tab"], apart := false, laid := [("math/bits.deBruijn32tab", laid_math_bits_deBruijn32tab)], narrowed := true }
def ProdFusedUptoSaid : Prop := prodFusedUptoRow.holds Tryd.pinned (OpenSpec.upto prodFusedSpec)

/-- 'ulpkeep.ProdPowers', WHERE WHAT IT READS IS OF BULK AT MOST 1048576: true; the input reads as it did. -/
def prodPowersUptoRow : OpenClaim := { program := "ytdknfdncgmeimaadoor", sum := "67a15c9558b614523ee489a6b1218294c0997e0117437b3599f5102140f41d3b", func := "ulpwright/ulpkeep.ProdPowers", spec := "prodPowers", named := ["math/bits.deBruijn32tab"], apart := false, laid := [("math/bits.deBruijn32tab", laid_math_bits_deBruijn32tab)], narrowed := true }
def ProdPowersUptoSaid : Prop := prodPowersUptoRow.holds Tryd.pinned (OpenSpec.upto prodPowersSpec)

/-- 'ulpkeep.ProdOrder', WHERE WHAT IT READS IS OF BULK AT MOST 1048576: true; the input reads as it did. -/
def prodOrderUptoRow : OpenClaim := { program := "ytdknfdncgmeimaadoor", sum := "67a15c9558b614523ee489a6b1218294c0997e0117437b3599f5102140f41d3b", func := "ulpwright/ulpkeep.ProdOrder", spec := "prodOrder", named := ["math/bits.deBruijn32tab"], apart := false, laid := [("math/bits.deBruijn32tab", laid_math_bits_deBruijn32tab)], narrowed := true }
def ProdOrderUptoSaid : Prop := prodOrderUptoRow.holds Tryd.pinned (OpenSpec.upto prodOrderSpec)

/-- 'ulpkeep.WholeRounds', WHERE WHAT IT READS IS OF BULK AT MOST 1048576: true; the input reads as it did. -/
def wholeRoundsUptoRow : OpenClaim := { program := "ytdknfdncgmeimaadoor", sum := "67a15c9558b614523ee489a6b1218294c0997e0117437b3599f5102140f41d3b", func := "ulpwright/ulpkeep.WholeRounds", spec := "wholeRounds", named := ["math/bits.deBruijn32tab"], apart := false, laid := [("math/bits.deBruijn32tab", laid_math_bits_deBruijn32tab)], narrowed := true }
def WholeRoundsUptoSaid : Prop := wholeRoundsUptoRow.holds Tryd.pinned (OpenSpec.upto wholeRoundsSpec)

/-- 'ulpkeep.SumSterbenz', WHERE WHAT IT READS IS OF BULK AT MOST 1048576: true; the input reads as it did. -/
def sumSterbenzUptoRow : OpenClaim := { program := "ytdknfdncgmeimaadoor", sum := "67a15c9558b614523ee489a6b1218294c0997e0117437b3599f5102140f41d3b", func := "ulpwright/ulpkeep.SumSterbenz", spec := "sumSterbenz", named := ["math/bits.deBruijn32tab"], apart := false, laid := [("math/bits.deBruijn32tab", laid_math_bits_deBruijn32tab)], narrowed := true }
def SumSterbenzUptoSaid : Prop := sumSterbenzUptoRow.holds Tryd.pinned (OpenSpec.upto sumSterbenzSpec)

/-- 'ulpkeep.ProdDots', WHERE WHAT IT READS IS OF BULK AT MOST 1048576: true; the input reads as it did. -/
def prodDotsUptoRow : OpenClaim := { program := "ytdknfdncgmeimaadoor", sum := "67a15c9558b614523ee489a6b1218294c0997e0117437b3599f5102140f41d3b", func := "ulpwright/ulpkeep.ProdDots", spec := "prodDots", unfollowed := true, recurses := true, named := ["math/bits.deBruijn32tab"], apart := false, laid := [("math/bits.deBruijn32tab", laid_math_bits_deBruijn32tab)], narrowed := true }
def ProdDotsUptoSaid : Prop := prodDotsUptoRow.holds Tryd.pinned (OpenSpec.upto prodDotsSpec)

/-- 'ulpkeep.ProdExact', WHERE WHAT IT READS IS OF BULK AT MOST 1048576: true; the input reads as it did. -/
def prodExactUptoRow : OpenClaim := { program := "ytdknfdncgmeimaadoor", sum := "67a15c9558b614523ee489a6b1218294c0997e0117437b3599f5102140f41d3b", func := "ulpwright/ulpkeep.ProdExact", spec := "prodExact", named := ["math/bits.deBruijn32tab"], apart := false, laid := [("math/bits.deBruijn32tab", laid_math_bits_deBruijn32tab)], narrowed := true }
def ProdExactUptoSaid : Prop := prodExactUptoRow.holds Tryd.pinned (OpenSpec.upto prodExactSpec)

end Rows
end Go.Proofs.YtdknfdncgmeimaaDoor
