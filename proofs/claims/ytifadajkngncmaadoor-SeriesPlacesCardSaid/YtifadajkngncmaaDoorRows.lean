/-
  NARROWER THAN 'FOR EVERY INPUT', by the rows' own cells (each row's printed sentence says how): SeriesOrder: laid · SeriesPlaces: laid · SeriesBack: laid · SeriesSums: laid · SeriesPowers: laid · ExpoLost: laid · ExpoOrder: laid · ExpoSides: laid · ExpoBack: laid · ExpoBounds: laid · CoinExp: laid.
  DERIVED. THE GIVEN ROWS OF THIS SEAT. 11 by the template 'for every input the law returns true; each argument reads behind the call as it read before'; 0 by the template 'total and deterministic' (their statements: YtifadajkngncmaaDoorTotals.lean).
  GIVEN WITH THE SEED: the statements are not yours to turn. If you find one false, say at which input.
  Laid BY PROGRAM, IN A SANDBOX (cutbox-rows.mjs): the forced cells as the released guide's own fill.sh prints them over the translation 27a0b7555fb351b4… (all of the seat's roots in one cut). By AI agents, Wed Nov 11 2026. No macro, syntax, notation, axiom, sorry.
-/
import Derived.Test.YtifadajkngncmaaDoorChecked
import GoSem.Claim
import GoSem.ClaimJoined
import GoSem.ClaimMapViews
import Derived.JoinedTies
import Derived.KernelRfl
namespace Go.Proofs.YtifadajkngncmaaDoor
/- THE CELL 'sum', in the pinned program and in every row, IS THE sha256 OF THE DUMP (.gsa) THAT YtifadajkngncmaaDoorProg.lean LOADS. Nothing in Lean hashes anything: it is a label: what it is worth is what the hold of that sum in a sandbox is worth. -/
noncomputable def Tryd.pinned : Pinned := { name := "ytifadajkngncmaadoor", sum := "27a0b7555fb351b4616c8a27210ee51ec522e1d000d4a24b1d77cbc94eb8c4c7", checked := Tryd.checked }
namespace Rows
def none {H : Type} : Left H := { results := [], args := [] }

/- WHAT THE LISTED PACKAGE-LEVEL VARIABLES READ AS WHEN THE CALL BEGINS. Each datum BY PROGRAM (the guide's laid-datum.mjs) off the statement by which the dump's own 'gosem.cut.vars' lays the variable. In a bare row this is a premise. The card (YtifadajkngncmaaDoorCards.lean) ties it to the program's text. -/
def laid_math_bits_deBruijn32tab {H : Type} : DataW H := .agg [.lit (.int .u8 0), .lit (.int .u8 1), .lit (.int .u8 28), .lit (.int .u8 2), .lit (.int .u8 29), .lit (.int .u8 14), .lit (.int .u8 24), .lit (.int .u8 3), .lit (.int .u8 30), .lit (.int .u8 22), .lit (.int .u8 20), .lit (.int .u8 15), .lit (.int .u8 25), .lit (.int .u8 17), .lit (.int .u8 4), .lit (.int .u8 8), .lit (.int .u8 31), .lit (.int .u8 27), .lit (.int .u8 13), .lit (.int .u8 23), .lit (.int .u8 21), .lit (.int .u8 19), .lit (.int .u8 16), .lit (.int .u8 7), .lit (.int .u8 26), .lit (.int .u8 12), .lit (.int .u8 18), .lit (.int .u8 6), .lit (.int .u8 11), .lit (.int .u8 5), .lit (.int .u8 10), .lit (.int .u8 9)]

/-- 'ulpkeep.SeriesOrder': WHATEVER THE INPUT: true; the input reads as it did. -/
def seriesOrderSpec : ChangeSpec := { name := "seriesOrder", fn := fun _ => fun
  | [d1, d2, d3] => { results := [.lit (.bool true)], args := [d1, d2, d3] }
  | _ => none }
def seriesOrderRow : OpenClaim := { program := "ytifadajkngncmaadoor", sum := "27a0b7555fb351b4616c8a27210ee51ec522e1d000d4a24b1d77cbc94eb8c4c7", func := "ulpwright/ulpkeep.SeriesOrder", spec := "seriesOrder", unfollowed := true, recurses := true, named := ["math/bits.deBruijn32tab"], apart := false, laid := [("math/bits.deBruijn32tab", laid_math_bits_deBruijn32tab)] }
def SeriesOrderSaid : Prop := seriesOrderRow.holds Tryd.pinned (OpenSpec.ofChange seriesOrderSpec)

/-- ITS FALSE NEIGHBOUR: 'it returns false'. Refute it at one input. -/
def seriesOrderWrong : ChangeSpec := { name := "seriesOrder", fn := fun _ => fun
  | [d1, d2, d3] => { results := [.lit (.bool false)], args := [d1, d2, d3] }
  | _ => none }
def SeriesOrderWrongFalsely : Prop := seriesOrderRow.holds Tryd.pinned (OpenSpec.ofChange seriesOrderWrong)

/-- 'ulpkeep.SeriesPlaces': WHATEVER THE INPUT: true; the input reads as it did. -/
def seriesPlacesSpec : ChangeSpec := { name := "seriesPlaces", fn := fun _ => fun
  | [d1, d2, d3] => { results := [.lit (.bool true)], args := [d1, d2, d3] }
  | _ => none }
def seriesPlacesRow : OpenClaim := { program := "ytifadajkngncmaadoor", sum := "27a0b7555fb351b4616c8a27210ee51ec522e1d000d4a24b1d77cbc94eb8c4c7", func := "ulpwright/ulpkeep.SeriesPlaces", spec := "seriesPlaces", unfollowed := true, recurses := true, named := ["math/bits.deBruijn32tab"], apart := false, laid := [("math/bits.deBruijn32tab", laid_math_bits_deBruijn32tab)] }
def SeriesPlacesSaid : Prop := seriesPlacesRow.holds Tryd.pinned (OpenSpec.ofChange seriesPlacesSpec)

/-- ITS FALSE NEIGHBOUR: 'it returns false'. Refute it at one input. -/
def seriesPlacesWrong : ChangeSpec := { name := "seriesPlaces", fn := fun _ => fun
  | [d1, d2, d3] => { results := [.lit (.bool false)], args := [d1, d2, d3] }
  | _ => none }
def SeriesPlacesWrongFalsely : Prop := seriesPlacesRow.holds Tryd.pinned (OpenSpec.ofChange seriesPlacesWrong)

/-- 'ulpkeep.SeriesBack': WHATEVER THE INPUT: true; the input reads as it did. -/
def seriesBackSpec : ChangeSpec := { name := "seriesBack", fn := fun _ => fun
  | [d1, d2] => { results := [.lit (.bool true)], args := [d1, d2] }
  | _ => none }
def seriesBackRow : OpenClaim := { program := "ytifadajkngncmaadoor", sum := "27a0b7555fb351b4616c8a27210ee51ec522e1d000d4a24b1d77cbc94eb8c4c7", func := "ulpwright/ulpkeep.SeriesBack", spec := "seriesBack", unfollowed := true, recurses := true, named := ["math/bits.deBruijn32tab"], apart := false, laid := [("math/bits.deBruijn32tab", laid_math_bits_deBruijn32tab)] }
def SeriesBackSaid : Prop := seriesBackRow.holds Tryd.pinned (OpenSpec.ofChange seriesBackSpec)

/-- ITS FALSE NEIGHBOUR: 'it returns false'. Refute it at one input. -/
def seriesBackWrong : ChangeSpec := { name := "seriesBack", fn := fun _ => fun
  | [d1, d2] => { results := [.lit (.bool false)], args := [d1, d2] }
  | _ => none }
def SeriesBackWrongFalsely : Prop := seriesBackRow.holds Tryd.pinned (OpenSpec.ofChange seriesBackWrong)

/-- 'ulpkeep.SeriesSums': WHATEVER THE INPUT: true; the input reads as it did. -/
def seriesSumsSpec : ChangeSpec := { name := "seriesSums", fn := fun _ => fun
  | [d1, d2, d3] => { results := [.lit (.bool true)], args := [d1, d2, d3] }
  | _ => none }
def seriesSumsRow : OpenClaim := { program := "ytifadajkngncmaadoor", sum := "27a0b7555fb351b4616c8a27210ee51ec522e1d000d4a24b1d77cbc94eb8c4c7", func := "ulpwright/ulpkeep.SeriesSums", spec := "seriesSums", unfollowed := true, recurses := true, named := ["math/bits.deBruijn32tab"], apart := false, laid := [("math/bits.deBruijn32tab", laid_math_bits_deBruijn32tab)] }
def SeriesSumsSaid : Prop := seriesSumsRow.holds Tryd.pinned (OpenSpec.ofChange seriesSumsSpec)

/-- ITS FALSE NEIGHBOUR: 'it returns false'. Refute it at one input. -/
def seriesSumsWrong : ChangeSpec := { name := "seriesSums", fn := fun _ => fun
  | [d1, d2, d3] => { results := [.lit (.bool false)], args := [d1, d2, d3] }
  | _ => none }
def SeriesSumsWrongFalsely : Prop := seriesSumsRow.holds Tryd.pinned (OpenSpec.ofChange seriesSumsWrong)

/-- 'ulpkeep.SeriesPowers': WHATEVER THE INPUT: true; the input reads as it did. -/
def seriesPowersSpec : ChangeSpec := { name := "seriesPowers", fn := fun _ => fun
  | [d1, d2, d3] => { results := [.lit (.bool true)], args := [d1, d2, d3] }
  | _ => none }
def seriesPowersRow : OpenClaim := { program := "ytifadajkngncmaadoor", sum := "27a0b7555fb351b4616c8a27210ee51ec522e1d000d4a24b1d77cbc94eb8c4c7", func := "ulpwright/ulpkeep.SeriesPowers", spec := "seriesPowers", unfollowed := true, recurses := true, named := ["math/bits.deBruijn32tab"], apart := false, laid := [("math/bits.deBruijn32tab", laid_math_bits_deBruijn32tab)] }
def SeriesPowersSaid : Prop := seriesPowersRow.holds Tryd.pinned (OpenSpec.ofChange seriesPowersSpec)

/-- ITS FALSE NEIGHBOUR: 'it returns false'. Refute it at one input. -/
def seriesPowersWrong : ChangeSpec := { name := "seriesPowers", fn := fun _ => fun
  | [d1, d2, d3] => { results := [.lit (.bool false)], args := [d1, d2, d3] }
  | _ => none }
def SeriesPowersWrongFalsely : Prop := seriesPowersRow.holds Tryd.pinned (OpenSpec.ofChange seriesPowersWrong)

/-- 'ulpkeep.ExpoLost': WHATEVER THE INPUT: true; the input reads as it did. -/
def expoLostSpec : ChangeSpec := { name := "expoLost", fn := fun _ => fun
  | [d1, d2] => { results := [.lit (.bool true)], args := [d1, d2] }
  | _ => none }
def expoLostRow : OpenClaim := { program := "ytifadajkngncmaadoor", sum := "27a0b7555fb351b4616c8a27210ee51ec522e1d000d4a24b1d77cbc94eb8c4c7", func := "ulpwright/ulpkeep.ExpoLost", spec := "expoLost", unfollowed := true, recurses := true, named := ["math/bits.deBruijn32tab"], apart := false, laid := [("math/bits.deBruijn32tab", laid_math_bits_deBruijn32tab)] }
def ExpoLostSaid : Prop := expoLostRow.holds Tryd.pinned (OpenSpec.ofChange expoLostSpec)

/-- ITS FALSE NEIGHBOUR: 'it returns false'. Refute it at one input. -/
def expoLostWrong : ChangeSpec := { name := "expoLost", fn := fun _ => fun
  | [d1, d2] => { results := [.lit (.bool false)], args := [d1, d2] }
  | _ => none }
def ExpoLostWrongFalsely : Prop := expoLostRow.holds Tryd.pinned (OpenSpec.ofChange expoLostWrong)

/-- 'ulpkeep.ExpoOrder': WHATEVER THE INPUT: true; the input reads as it did. -/
def expoOrderSpec : ChangeSpec := { name := "expoOrder", fn := fun _ => fun
  | [d1, d2, d3] => { results := [.lit (.bool true)], args := [d1, d2, d3] }
  | _ => none }
def expoOrderRow : OpenClaim := { program := "ytifadajkngncmaadoor", sum := "27a0b7555fb351b4616c8a27210ee51ec522e1d000d4a24b1d77cbc94eb8c4c7", func := "ulpwright/ulpkeep.ExpoOrder", spec := "expoOrder", unfollowed := true, recurses := true, named := ["math/bits.deBruijn32tab"], apart := false, laid := [("math/bits.deBruijn32tab", laid_math_bits_deBruijn32tab)] }
def ExpoOrderSaid : Prop := expoOrderRow.holds Tryd.pinned (OpenSpec.ofChange expoOrderSpec)

/-- ITS FALSE NEIGHBOUR: 'it returns false'. Refute it at one input. -/
def expoOrderWrong : ChangeSpec := { name := "expoOrder", fn := fun _ => fun
  | [d1, d2, d3] => { results := [.lit (.bool false)], args := [d1, d2, d3] }
  | _ => none }
def ExpoOrderWrongFalsely : Prop := expoOrderRow.holds Tryd.pinned (OpenSpec.ofChange expoOrderWrong)

/-- 'ulpkeep.ExpoSides': WHATEVER THE INPUT: true; the input reads as it did. -/
def expoSidesSpec : ChangeSpec := { name := "expoSides", fn := fun _ => fun
  | [d] => { results := [.lit (.bool true)], args := [d] }
  | _ => none }
def expoSidesRow : OpenClaim := { program := "ytifadajkngncmaadoor", sum := "27a0b7555fb351b4616c8a27210ee51ec522e1d000d4a24b1d77cbc94eb8c4c7", func := "ulpwright/ulpkeep.ExpoSides", spec := "expoSides", unfollowed := true, recurses := true, named := ["math/bits.deBruijn32tab"], apart := false, laid := [("math/bits.deBruijn32tab", laid_math_bits_deBruijn32tab)] }
def ExpoSidesSaid : Prop := expoSidesRow.holds Tryd.pinned (OpenSpec.ofChange expoSidesSpec)

/-- ITS FALSE NEIGHBOUR: 'it returns false'. Refute it at one input. -/
def expoSidesWrong : ChangeSpec := { name := "expoSides", fn := fun _ => fun
  | [d] => { results := [.lit (.bool false)], args := [d] }
  | _ => none }
def ExpoSidesWrongFalsely : Prop := expoSidesRow.holds Tryd.pinned (OpenSpec.ofChange expoSidesWrong)

/-- 'ulpkeep.ExpoBack': WHATEVER THE INPUT: true; the input reads as it did. -/
def expoBackSpec : ChangeSpec := { name := "expoBack", fn := fun _ => fun
  | [d] => { results := [.lit (.bool true)], args := [d] }
  | _ => none }
def expoBackRow : OpenClaim := { program := "ytifadajkngncmaadoor", sum := "27a0b7555fb351b4616c8a27210ee51ec522e1d000d4a24b1d77cbc94eb8c4c7", func := "ulpwright/ulpkeep.ExpoBack", spec := "expoBack", unfollowed := true, recurses := true, named := ["math/bits.deBruijn32tab"], apart := false, laid := [("math/bits.deBruijn32tab", laid_math_bits_deBruijn32tab)] }
def ExpoBackSaid : Prop := expoBackRow.holds Tryd.pinned (OpenSpec.ofChange expoBackSpec)

/-- ITS FALSE NEIGHBOUR: 'it returns false'. Refute it at one input. -/
def expoBackWrong : ChangeSpec := { name := "expoBack", fn := fun _ => fun
  | [d] => { results := [.lit (.bool false)], args := [d] }
  | _ => none }
def ExpoBackWrongFalsely : Prop := expoBackRow.holds Tryd.pinned (OpenSpec.ofChange expoBackWrong)

/-- 'ulpkeep.ExpoBounds': WHATEVER THE INPUT: true; the input reads as it did. -/
def expoBoundsSpec : ChangeSpec := { name := "expoBounds", fn := fun _ => fun
  | [d] => { results := [.lit (.bool true)], args := [d] }
  | _ => none }
def expoBoundsRow : OpenClaim := { program := "ytifadajkngncmaadoor", sum := "27a0b7555fb351b4616c8a27210ee51ec522e1d000d4a24b1d77cbc94eb8c4c7", func := "ulpwright/ulpkeep.ExpoBounds", spec := "expoBounds", unfollowed := true, recurses := true, named := ["math/bits.deBruijn32tab"], apart := false, laid := [("math/bits.deBruijn32tab", laid_math_bits_deBruijn32tab)] }
def ExpoBoundsSaid : Prop := expoBoundsRow.holds Tryd.pinned (OpenSpec.ofChange expoBoundsSpec)

/-- ITS FALSE NEIGHBOUR: 'it returns false'. Refute it at one input. -/
def expoBoundsWrong : ChangeSpec := { name := "expoBounds", fn := fun _ => fun
  | [d] => { results := [.lit (.bool false)], args := [d] }
  | _ => none }
def ExpoBoundsWrongFalsely : Prop := expoBoundsRow.holds Tryd.pinned (OpenSpec.ofChange expoBoundsWrong)

/-- 'ulpkeep.CoinExp': WHATEVER THE INPUT: true; the input reads as it did. -/
def coinExpSpec : ChangeSpec := { name := "coinExp", fn := fun _ => fun
  | [d1, d2, d3] => { results := [.lit (.bool true)], args := [d1, d2, d3] }
  | _ => none }
def coinExpRow : OpenClaim := { program := "ytifadajkngncmaadoor", sum := "27a0b7555fb351b4616c8a27210ee51ec522e1d000d4a24b1d77cbc94eb8c4c7", func := "ulpwright/ulpkeep.CoinExp", spec := "coinExp", unfollowed := true, recurses := true, named := ["math/bits.deBruijn32tab"], apart := false, laid := [("math/bits.deBruijn32tab", laid_math_bits_deBruijn32tab)] }
def CoinExpSaid : Prop := coinExpRow.holds Tryd.pinned (OpenSpec.ofChange coinExpSpec)

/-- ITS FALSE NEIGHBOUR: 'it returns false'. Refute it at one input. -/
def coinExpWrong : ChangeSpec := { name := "coinExp", fn := fun _ => fun
  | [d1, d2, d3] => { results := [.lit (.bool false)], args := [d1, d2, d3] }
  | _ => none }
def CoinExpWrongFalsely : Prop := coinExpRow.holds Tryd.pinned (OpenSpec.ofChange coinExpWrong)

/- THE SECOND FORM. 'bulk': how many values and letters a reading holds, each counted each time it is reached (what is shared counts as often as it is met; a slice's spare places count too). A statement '..UptoSaid' is the law's where the arguments, and the package variables that the reading takes, are together of bulk at most 1048576: NARROWER than '..Said'. Prove '..Said' where nothing that the law and all that it calls make is longer than what came in: it says more and counts as full. Else prove '..UptoSaid'. A law counts once. -/
mutual
def uptoBulk {H : Type} : DataW H → Nat
  | .lit (.string bytes) => bytes.length + 1
  | .lit _ => 1
  | .nil => 1
  | .ptr d => uptoBulk d + 1
  | .slice elems spare => uptoBulkAll elems + uptoBulkAll spare + 1
  | .agg parts => uptoBulkAll parts + 1
  | .iface _ d => uptoBulk d + 1
  | .map entries => uptoBulkEntries entries + 1
  | .held _ => 1
def uptoBulkAll {H : Type} : List (DataW H) → Nat
  | [] => 0
  | d :: r => uptoBulk d + uptoBulkAll r
def uptoBulkEntries {H : Type} : List (Lit × DataW H) → Nat
  | [] => 0
  | x :: r => uptoBulkEntry x + uptoBulkEntries r
def uptoBulkEntry {H : Type} : Lit × DataW H → Nat
  | (.string bytes, d) => bytes.length + uptoBulk d + 1
  | (_, d) => uptoBulk d + 1
 end
def uptoSmall : (H : Type) → List (DataW H) → Bool := fun _ ds => decide (uptoBulkAll ds ≤ 1048576)
def OpenSpec.upto (s : _root_.Go.ChangeSpec) : _root_.Go.OpenSpec := { _root_.Go.OpenSpec.ofChange s with cond := some uptoSmall }

/-- 'ulpkeep.SeriesOrder', WHERE WHAT IT READS IS OF BULK AT MOST 1048576: true; the input reads as it did. -/
def seriesOrderUptoRow : OpenClaim := { program := "ytifadajkngncmaadoor", sum := "27a0b7555fb351b4616c8a27210ee51ec522e1d000d4a24b1d77cbc94eb8c4c7", func := "ulpwright/ulpkeep.SeriesOrder", spec := "seriesOrder", unfollowed := true, recurses := true, named := ["math/bits.deBruijn32tab"], apart := false, laid := [("math/bits.deBruijn32tab", laid_math_bits_deBruijn32tab)], narrowed := true }
def SeriesOrderUptoSaid : Prop := seriesOrderUptoRow.holds Tryd.pinned (OpenSpec.upto seriesOrderSpec)

/-- 'ulpkeep.SeriesPlaces', WHERE WHAT IT READS IS OF BULK AT MOST 1048576: true; the input reads as it did. -/
def seriesPlacesUptoRow : OpenClaim := { program := "ytifadajkngncmaadoor", sum := "27a0b7555fb351b4616c8a27210ee51ec522e1d000d4a24b1d77cbc94eb8c4c7", func := "ulpwright/ulpkeep.SeriesPlaces", spec := "seriesPlaces", unfollowed := true, recurses := true, named := ["math/bits.deBruijn32tab"], apart := false, laid := [("math/bits.deBruijn32tab", laid_math_bits_deBruijn32tab)], narrowed := true }
def SeriesPlacesUptoSaid : Prop := seriesPlacesUptoRow.holds Tryd.pinned (OpenSpec.upto seriesPlacesSpec)

/-- 'ulpkeep.SeriesBack', WHERE WHAT IT READS IS OF BULK AT MOST 1048576: true; the input reads as it did. -/
def seriesBackUptoRow : OpenClaim := { program := "ytifadajkngncmaadoor", sum := "27a0b7555fb351b4616c8a27210ee51ec522e1d000d4a24b1d77cbc94eb8c4c7", func := "ulpwright/ulpkeep.SeriesBack", spec := "seriesBack", unfollowed := true, recurses := true, named := ["math/bits.deBruijn32tab"], apart := false, laid := [("math/bits.deBruijn32tab", laid_math_bits_deBruijn32tab)], narrowed := true }
def SeriesBackUptoSaid : Prop := seriesBackUptoRow.holds Tryd.pinned (OpenSpec.upto seriesBackSpec)

/-- 'ulpkeep.SeriesSums', WHERE WHAT IT READS IS OF BULK AT MOST 1048576: true; the input reads as it did. -/
def seriesSumsUptoRow : OpenClaim := { program := "ytifadajkngncmaadoor", sum := "27a0b7555fb351b4616c8a27210ee51ec522e1d000d4a24b1d77cbc94eb8c4c7", func := "ulpwright/ulpkeep.SeriesSums", spec := "seriesSums", unfollowed := true, recurses := true, named := ["math/bits.deBruijn32tab"], apart := false, laid := [("math/bits.deBruijn32tab", laid_math_bits_deBruijn32tab)], narrowed := true }
def SeriesSumsUptoSaid : Prop := seriesSumsUptoRow.holds Tryd.pinned (OpenSpec.upto seriesSumsSpec)

/-- 'ulpkeep.SeriesPowers', WHERE WHAT IT READS IS OF BULK AT MOST 1048576: true; the input reads as it did. -/
def seriesPowersUptoRow : OpenClaim := { program := "ytifadajkngncmaadoor", sum := "27a0b7555fb351b4616c8a27210ee51ec522e1d000d4a24b1d77cbc94eb8c4c7", func := "ulpwright/ulpkeep.SeriesPowers", spec := "seriesPowers", unfollowed := true, recurses := true, named := ["math/bits.deBruijn32tab"], apart := false, laid := [("math/bits.deBruijn32tab", laid_math_bits_deBruijn32tab)], narrowed := true }
def SeriesPowersUptoSaid : Prop := seriesPowersUptoRow.holds Tryd.pinned (OpenSpec.upto seriesPowersSpec)

/-- 'ulpkeep.ExpoLost', WHERE WHAT IT READS IS OF BULK AT MOST 1048576: true; the input reads as it did. -/
def expoLostUptoRow : OpenClaim := { program := "ytifadajkngncmaadoor", sum := "27a0b7555fb351b4616c8a27210ee51ec522e1d000d4a24b1d77cbc94eb8c4c7", func := "ulpwright/ulpkeep.ExpoLost", spec := "expoLost", unfollowed := true, recurses := true, named := ["math/bits.deBruijn32tab"], apart := false, laid := [("math/bits.deBruijn32tab", laid_math_bits_deBruijn32tab)], narrowed := true }
def ExpoLostUptoSaid : Prop := expoLostUptoRow.holds Tryd.pinned (OpenSpec.upto expoLostSpec)

/-- 'ulpkeep.ExpoOrder', WHERE WHAT IT READS IS OF BULK AT MOST 1048576: true; the input reads as it did. -/
def expoOrderUptoRow : OpenClaim := { program := "ytifadajkngncmaadoor", sum := "27a0b7555fb351b4616c8a27210ee51ec522e1d000d4a24b1d77cbc94eb8c4c7", func := "ulpwright/ulpkeep.ExpoOrder", spec := "expoOrder", unfollowed := true, recurses := true, named := ["math/bits.deBruijn32tab"], apart := false, laid := [("math/bits.deBruijn32tab", laid_math_bits_deBruijn32tab)], narrowed := true }
def ExpoOrderUptoSaid : Prop := expoOrderUptoRow.holds Tryd.pinned (OpenSpec.upto expoOrderSpec)

/-- 'ulpkeep.ExpoSides', WHERE WHAT IT READS IS OF BULK AT MOST 1048576: true; the input reads as it did. -/
def expoSidesUptoRow : OpenClaim := { program := "ytifadajkngncmaadoor", sum := "27a0b7555fb351b4616c8a27210ee51ec522e1d000d4a24b1d77cbc94eb8c4c7", func := "ulpwright/ulpkeep.ExpoSides", spec := "expoSides", unfollowed := true, recurses := true, named := ["math/bits.deBruijn32tab"], apart := false, laid := [("math/bits.deBruijn32tab", laid_math_bits_deBruijn32tab)], narrowed := true }
def ExpoSidesUptoSaid : Prop := expoSidesUptoRow.holds Tryd.pinned (OpenSpec.upto expoSidesSpec)

/-- 'ulpkeep.ExpoBack', WHERE WHAT IT READS IS OF BULK AT MOST 1048576: true; the input reads as it did. -/
def expoBackUptoRow : OpenClaim := { program := "ytifadajkngncmaadoor", sum := "27a0b7555fb351b4616c8a27210ee51ec522e1d000d4a24b1d77cbc94eb8c4c7", func := "ulpwright/ulpkeep.ExpoBack", spec := "expoBack", unfollowed := true, recurses := true, named := ["math/bits.deBruijn32tab"], apart := false, laid := [("math/bits.deBruijn32tab", laid_math_bits_deBruijn32tab)], narrowed := true }
def ExpoBackUptoSaid : Prop := expoBackUptoRow.holds Tryd.pinned (OpenSpec.upto expoBackSpec)

/-- 'ulpkeep.ExpoBounds', WHERE WHAT IT READS IS OF BULK AT MOST 1048576: true; the input reads as it did. -/
def expoBoundsUptoRow : OpenClaim := { program := "ytifadajkngncmaadoor", sum := "27a0b7555fb351b4616c8a27210ee51ec522e1d000d4a24b1d77cbc94eb8c4c7", func := "ulpwright/ulpkeep.ExpoBounds", spec := "expoBounds", unfollowed := true, recurses := true, named := ["math/bits.deBruijn32tab"], apart := false, laid := [("math/bits.deBruijn32tab", laid_math_bits_deBruijn32tab)], narrowed := true }
def ExpoBoundsUptoSaid : Prop := expoBoundsUptoRow.holds Tryd.pinned (OpenSpec.upto expoBoundsSpec)

/-- 'ulpkeep.CoinExp', WHERE WHAT IT READS IS OF BULK AT MOST 1048576: true; the input reads as it did. -/
def coinExpUptoRow : OpenClaim := { program := "ytifadajkngncmaadoor", sum := "27a0b7555fb351b4616c8a27210ee51ec522e1d000d4a24b1d77cbc94eb8c4c7", func := "ulpwright/ulpkeep.CoinExp", spec := "coinExp", unfollowed := true, recurses := true, named := ["math/bits.deBruijn32tab"], apart := false, laid := [("math/bits.deBruijn32tab", laid_math_bits_deBruijn32tab)], narrowed := true }
def CoinExpUptoSaid : Prop := coinExpUptoRow.holds Tryd.pinned (OpenSpec.upto coinExpSpec)

end Rows
end Go.Proofs.YtifadajkngncmaaDoor
