/-
  slices.Sort at []uint64: what it leaves is the sorted list (the walks joined).
-/
import Derived.Sort.AssemblyPlain
import Derived.Test.YthibhlimogcpeaaSuZ
import Derived.Test.YthibhlimogcpeaaSuN
import Derived.Test.YthibhlimogcpeaaSuK
import Derived.Test.YthibhlimogcpeaaSuV
import Derived.Test.YthibhlimogcpeaaSuP
import Derived.Test.YthibhlimogcpeaaSuT
import Derived.Test.YthibhlimogcpeaaSuE
import Derived.Test.YthibhlimogcpeaaSuY
import Derived.Test.YthibhlimogcpeaaSuH
set_option linter.unusedVariables false
set_option linter.unusedSimpArgs false
namespace Go.Proofs.Ythibhlimogcpeaa
open Go.Sort Go.RowKit Go.Proofs

theorem callees13 : Callees13 := {
  ins := SoU.insertionSort_int
  brk := SoU.breakPatterns_int
  piv := SoU.choosePivot_int
  par := SoU.partialInsertionSort_int
  peq := SoU.partitionEqualOrdered_int
  prt := SoU.partitionOrdered_int }
theorem plain13u : Plain13 := {
  swo := swo_ltInt
  ins := insertionSort_holds
  par := partialInsertionSort_holds
  prt := partition_holds _
  peq := partitionEqual_holds _
  pdq := pdq_sorts _ }
theorem pdqWalkU : pdqWalk_int := fun blk off cap a b limit d w hH hb hab hbd hsz hl hB =>
  SoU.pdqsort_int callees13 plain13u (b - a + 1) blk off cap a b limit d w (by omega) hH hb hab hbd hsz hl hB
theorem sort_u64_eq (zs : List Int) : Sort.sort ltInt zs.toArray = (zs.mergeSort fun x y => decide (x ≤ y)).toArray := by
  rw [← sortInt zs]
theorem sortU_some (blk off cap : Nat) (zs : List Int) (w : World) (hH : Holds (Value.int .u64) w blk off zs.toArray) (hblk : blk < w.heap.size) (hsz : zs.length < 4611686018427387904) :
    Calls Try.prog 6 #[.slice (some ⟨blk, off, none⟩) zs.length cap] w fun e w' =>
      e = .returned (.tuple #[]) ∧ ∃ n os, w' = grow (putRow (Value.int .u64) (Sort.ahead w n) blk off (zs.mergeSort fun x y => decide (x ≤ y)).toArray) os := by
  have h := SoU.Sort_int pdqWalkU blk off cap zs.toArray w hH hblk (by simpa using hsz)
  rw [sort_u64_eq] at h
  simpa using h
end Go.Proofs.Ythibhlimogcpeaa
