/-
  For the law ReadForms: ok at two errors; the exponent's four bytes.
-/
import Derived.Test.YthlocmhfjandlaaDoorRfa
import Derived.Test.YthlocmhfjandlaaDoorBa
import Derived.Test.YthlocmhfjandlaaDoorLk
import Derived.BigQuiet
import Derived.Deep.QuietTactic
import Derived.Lib.SlBytesRow
set_option linter.unusedVariables false
set_option linter.unusedSimpArgs false
namespace Go.Proofs.YthlocmhfjandlaaDoor
open Go.RowKit Nt Fm Fl
theorem ok_bl2 (x0 x1 : Int) (w : World) (b : Nat) (hb : b = w.heap.size) :
    Calls Tryd.prog 16 #[.slice (some ⟨b, 0, none⟩) 2 2] (w.alloc (.cells #[.int .i64 x0, .int .i64 x1] 23)) fun e w' => e = .returned (.bool (ok2 x0 x1)) ∧ Below w.heap.size w w' :=
  (ok_new2 x0 x1 w b hb).mono (by rintro e w' ⟨rfl, rfl⟩; exact ⟨rfl, (Below.refl _ _).alloc (Nat.le_refl _) _⟩)
theorem e4_bytes (n : Nat) (h : n ≤ 9001) : ∀ i (hi : i < (⟨(e4 n).toArray⟩ : ByteArray).size), (#[Value.int .u8 (48 + (n : Int) / 1000 % 10), Value.int .u8 (48 + (n : Int) / 100 % 10), Value.int .u8 (48 + (n : Int) / 10 % 10), Value.int .u8 (48 + (n : Int) % 10)] : Array Value)[i]? = some (.int .u8 (((⟨(e4 n).toArray⟩ : ByteArray)[i]'hi).toNat : Int)) := by
  intro i hi
  have h3 : (⟨(e4 n).toArray⟩ : ByteArray).size = 4 := rfl
  have hc : i = 0 ∨ i = 1 ∨ i = 2 ∨ i = 3 := by omega
  rcases hc with rfl | rfl | rfl | rfl
  · show some (Value.int .u8 (48 + (n : Int) / 1000 % 10)) = some (.int .u8 (((UInt8.ofNat (48 + n / 1000 % 10)).toNat : Nat) : Int))
    rw [UInt8.toNat_ofNat_of_lt' (by show _ < 256; omega)]
    congr 2
  · show some (Value.int .u8 (48 + (n : Int) / 100 % 10)) = some (.int .u8 (((UInt8.ofNat (48 + n / 100 % 10)).toNat : Nat) : Int))
    rw [UInt8.toNat_ofNat_of_lt' (by show _ < 256; omega)]
    congr 2
  · show some (Value.int .u8 (48 + (n : Int) / 10 % 10)) = some (.int .u8 (((UInt8.ofNat (48 + n / 10 % 10)).toNat : Nat) : Int))
    rw [UInt8.toNat_ofNat_of_lt' (by show _ < 256; omega)]
    congr 2
  · show some (Value.int .u8 (48 + (n : Int) % 10)) = some (.int .u8 (((UInt8.ofNat (48 + n % 10)).toNat : Nat) : Int))
    rw [UInt8.toNat_ofNat_of_lt' (by show _ < 256; omega)]
    congr 2
theorem rf_conv (n : Nat) (h : n ≤ 9001) (w : World) (T : ByteArray) (hT : T = ⟨(e4 n).toArray⟩) : (convert 58 9 (.slice (some ⟨w.heap.size, 0, none⟩) 4 4)).run Tryd.prog (w.alloc (.cells #[.int .u8 (48 + (n : Int) / 1000 % 10), .int .u8 (48 + (n : Int) / 100 % 10), .int .u8 (48 + (n : Int) / 10 % 10), .int .u8 (48 + (n : Int) % 10)] 5)) =
    .ok (.string T) (w.alloc (.cells #[.int .u8 (48 + (n : Int) / 1000 % 10), .int .u8 (48 + (n : Int) / 100 % 10), .int .u8 (48 + (n : Int) / 10 % 10), .int .u8 (48 + (n : Int) % 10)] 5)) := by
  subst hT
  have hb : Lib.Bytes (w.alloc (.cells #[.int .u8 (48 + (n : Int) / 1000 % 10), .int .u8 (48 + (n : Int) / 100 % 10), .int .u8 (48 + (n : Int) / 10 % 10), .int .u8 (48 + (n : Int) % 10)] 5)) w.heap.size 0 ⟨(e4 n).toArray⟩ := by
    intro i hi
    have h1 := e4_bytes n h i hi
    have h2 : (w.alloc (.cells #[.int .u8 (48 + (n : Int) / 1000 % 10), .int .u8 (48 + (n : Int) / 100 % 10), .int .u8 (48 + (n : Int) / 10 % 10), .int .u8 (48 + (n : Int) % 10)] 5)).heap[w.heap.size]? = some (.cells #[.int .u8 (48 + (n : Int) / 1000 % 10), .int .u8 (48 + (n : Int) / 100 % 10), .int .u8 (48 + (n : Int) / 10 % 10), .int .u8 (48 + (n : Int) % 10)] 5 (0, 0)) := heap_alloc_new w _
    unfold World.cell?
    rw [Nat.zero_add]
    simp only [h2]
    exact h1
  exact Lib.run_convert_whole _ 58 5 9 Tryd.underlying58 Tryd.underlying5 Tryd.underlying9 _ _ _ hb 4
end Go.Proofs.YthlocmhfjandlaaDoor
