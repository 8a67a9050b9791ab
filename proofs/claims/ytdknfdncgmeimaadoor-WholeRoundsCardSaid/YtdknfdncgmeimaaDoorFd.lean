/-
  A FIELD of a struct that lies in no memory.
-/
import Derived.Test.YtdknfdncgmeimaaDoorDv
set_option linter.unusedVariables false
set_option linter.unusedSimpArgs false
namespace Go.Proofs.YtdknfdncgmeimaaDoor
open Go.RowKit Nt Fm

theorem run_field2 (g : Bool) (s : Value) (e : Int) (w : World) : Sem.run Tryd.prog (Instr.field 25 (.agg #[.bool g, s, .int .i64 e]) 2) w = .ok (.int .i64 e) w := by
  first | kernel_rfl | (simp [Instr.field, go_sem, Tryd.underlying25]; trace_state)
end Go.Proofs.YtdknfdncgmeimaaDoor
