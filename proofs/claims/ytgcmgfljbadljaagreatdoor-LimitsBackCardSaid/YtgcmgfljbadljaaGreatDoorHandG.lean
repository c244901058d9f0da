/-
  Fields of a limit that is a value. Conditions: none.
-/
import Derived.Test.YtgcmgfljbadljaaGreatDoorHandM
namespace Go.Proofs.YtgcmgfljbadljaaGreatDoor.HandS
open Go.RowKit Go.Shelf Go.Lib
@[go_sem] theorem field42_0 (x : ByteArray) (a b : Int) (w : World) : Sem.run Tryz.prog (Instr.field 42 (.agg #[.string x, .int .i64 a, .int .i64 b]) 0) w = Result.ok (.string x) w := by kernel_rfl
@[go_sem] theorem field42_1 (x : ByteArray) (a b : Int) (w : World) : Sem.run Tryz.prog (Instr.field 42 (.agg #[.string x, .int .i64 a, .int .i64 b]) 1) w = Result.ok (.int .i64 a) w := by kernel_rfl
@[go_sem] theorem field42_2 (x : ByteArray) (a b : Int) (w : World) : Sem.run Tryz.prog (Instr.field 42 (.agg #[.string x, .int .i64 a, .int .i64 b]) 2) w = Result.ok (.int .i64 b) w := by kernel_rfl
end Go.Proofs.YtgcmgfljbadljaaGreatDoor.HandS
