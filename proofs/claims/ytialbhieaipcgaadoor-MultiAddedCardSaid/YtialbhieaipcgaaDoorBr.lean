/- Chapter 18: the reference's small functions of Exact. -/
import Derived.Test.YtialbhieaipcgaaDoorBq
set_option linter.unusedSimpArgs false
set_option linter.unusedVariables false
/- Chapter 18: the reference's small functions of Exact. -/
namespace Go.Sy
open Go Go.RowKit
end Go.Sy
namespace Go.Proofs.YtialbhieaipcgaaDoor
open Go Go.Sy Go.RowKit
end Go.Proofs.YtialbhieaipcgaaDoor
/- Chapter 18: the reference's Exact. -/
namespace Go.Sy
open Go Go.RowKit
theorem row_ints {n : Nat} : List.replicate n (.int .i64 0 : Value) = intsL (List.replicate n 0) := by unfold intsL; rw [List.map_replicate]
end Go.Sy
namespace Go.Proofs.YtialbhieaipcgaaDoor
open Go Go.Sy Go.RowKit
theorem int_info : (Tryd.prog.info? 3).map (fun i => (i.zero, i.size, i.bytes)) = some (some (.int .i64 0), 1, 8) := by kernel_rfl
end Go.Proofs.YtialbhieaipcgaaDoor
