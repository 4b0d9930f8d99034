/- Chapter 18: Exact's two functions. -/
import Derived.Test.YtpbbnmjkbfbelabDoorXc
set_option linter.unusedSimpArgs false
set_option linter.unusedVariables false
namespace Go.Sy
open Go Go.RowKit
def v3 (p : P3) : Value := .agg #[.int .i64 (p.1 : Int), .int .i64 (p.2.1 : Int), .int .i64 (p.2.2 : Int)]
end Go.Sy
namespace Go.Proofs.YtpbbnmjkbfbelabDoor
open Go Go.Sy Go.RowKit
end Go.Proofs.YtpbbnmjkbfbelabDoor
