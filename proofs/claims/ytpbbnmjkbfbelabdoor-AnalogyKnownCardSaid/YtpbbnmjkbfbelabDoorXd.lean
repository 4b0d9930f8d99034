/- Chapter 18: Exact's two functions. -/
import Derived.Test.YtpbbnmjkbfbelabDoorXc
set_option linter.unusedSimpArgs false
set_option linter.unusedVariables false
namespace Go.Sy
open Go Go.RowKit
end Go.Sy
namespace Go.Proofs.YtpbbnmjkbfbelabDoor
open Go Go.Sy Go.RowKit
end Go.Proofs.YtpbbnmjkbfbelabDoor
