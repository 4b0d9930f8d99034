/- Chapter 18: Exact's choice. -/
import Derived.Test.YtpbbnmjkbfbelaaGreatDoorXd
set_option linter.unusedSimpArgs false
set_option linter.unusedVariables false
namespace Go.Sy
open Go Go.RowKit
end Go.Sy
namespace Go.Proofs.YtpbbnmjkbfbelaaGreatDoor
open Go Go.Sy Go.RowKit
end Go.Proofs.YtpbbnmjkbfbelaaGreatDoor
