/- Chapter 18: no alignment is cheaper than the one chosen; plain law. -/
import Derived.Test.YtpbbnmjkbfbelaaGreatDoorXf
set_option linter.unusedSimpArgs false
set_option linter.unusedVariables false
namespace Go.Sy
open Go Go.RowKit
end Go.Sy
