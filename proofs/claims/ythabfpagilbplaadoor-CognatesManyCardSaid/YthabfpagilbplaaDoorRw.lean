/- Chapter 19: the law Turned. -/
import Derived.Test.YthabfpagilbplaaDoorRv
import Derived.Test.YthabfpagilbplaaDoorTcTurned
set_option linter.unusedSimpArgs false
set_option linter.unusedVariables false
namespace Go.Proofs.YthabfpagilbplaaDoor
open Go Go.Sy Go.RowKit
end Go.Proofs.YthabfpagilbplaaDoor
