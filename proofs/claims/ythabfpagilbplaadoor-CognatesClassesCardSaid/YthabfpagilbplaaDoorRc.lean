/- Chapter 19: lists of lists compared. -/
import Derived.Test.YthabfpagilbplaaDoorRb
import Derived.Test.YthabfpagilbplaaDoorTh
set_option linter.unusedSimpArgs false
set_option linter.unusedVariables false
namespace Go.Proofs.YthabfpagilbplaaDoor
open Go Go.Sy Go.RowKit
end Go.Proofs.YthabfpagilbplaaDoor
