/- Chapter 19: the laws Compares and Labels. -/
import Derived.Test.YthabfpagilbplaaDoorBh
import Derived.Test.YthabfpagilbplaaDoorTcCompares
import Derived.Test.YthabfpagilbplaaDoorTcLabels
set_option linter.unusedSimpArgs false
set_option linter.unusedVariables false
namespace Go.Proofs.YthabfpagilbplaaDoor
open Go Go.Sy Go.RowKit
end Go.Proofs.YthabfpagilbplaaDoor
