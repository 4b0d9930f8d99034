/- Chapter 19: rows of numbers as arguments. -/
import Derived.Test.YthabfpagilbplaaDoorRb
import Derived.Test.YthabfpagilbplaaDoorWf
set_option linter.unusedSimpArgs false
set_option linter.unusedVariables false
namespace Go.Proofs.YthabfpagilbplaaDoor
open Go Go.Sy Go.ChangeShapes Go.WideShapes Go.ChangeAt Go.WideElems Go.RowKit Go.Joins Go.Deep
end Go.Proofs.YthabfpagilbplaaDoor
