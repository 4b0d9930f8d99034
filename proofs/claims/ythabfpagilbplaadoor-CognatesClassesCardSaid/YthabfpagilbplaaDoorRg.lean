/- Chapter 19: the reference's Table, and the law Tables. -/
import Derived.Test.YthabfpagilbplaaDoorRf
import Derived.Test.YthabfpagilbplaaDoorTcTables
set_option linter.unusedSimpArgs false
set_option linter.unusedVariables false
namespace Go.Proofs.YthabfpagilbplaaDoor
open Go Go.Sy Go.RowKit
end Go.Proofs.YthabfpagilbplaaDoor
