/- Chapter 18: what is looked at; the laws of scores, of words aligned one after the other, of the cheapest alignment. -/
import Derived.Test.YtialbhieaipcgaaDoorBs
import Derived.Test.YtialbhieaipcgaaDoorTcAligns
import Derived.Test.YtialbhieaipcgaaDoorTcExacts
import Derived.Test.YtialbhieaipcgaaDoorTcScores
set_option linter.unusedSimpArgs false
set_option linter.unusedVariables false
namespace Go.Sy
open Go Go.RowKit
end Go.Sy
namespace Go.Proofs.YtialbhieaipcgaaDoor
open Go Go.Sy Go.RowKit
end Go.Proofs.YtialbhieaipcgaaDoor
