/- Chapter 18: the reference's small functions of Exact. -/
import Derived.Test.YtialbhieaipcgaaDoorBq
set_option linter.unusedSimpArgs false
set_option linter.unusedVariables false
/- Chapter 18: the reference's small functions of Exact. -/
namespace Go.Sy
open Go Go.RowKit
end Go.Sy
namespace Go.Proofs.YtialbhieaipcgaaDoor
open Go Go.Sy Go.RowKit
end Go.Proofs.YtialbhieaipcgaaDoor
/- Chapter 18: the reference's Exact. -/
namespace Go.Sy
open Go Go.RowKit
end Go.Sy
namespace Go.Proofs.YtialbhieaipcgaaDoor
open Go Go.Sy Go.RowKit
end Go.Proofs.YtialbhieaipcgaaDoor
