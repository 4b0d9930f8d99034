/- The trees of this seat's functions, printed by a program of mine (SyGen), checked here by the kernel. -/
import Derived.Test.YthabfpagilbplaaDoorSyDef
import Derived.Test.YthabfpagilbplaaDoorProg
import Derived.KernelRfl
set_option maxRecDepth 100000
namespace Go.Proofs.YthabfpagilbplaaDoor
open Go Go.Sy
/-! 45 ablaut/cognates.Table  -/
/-! 46 ablaut/ablautref19.Table  -/
/-! 81 slices.ContainsFunc[[]ablaut/api.Entry,ablaut/api.Entry]  -/
/-! 82 ablaut/cognates.Table$1  -/
/-! 101 slices.IndexFunc[[]ablaut/api.Entry,ablaut/api.Entry]  -/
end Go.Proofs.YthabfpagilbplaaDoor
