/- The trees of this seat's functions, printed by a program of mine (SyGen), checked here by the kernel. -/
import Derived.Test.YthabfpagilbplaaDoorSyDef
import Derived.Test.YthabfpagilbplaaDoorProg
import Derived.KernelRfl
set_option maxRecDepth 100000
namespace Go.Proofs.YthabfpagilbplaaDoor
open Go Go.Sy
/-! 41 ablaut/cognates.Sets  -/
/-! 42 ablaut/ablautref19.Sets  -/
/-! 43 ablaut/ablautlaw19.lists  -/
/-! 77 slices.EqualFunc[[][]int,[][]int,[]int,[]int]  -/
/-! 78 ablaut/ablautlaw19.lists$1  -/
end Go.Proofs.YthabfpagilbplaaDoor
