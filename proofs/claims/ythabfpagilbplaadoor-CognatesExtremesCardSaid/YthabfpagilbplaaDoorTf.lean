/- The trees of this seat's functions, printed by a program of mine (SyGen), checked here by the kernel. -/
import Derived.Test.YthabfpagilbplaaDoorSyDef
import Derived.Test.YthabfpagilbplaaDoorProg
import Derived.KernelRfl
set_option maxRecDepth 100000
namespace Go.Proofs.YthabfpagilbplaaDoor
open Go Go.Sy
/-! 18 ablaut/ablautref19.Labels  -/
/-! 20 ablaut/ablautref19.Average  -/
/-! 23 ablaut/ablautref19.Compare  -/
/-! 25 ablaut/ablautref19.Cubed  -/
/-! 37 ablaut/ablautref19.Shared  -/
/-! 56 ablaut/ablautref19.check  -/
/-! 57 ablaut/ablautref19.alone  -/
/-! 59 ablaut/ablautref19.AtMost  -/
/-! 60 ablaut/ablautref19.unite  -/
/-! 62 ablaut/ablautref19.ratio  -/
/-! 67 ablaut/ablautref19.wrong  -/
/-! 68 ablaut/ablautref19.pairs  -/
/-! 69 ablaut/ablautref19.share  -/
/-! 71 ablaut/ablautref19.cubed  -/
/-! 87 ablaut/ablautref19.empty  -/
/-! 88 ablaut/ablautref19.words  -/
/-! 89 ablaut/ablautref19.limits  -/
/-! 95 ablaut/ablautref19.both  -/
/-! 96 ablaut/ablautref19.divisor  -/
end Go.Proofs.YthabfpagilbplaaDoor
