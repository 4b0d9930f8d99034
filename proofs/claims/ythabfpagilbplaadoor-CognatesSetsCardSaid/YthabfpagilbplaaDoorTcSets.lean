/- The trees of this seat's functions, printed by a program of mine (SyGen), checked here by the kernel. -/
import Derived.Test.YthabfpagilbplaaDoorSyDef
import Derived.Test.YthabfpagilbplaaDoorProg
import Derived.KernelRfl
set_option maxRecDepth 100000
namespace Go.Proofs.YthabfpagilbplaaDoor
open Go Go.Sy
/-! 10 ablaut/ablautlaw19.CognatesSets  -/
abbrev n_law19_CognatesSets : FuncId := 10
def T_law19_CognatesSets : Tree :=
 (.chk (.cmp .geq (.var 1) (.lit 0))
 (.ite (.cmp .gtr (.var 1) (.lit 300))
  (.call false 16 [] .bool []
  (.ret (.bool (.var 3)) []))
  (.call false 41 [(.sl 0 (.lit 0) (.var 1) (.var 2))] (.tup [.sl, (.int .i64)]) []
  (.call false 42 [(.sl 0 (.lit 0) (.var 1) (.var 2))] (.tup [.sl, (.int .i64)]) []
  (.call false 43 [(.sl 3 (.lit 0) (.var 4) (.var 5)), (.sl 7 (.lit 0) (.var 8) (.var 9))] .bool []
  (.ite (.pick (.var 11) (.cmp .eql (.var 6) (.var 10)) (.lit false))
   (.call false 16 [] .bool []
   (.ret (.bool (.var 12)) []))
   (.ret (.bool (.lit false)) [])))))))
theorem S_law19_CognatesSets : FnIs Tryd.prog n_law19_CognatesSets [.sl] T_law19_CognatesSets := ⟨Tryd.f10, [], 4000, Tryd.func10, by kernel_rfl⟩
end Go.Proofs.YthabfpagilbplaaDoor
