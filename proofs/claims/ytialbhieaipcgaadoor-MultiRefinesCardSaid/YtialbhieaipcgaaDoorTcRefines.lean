/- The trees of this seat's functions, printed by a program of mine (SyGen), checked here by the kernel. -/
import Derived.Test.YtialbhieaipcgaaDoorSyDef
import Derived.Test.YtialbhieaipcgaaDoorProg
import Derived.KernelRfl
set_option maxRecDepth 100000
namespace Go.Proofs.YtialbhieaipcgaaDoor
open Go Go.Sy
/-! 10 ablaut/ablautlaw18.MultiRefines  -/
abbrev n_law18_MultiRefines : FuncId := 10
def T_law18_MultiRefines : Tree :=
 (.alloc
 (.join 0 [.bool] [⟨[(.sl 6 (.lit 0) (.var 7) (.var 8)), (.int .i64 (.var 9))], 26⟩]
  (.call false 15 [(.sl 0 (.lit 0) (.var 1) (.var 2)), (.sl 3 (.lit 0) (.var 4) (.var 5))] .bool [⟨[(.sl 6 (.lit 0) (.var 7) (.var 8)), (.int .i64 (.var 9))], 26⟩]
  (.ite (.not (.var 10))
   (.again 0 1 [.bool] [(.bool (.lit true))] [⟨[(.sl 6 (.lit 0) (.var 7) (.var 8)), (.int .i64 (.var 9))], 26⟩])
   (.call false 19 [(.sl 0 (.lit 0) (.var 1) (.var 2))] .bool [⟨[(.sl 6 (.lit 0) (.var 7) (.var 8)), (.int .i64 (.var 9))], 26⟩]
   (.again 0 1 [.bool] [(.bool (.not (.var 11)))] [⟨[(.sl 6 (.lit 0) (.var 7) (.var 8)), (.int .i64 (.var 9))], 26⟩]))))
 (.ite (.var 10)
  (.call false 16 [] .bool [⟨[(.sl 6 (.lit 0) (.var 7) (.var 8)), (.int .i64 (.var 9))], 26⟩]
  (.ret (.bool (.var 11)) [⟨[(.sl 6 (.lit 0) (.var 7) (.var 8)), (.int .i64 (.var 9))], 26⟩]))
  (.call false 33 [(.sl 0 (.lit 0) (.var 1) (.var 2)), (.sl 3 (.lit 0) (.var 4) (.var 5)), (.agg [(.sl 6 (.lit 0) (.var 7) (.var 8)), (.int .i64 (.var 9))])] (.tup [.sl, (.int .i64)]) [⟨[(.sl 6 (.lit 0) (.var 7) (.var 8)), (.int .i64 (.var 9))], 26⟩]
  (.call false 34 [(.sl 0 (.lit 0) (.var 1) (.var 2)), (.sl 3 (.lit 0) (.var 4) (.var 5)), (.agg [(.sl 6 (.lit 0) (.var 7) (.var 8)), (.int .i64 (.var 9))])] (.tup [.sl, (.int .i64)]) [⟨[(.sl 6 (.lit 0) (.var 7) (.var 8)), (.int .i64 (.var 9))], 26⟩]
  (.join 0 [.bool] [⟨[(.sl 6 (.lit 0) (.var 7) (.var 8)), (.int .i64 (.var 9))], 26⟩]
   (.ite (.cmp .eql (.var 14) (.var 18))
    (.call false 22 [(.sl 11 (.lit 0) (.var 12) (.var 13)), (.sl 15 (.lit 0) (.var 16) (.var 17))] .bool [⟨[(.sl 6 (.lit 0) (.var 7) (.var 8)), (.int .i64 (.var 9))], 26⟩]
    (.ite (.var 19)
     (.call false 16 [] .bool [⟨[(.sl 6 (.lit 0) (.var 7) (.var 8)), (.int .i64 (.var 9))], 26⟩]
     (.again 0 1 [.bool] [(.bool (.var 20))] [⟨[(.sl 6 (.lit 0) (.var 7) (.var 8)), (.int .i64 (.var 9))], 26⟩]))
     (.again 0 1 [.bool] [(.bool (.lit false))] [⟨[(.sl 6 (.lit 0) (.var 7) (.var 8)), (.int .i64 (.var 9))], 26⟩])))
    (.again 0 1 [.bool] [(.bool (.lit false))] [⟨[(.sl 6 (.lit 0) (.var 7) (.var 8)), (.int .i64 (.var 9))], 26⟩]))
  (.ret (.bool (.var 19)) [⟨[(.sl 6 (.lit 0) (.var 7) (.var 8)), (.int .i64 (.var 9))], 26⟩])))))))
theorem S_law18_MultiRefines : FnIs Tryd.prog n_law18_MultiRefines [.sl, .sl, (.agg [.sl, (.int .i64)])] T_law18_MultiRefines := ⟨Tryd.f10, [{ key := 200001, tmps := [(19, .bool)], join := true, dead := 70368743651352 }, { key := 200005, tmps := [], join := true }], 4000, Tryd.func10, by kernel_rfl⟩
end Go.Proofs.YtialbhieaipcgaaDoor
