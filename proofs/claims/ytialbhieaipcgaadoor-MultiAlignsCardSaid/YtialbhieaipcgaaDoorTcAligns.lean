/- The trees of this seat's functions, printed by a program of mine (SyGen), checked here by the kernel. -/
import Derived.Test.YtialbhieaipcgaaDoorSyDef
import Derived.Test.YtialbhieaipcgaaDoorProg
import Derived.KernelRfl
set_option maxRecDepth 100000
namespace Go.Proofs.YtialbhieaipcgaaDoor
open Go Go.Sy
/-! 4 ablaut/ablautlaw18.MultiAligns  -/
abbrev n_law18_MultiAligns : FuncId := 4
def T_law18_MultiAligns : Tree :=
 (.alloc
 (.join 0 [.bool] [⟨[(.sl 3 (.lit 0) (.var 4) (.var 5)), (.int .i64 (.var 6))], 26⟩]
  (.call false 15 [(.sl 0 (.lit 0) (.var 1) (.var 2)), (.cst (.slice none 0 0))] .bool [⟨[(.sl 3 (.lit 0) (.var 4) (.var 5)), (.int .i64 (.var 6))], 26⟩]
  (.ite (.not (.var 7))
   (.again 0 1 [.bool] [(.bool (.lit true))] [⟨[(.sl 3 (.lit 0) (.var 4) (.var 5)), (.int .i64 (.var 6))], 26⟩])
   (.call false 19 [(.sl 0 (.lit 0) (.var 1) (.var 2))] .bool [⟨[(.sl 3 (.lit 0) (.var 4) (.var 5)), (.int .i64 (.var 6))], 26⟩]
   (.again 0 1 [.bool] [(.bool (.not (.var 8)))] [⟨[(.sl 3 (.lit 0) (.var 4) (.var 5)), (.int .i64 (.var 6))], 26⟩]))))
 (.ite (.var 7)
  (.call false 16 [] .bool [⟨[(.sl 3 (.lit 0) (.var 4) (.var 5)), (.int .i64 (.var 6))], 26⟩]
  (.ret (.bool (.var 8)) [⟨[(.sl 3 (.lit 0) (.var 4) (.var 5)), (.int .i64 (.var 6))], 26⟩]))
  (.call false 20 [(.sl 0 (.lit 0) (.var 1) (.var 2)), (.agg [(.sl 3 (.lit 0) (.var 4) (.var 5)), (.int .i64 (.var 6))])] (.tup [.sl, (.int .i64)]) [⟨[(.sl 3 (.lit 0) (.var 4) (.var 5)), (.int .i64 (.var 6))], 26⟩]
  (.call false 21 [(.sl 0 (.lit 0) (.var 1) (.var 2)), (.agg [(.sl 3 (.lit 0) (.var 4) (.var 5)), (.int .i64 (.var 6))])] (.tup [.sl, (.int .i64)]) [⟨[(.sl 3 (.lit 0) (.var 4) (.var 5)), (.int .i64 (.var 6))], 26⟩]
  (.join 0 [.bool] [⟨[(.sl 3 (.lit 0) (.var 4) (.var 5)), (.int .i64 (.var 6))], 26⟩]
   (.ite (.cmp .eql (.var 11) (.var 15))
    (.call false 22 [(.sl 8 (.lit 0) (.var 9) (.var 10)), (.sl 12 (.lit 0) (.var 13) (.var 14))] .bool [⟨[(.sl 3 (.lit 0) (.var 4) (.var 5)), (.int .i64 (.var 6))], 26⟩]
    (.ite (.var 16)
     (.call false 16 [] .bool [⟨[(.sl 3 (.lit 0) (.var 4) (.var 5)), (.int .i64 (.var 6))], 26⟩]
     (.again 0 1 [.bool] [(.bool (.var 17))] [⟨[(.sl 3 (.lit 0) (.var 4) (.var 5)), (.int .i64 (.var 6))], 26⟩]))
     (.again 0 1 [.bool] [(.bool (.lit false))] [⟨[(.sl 3 (.lit 0) (.var 4) (.var 5)), (.int .i64 (.var 6))], 26⟩])))
    (.again 0 1 [.bool] [(.bool (.lit false))] [⟨[(.sl 3 (.lit 0) (.var 4) (.var 5)), (.int .i64 (.var 6))], 26⟩]))
  (.ret (.bool (.var 16)) [⟨[(.sl 3 (.lit 0) (.var 4) (.var 5)), (.int .i64 (.var 6))], 26⟩])))))))
theorem S_law18_MultiAligns : FnIs Tryd.prog n_law18_MultiAligns [.sl, (.agg [.sl, (.int .i64)])] T_law18_MultiAligns := ⟨Tryd.f4, [{ key := 200001, tmps := [(16, .bool)], join := true, dead := 2199023189508 }, { key := 200005, tmps := [], join := true }], 4000, Tryd.func4, by kernel_rfl⟩
end Go.Proofs.YtialbhieaipcgaaDoor
