/- The trees of this seat's functions, printed by a program of mine (SyGen), checked here by the kernel. -/
import Derived.Test.YtialbhieaipcgaaDoorSyDef
import Derived.Test.YtialbhieaipcgaaDoorProg
import Derived.KernelRfl
set_option maxRecDepth 100000
namespace Go.Proofs.YtialbhieaipcgaaDoor
open Go Go.Sy
/-! 5 ablaut/ablautlaw18.MultiExacts  -/
abbrev n_law18_MultiExacts : FuncId := 5
def T_law18_MultiExacts : Tree :=
 (.alloc
 (.call false 15 [(.sl 0 (.lit 0) (.var 1) (.var 2)), (.cst (.slice none 0 0))] .bool [⟨[(.sl 3 (.lit 0) (.var 4) (.var 5)), (.int .i64 (.var 6))], 26⟩]
 (.ite (.not (.var 7))
  (.call false 16 [] .bool [⟨[(.sl 3 (.lit 0) (.var 4) (.var 5)), (.int .i64 (.var 6))], 26⟩]
  (.ret (.bool (.var 8)) [⟨[(.sl 3 (.lit 0) (.var 4) (.var 5)), (.int .i64 (.var 6))], 26⟩]))
  (.call false 23 [(.sl 0 (.lit 0) (.var 1) (.var 2)), (.agg [(.sl 3 (.lit 0) (.var 4) (.var 5)), (.int .i64 (.var 6))])] (.tup [.sl, (.int .i64), (.int .i64)]) [⟨[(.sl 3 (.lit 0) (.var 4) (.var 5)), (.int .i64 (.var 6))], 26⟩]
  (.call false 24 [(.sl 0 (.lit 0) (.var 1) (.var 2)), (.agg [(.sl 3 (.lit 0) (.var 4) (.var 5)), (.int .i64 (.var 6))])] (.tup [.sl, (.int .i64), (.int .i64)]) [⟨[(.sl 3 (.lit 0) (.var 4) (.var 5)), (.int .i64 (.var 6))], 26⟩]
  (.join 0 [.bool] [⟨[(.sl 3 (.lit 0) (.var 4) (.var 5)), (.int .i64 (.var 6))], 26⟩]
   (.ite (.pick (.cmp .eql (.var 12) (.var 17)) (.cmp .eql (.var 11) (.var 16)) (.lit false))
    (.call false 22 [(.sl 8 (.lit 0) (.var 9) (.var 10)), (.sl 13 (.lit 0) (.var 14) (.var 15))] .bool [⟨[(.sl 3 (.lit 0) (.var 4) (.var 5)), (.int .i64 (.var 6))], 26⟩]
    (.ite (.var 18)
     (.call false 16 [] .bool [⟨[(.sl 3 (.lit 0) (.var 4) (.var 5)), (.int .i64 (.var 6))], 26⟩]
     (.again 0 1 [.bool] [(.bool (.var 19))] [⟨[(.sl 3 (.lit 0) (.var 4) (.var 5)), (.int .i64 (.var 6))], 26⟩]))
     (.again 0 1 [.bool] [(.bool (.lit false))] [⟨[(.sl 3 (.lit 0) (.var 4) (.var 5)), (.int .i64 (.var 6))], 26⟩])))
    (.again 0 1 [.bool] [(.bool (.lit false))] [⟨[(.sl 3 (.lit 0) (.var 4) (.var 5)), (.int .i64 (.var 6))], 26⟩]))
  (.ret (.bool (.var 18)) [⟨[(.sl 3 (.lit 0) (.var 4) (.var 5)), (.int .i64 (.var 6))], 26⟩])))))))
theorem S_law18_MultiExacts : FnIs Tryd.prog n_law18_MultiExacts [.sl, (.agg [.sl, (.int .i64)])] T_law18_MultiExacts := ⟨Tryd.f5, [{ key := 200005, tmps := [], join := true, dead := 35184372078596 }], 4000, Tryd.func5, by kernel_rfl⟩
end Go.Proofs.YtialbhieaipcgaaDoor
