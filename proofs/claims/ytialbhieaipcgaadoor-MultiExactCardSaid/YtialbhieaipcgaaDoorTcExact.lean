/- The trees of this seat's functions, printed by a program of mine (SyGen), checked here by the kernel. -/
import Derived.Test.YtialbhieaipcgaaDoorSyDef
import Derived.Test.YtialbhieaipcgaaDoorProg
import Derived.KernelRfl
set_option maxRecDepth 100000
namespace Go.Proofs.YtialbhieaipcgaaDoor
open Go Go.Sy
/-! 6 ablaut/ablautlaw18.MultiExact  -/
abbrev n_law18_MultiExact : FuncId := 6
def T_law18_MultiExact : Tree :=
 (.alloc
 (.join 0 [.bool] [⟨[(.sl 3 (.lit 0) (.var 4) (.var 5)), (.int .i64 (.var 6))], 26⟩]
  (.call false 25 [(.sl 0 (.lit 0) (.var 1) (.var 2)), (.int .i64 (.lit 3)), (.int .i64 (.lit 6))] .bool [⟨[(.sl 3 (.lit 0) (.var 4) (.var 5)), (.int .i64 (.var 6))], 26⟩]
  (.ite (.not (.var 10))
   (.again 0 1 [.bool] [(.bool (.lit true))] [⟨[(.sl 3 (.lit 0) (.var 4) (.var 5)), (.int .i64 (.var 6))], 26⟩])
   (.chk (.cmp .geq (.var 8) (.lit 0))
   (.ite (.cmp .gtr (.var 8) (.lit 100))
    (.again 0 1 [.bool] [(.bool (.lit true))] [⟨[(.sl 3 (.lit 0) (.var 4) (.var 5)), (.int .i64 (.var 6))], 26⟩])
    (.call false 26 [(.agg [(.sl 3 (.lit 0) (.var 4) (.var 5)), (.int .i64 (.var 6))])] (.int .i64) [⟨[(.sl 3 (.lit 0) (.var 4) (.var 5)), (.int .i64 (.var 6))], 26⟩]
    (.again 0 1 [.bool] [(.bool (.cmp .neq (.var 11) (.lit 0)))] [⟨[(.sl 3 (.lit 0) (.var 4) (.var 5)), (.int .i64 (.var 6))], 26⟩]))))))
 (.ite (.var 10)
  (.call false 16 [] .bool [⟨[(.sl 3 (.lit 0) (.var 4) (.var 5)), (.int .i64 (.var 6))], 26⟩]
  (.ret (.bool (.var 11)) [⟨[(.sl 3 (.lit 0) (.var 4) (.var 5)), (.int .i64 (.var 6))], 26⟩]))
  (.call false 23 [(.sl 0 (.lit 0) (.var 1) (.var 2)), (.agg [(.sl 3 (.lit 0) (.var 4) (.var 5)), (.int .i64 (.var 6))])] (.tup [.sl, (.int .i64), (.int .i64)]) [⟨[(.sl 3 (.lit 0) (.var 4) (.var 5)), (.int .i64 (.var 6))], 26⟩]
  (.call false 17 [(.sl 0 (.lit 0) (.var 1) (.var 2)), (.sl 11 (.lit 0) (.var 12) (.var 13)), (.agg [(.sl 3 (.lit 0) (.var 4) (.var 5)), (.int .i64 (.var 6))])] (.tup [(.int .i64), (.int .i64)]) [⟨[(.sl 3 (.lit 0) (.var 4) (.var 5)), (.int .i64 (.var 6))], 26⟩]
  (.call false 27 [(.sl 0 (.lit 0) (.var 1) (.var 2)), (.sl 7 (.lit 0) (.var 8) (.var 9))] .sl [⟨[(.sl 3 (.lit 0) (.var 4) (.var 5)), (.int .i64 (.var 6))], 26⟩]
  (.call false 17 [(.sl 0 (.lit 0) (.var 1) (.var 2)), (.sl 18 (.lit 0) (.var 19) (.var 20)), (.agg [(.sl 3 (.lit 0) (.var 4) (.var 5)), (.int .i64 (.var 6))])] (.tup [(.int .i64), (.int .i64)]) [⟨[(.sl 3 (.lit 0) (.var 4) (.var 5)), (.int .i64 (.var 6))], 26⟩]
  (.call false 20 [(.sl 0 (.lit 0) (.var 1) (.var 2)), (.agg [(.sl 3 (.lit 0) (.var 4) (.var 5)), (.int .i64 (.var 6))])] (.tup [.sl, (.int .i64)]) [⟨[(.sl 3 (.lit 0) (.var 4) (.var 5)), (.int .i64 (.var 6))], 26⟩]
  (.call false 17 [(.sl 0 (.lit 0) (.var 1) (.var 2)), (.sl 23 (.lit 0) (.var 24) (.var 25)), (.agg [(.sl 3 (.lit 0) (.var 4) (.var 5)), (.int .i64 (.var 6))])] (.tup [(.int .i64), (.int .i64)]) [⟨[(.sl 3 (.lit 0) (.var 4) (.var 5)), (.int .i64 (.var 6))], 26⟩]
  (.ite (.pick (.pick (.pick (.pick (.pick (.pick (.pick (.cmp .neq (.var 15) (.lit 0)) (.lit true) (.cmp .neq (.var 17) (.lit 0))) (.lit true) (.cmp .neq (.var 22) (.lit 0))) (.lit true) (.cmp .neq (.var 26) (.lit 0))) (.lit true) (.cmp .neq (.var 28) (.lit 0))) (.lit true) (.cmp .neq (.var 16) (.var 14))) (.lit true) (.cmp .gtr (.var 14) (.var 21))) (.lit true) (.cmp .gtr (.var 14) (.var 27)))
   (.ret (.bool (.lit false)) [⟨[(.sl 3 (.lit 0) (.var 4) (.var 5)), (.int .i64 (.var 6))], 26⟩])
   (.join 0 [.bool] [⟨[(.sl 3 (.lit 0) (.var 4) (.var 5)), (.int .i64 (.var 6))], 26⟩]
    (.chk (.cmp .geq (.var 1) (.lit 0))
    (.ite (.cmp .gtr (.var 1) (.lit 2))
     (.call false 16 [] .bool [⟨[(.sl 3 (.lit 0) (.var 4) (.var 5)), (.int .i64 (.var 6))], 26⟩]
     (.again 0 1 [.bool] [(.bool (.var 29))] [⟨[(.sl 3 (.lit 0) (.var 4) (.var 5)), (.int .i64 (.var 6))], 26⟩]))
     (.call false 28 [(.sl 11 (.lit 0) (.var 12) (.var 13)), (.sl 23 (.lit 0) (.var 24) (.var 25))] .bool [⟨[(.sl 3 (.lit 0) (.var 4) (.var 5)), (.int .i64 (.var 6))], 26⟩]
     (.ite (.var 29)
      (.call false 16 [] .bool [⟨[(.sl 3 (.lit 0) (.var 4) (.var 5)), (.int .i64 (.var 6))], 26⟩]
      (.again 0 1 [.bool] [(.bool (.var 30))] [⟨[(.sl 3 (.lit 0) (.var 4) (.var 5)), (.int .i64 (.var 6))], 26⟩]))
      (.again 0 1 [.bool] [(.bool (.lit false))] [⟨[(.sl 3 (.lit 0) (.var 4) (.var 5)), (.int .i64 (.var 6))], 26⟩])))))
   (.ret (.bool (.var 29)) [⟨[(.sl 3 (.lit 0) (.var 4) (.var 5)), (.int .i64 (.var 6))], 26⟩]))))))))))))
theorem S_law18_MultiExact : FnIs Tryd.prog n_law18_MultiExact [.sl, (.agg [.sl, (.int .i64)]), .sl] T_law18_MultiExact := ⟨Tryd.f6, [{ key := 200001, tmps := [(31, .bool)], join := true, dead := 20764116831738397596515996356050984 }, { key := 200011, tmps := [], join := true }], 4000, Tryd.func6, by kernel_rfl⟩
end Go.Proofs.YtialbhieaipcgaaDoor
