/- The trees of this seat's functions, printed by a program of mine (SyGen), checked here by the kernel. -/
import Derived.Test.YthabfpagilbplaaDoorSyDef
import Derived.Test.YthabfpagilbplaaDoorProg
import Derived.KernelRfl
set_option maxRecDepth 100000
namespace Go.Proofs.YthabfpagilbplaaDoor
open Go Go.Sy
/-! 3 ablaut/ablautlaw19.CognatesLabels  -/
abbrev n_law19_CognatesLabels : FuncId := 3
def T_law19_CognatesLabels : Tree :=
 (.alloc
 (.alloc
 (.call false 15 [(.sl 0 (.lit 0) (.var 1) (.var 2)), (.agg [(.sl 3 (.lit 0) (.var 4) (.var 5)), (.int .i64 (.var 6))])] .bool [⟨[(.sl 3 (.lit 0) (.var 4) (.var 5)), (.int .i64 (.var 6))], 25⟩, ⟨[(.int .i64 (.var 7)), (.int .i64 (.var 8))], 27⟩]
 (.ite (.not (.var 9))
  (.call false 16 [] .bool [⟨[(.sl 3 (.lit 0) (.var 4) (.var 5)), (.int .i64 (.var 6))], 25⟩, ⟨[(.int .i64 (.var 7)), (.int .i64 (.var 8))], 27⟩]
  (.ret (.bool (.var 10)) [⟨[(.sl 3 (.lit 0) (.var 4) (.var 5)), (.int .i64 (.var 6))], 25⟩, ⟨[(.int .i64 (.var 7)), (.int .i64 (.var 8))], 27⟩]))
  (.call false 17 [(.sl 0 (.lit 0) (.var 1) (.var 2)), (.agg [(.sl 3 (.lit 0) (.var 4) (.var 5)), (.int .i64 (.var 6))]), (.agg [(.int .i64 (.var 7)), (.int .i64 (.var 8))])] (.tup [.sl, (.int .i64)]) [⟨[(.sl 3 (.lit 0) (.var 4) (.var 5)), (.int .i64 (.var 6))], 25⟩, ⟨[(.int .i64 (.var 7)), (.int .i64 (.var 8))], 27⟩]
  (.call false 18 [(.sl 0 (.lit 0) (.var 1) (.var 2)), (.agg [(.sl 3 (.lit 0) (.var 4) (.var 5)), (.int .i64 (.var 6))]), (.agg [(.int .i64 (.var 7)), (.int .i64 (.var 8))])] (.tup [.sl, (.int .i64)]) [⟨[(.sl 3 (.lit 0) (.var 4) (.var 5)), (.int .i64 (.var 6))], 25⟩, ⟨[(.int .i64 (.var 7)), (.int .i64 (.var 8))], 27⟩]
  (.call false 19 [(.sl 0 (.lit 0) (.var 1) (.var 2)), (.agg [(.sl 3 (.lit 0) (.var 4) (.var 5)), (.int .i64 (.var 6))]), (.agg [(.int .i64 (.var 7)), (.int .i64 (.var 8))])] (.tup [.sl, (.int .i64)]) [⟨[(.sl 3 (.lit 0) (.var 4) (.var 5)), (.int .i64 (.var 6))], 25⟩, ⟨[(.int .i64 (.var 7)), (.int .i64 (.var 8))], 27⟩]
  (.call false 20 [(.sl 0 (.lit 0) (.var 1) (.var 2)), (.agg [(.sl 3 (.lit 0) (.var 4) (.var 5)), (.int .i64 (.var 6))]), (.agg [(.int .i64 (.var 7)), (.int .i64 (.var 8))])] (.tup [.sl, (.int .i64)]) [⟨[(.sl 3 (.lit 0) (.var 4) (.var 5)), (.int .i64 (.var 6))], 25⟩, ⟨[(.int .i64 (.var 7)), (.int .i64 (.var 8))], 27⟩]
  (.call false 21 [(.sl 10 (.lit 0) (.var 11) (.var 12)), (.sl 14 (.lit 0) (.var 15) (.var 16))] .bool [⟨[(.sl 3 (.lit 0) (.var 4) (.var 5)), (.int .i64 (.var 6))], 25⟩, ⟨[(.int .i64 (.var 7)), (.int .i64 (.var 8))], 27⟩]
  (.ite (.pick (.var 26) (.cmp .eql (.var 13) (.var 17)) (.lit false))
   (.call false 21 [(.sl 18 (.lit 0) (.var 19) (.var 20)), (.sl 22 (.lit 0) (.var 23) (.var 24))] .bool [⟨[(.sl 3 (.lit 0) (.var 4) (.var 5)), (.int .i64 (.var 6))], 25⟩, ⟨[(.int .i64 (.var 7)), (.int .i64 (.var 8))], 27⟩]
   (.ite (.pick (.var 27) (.cmp .eql (.var 21) (.var 25)) (.lit false))
    (.call false 16 [] .bool [⟨[(.sl 3 (.lit 0) (.var 4) (.var 5)), (.int .i64 (.var 6))], 25⟩, ⟨[(.int .i64 (.var 7)), (.int .i64 (.var 8))], 27⟩]
    (.ret (.bool (.var 28)) [⟨[(.sl 3 (.lit 0) (.var 4) (.var 5)), (.int .i64 (.var 6))], 25⟩, ⟨[(.int .i64 (.var 7)), (.int .i64 (.var 8))], 27⟩]))
    (.ret (.bool (.lit false)) [⟨[(.sl 3 (.lit 0) (.var 4) (.var 5)), (.int .i64 (.var 6))], 25⟩, ⟨[(.int .i64 (.var 7)), (.int .i64 (.var 8))], 27⟩])))
   (.ret (.bool (.lit false)) [⟨[(.sl 3 (.lit 0) (.var 4) (.var 5)), (.int .i64 (.var 6))], 25⟩, ⟨[(.int .i64 (.var 7)), (.int .i64 (.var 8))], 27⟩])))))))))))
theorem S_law19_CognatesLabels : FnIs Tryd.prog n_law19_CognatesLabels [.sl, (.agg [.sl, (.int .i64)]), (.agg [(.int .i64), (.int .i64)])] T_law19_CognatesLabels := ⟨Tryd.f3, [], 4000, Tryd.func3, by kernel_rfl⟩
end Go.Proofs.YthabfpagilbplaaDoor
