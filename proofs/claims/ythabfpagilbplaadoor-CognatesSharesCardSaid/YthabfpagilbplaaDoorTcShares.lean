/- The trees of this seat's functions, printed by a program of mine (SyGen), checked here by the kernel. -/
import Derived.Test.YthabfpagilbplaaDoorSyDef
import Derived.Test.YthabfpagilbplaaDoorProg
import Derived.KernelRfl
set_option maxRecDepth 100000
namespace Go.Proofs.YthabfpagilbplaaDoor
open Go Go.Sy
/-! 8 ablaut/ablautlaw19.CognatesShares  -/
abbrev n_law19_CognatesShares : FuncId := 8
def T_law19_CognatesShares : Tree :=
 (.chk (.cmp .geq (.var 1) (.lit 0))
 (.loop 0 [(.int .i64), (.int .i64)] [(.int .i64 (.lit 0)), (.int .i64 (.lit 0))] [] []
  (.ite (.cmp .lss (.var 6) (.var 1))
   (.chk (.pick (.cmp .geq (.var 6) (.lit 0)) (.pick (.cmp .lss (.var 6) (.var 1)) (.some 0) (.lit false)) (.lit false))
   (.load 0 (.off (.var 6) 1 (.lit 0)) [.sl] []
   (.chk (.cmp .geq (.var 8) (.lit 0))
   (.again 0 0 [(.int .i64), (.int .i64)] [(.int .i64 (.bin .add .i64 (.var 5) (.var 8))), (.int .i64 (.bin .add .i64 (.var 6) (.lit 1)))] []))))
   (.chk (.cmp .geq (.var 1) (.lit 0))
   (.ite (.pick (.cmp .gtr (.var 1) (.lit 300)) (.lit true) (.cmp .gtr (.var 5) (.lit 8000)))
    (.call false 16 [] .bool []
    (.ret (.bool (.var 7)) []))
    (.call false 36 [(.sl 0 (.lit 0) (.var 1) (.var 2)), (.int .i64 (.var 3)), (.int .i64 (.var 4))] (.tup [(.agg [(.int .i64), (.int .i64)]), (.int .i64)]) []
    (.alloc
    (.call false 37 [(.sl 0 (.lit 0) (.var 1) (.var 2)), (.int .i64 (.var 3)), (.int .i64 (.var 4))] (.tup [(.agg [(.int .i64), (.int .i64)]), (.int .i64)]) [⟨[(.int .i64 (.var 7)), (.int .i64 (.var 8))], 27⟩]
    (.alloc
    (.ite (.pick (.pick (.cmp .eql (.var 7) (.var 10)) (.cmp .eql (.var 8) (.var 11)) (.lit false)) (.cmp .eql (.var 9) (.var 12)) (.lit false))
     (.call false 16 [] .bool [⟨[(.int .i64 (.var 7)), (.int .i64 (.var 8))], 27⟩, ⟨[(.int .i64 (.var 10)), (.int .i64 (.var 11))], 27⟩]
     (.ret (.bool (.var 13)) [⟨[(.int .i64 (.var 7)), (.int .i64 (.var 8))], 27⟩, ⟨[(.int .i64 (.var 10)), (.int .i64 (.var 11))], 27⟩]))
     (.ret (.bool (.lit false)) [⟨[(.int .i64 (.var 7)), (.int .i64 (.var 8))], 27⟩, ⟨[(.int .i64 (.var 10)), (.int .i64 (.var 11))], 27⟩])))))))))))
theorem S_law19_CognatesShares : FnIs Tryd.prog n_law19_CognatesShares [.sl, (.int .i64), (.int .i64)] T_law19_CognatesShares := ⟨Tryd.f8, [], 4000, Tryd.func8, by kernel_rfl⟩
end Go.Proofs.YthabfpagilbplaaDoor
