/- The trees of this seat's functions, printed by a program of mine (SyGen), checked here by the kernel. -/
import Derived.Test.YthabfpagilbplaaDoorSyDef
import Derived.Test.YthabfpagilbplaaDoorProg
import Derived.KernelRfl
set_option maxRecDepth 100000
namespace Go.Proofs.YthabfpagilbplaaDoor
open Go Go.Sy
/-! 12 ablaut/ablautlaw19.CognatesTables  -/
abbrev n_law19_CognatesTables : FuncId := 12
def T_law19_CognatesTables : Tree :=
 (.alloc
 (.alloc
 (.chk (.cmp .geq (.var 1) (.lit 0))
 (.loop 0 [.bool, (.int .i64), (.int .i64)] [(.bool (.lit false)), (.int .i64 (.lit 0)), (.int .i64 (.lit 0))] [⟨[(.sl 3 (.lit 0) (.var 4) (.var 5)), (.int .i64 (.var 6))], 25⟩, ⟨[(.int .i64 (.var 7)), (.int .i64 (.var 8))], 27⟩] [⟨[(.sl 3 (.lit 0) (.var 4) (.var 5)), (.int .i64 (.var 6))], 25⟩, ⟨[(.int .i64 (.var 7)), (.int .i64 (.var 8))], 27⟩]
  (.ite (.cmp .lss (.var 11) (.var 1))
   (.chk (.pick (.cmp .geq (.var 11) (.lit 0)) (.pick (.cmp .lss (.var 11) (.var 1)) (.some 0) (.lit false)) (.lit false))
   (.load 0 (.off (.var 11) 2 (.lit 0)) [.val, .sl] [⟨[(.sl 3 (.lit 0) (.var 4) (.var 5)), (.int .i64 (.var 6))], 25⟩, ⟨[(.int .i64 (.var 7)), (.int .i64 (.var 8))], 27⟩]
   (.alloc
   (.call false 15 [(.sl 13 (.lit 0) (.var 14) (.var 15)), (.agg [(.sl 3 (.lit 0) (.var 4) (.var 5)), (.int .i64 (.var 6))])] .bool [⟨[(.sl 3 (.lit 0) (.var 4) (.var 5)), (.int .i64 (.var 6))], 25⟩, ⟨[(.int .i64 (.var 7)), (.int .i64 (.var 8))], 27⟩, ⟨[(.val 12), (.sl 13 (.lit 0) (.var 14) (.var 15))], 78⟩]
   (.ite (.not (.var 16))
    (.call false 16 [] .bool [⟨[(.sl 3 (.lit 0) (.var 4) (.var 5)), (.int .i64 (.var 6))], 25⟩, ⟨[(.int .i64 (.var 7)), (.int .i64 (.var 8))], 27⟩, ⟨[(.val 12), (.sl 13 (.lit 0) (.var 14) (.var 15))], 78⟩]
    (.ret (.bool (.var 17)) [⟨[(.sl 3 (.lit 0) (.var 4) (.var 5)), (.int .i64 (.var 6))], 25⟩, ⟨[(.int .i64 (.var 7)), (.int .i64 (.var 8))], 27⟩, ⟨[(.val 12), (.sl 13 (.lit 0) (.var 14) (.var 15))], 78⟩]))
    (.chk (.cmp .geq (.var 14) (.lit 0))
    (.loop 1 [(.int .i64), (.int .i64)] [(.int .i64 (.var 10)), (.int .i64 (.lit 0))] [⟨[(.sl 3 (.lit 0) (.var 4) (.var 5)), (.int .i64 (.var 6))], 25⟩, ⟨[(.int .i64 (.var 7)), (.int .i64 (.var 8))], 27⟩, ⟨[(.val 12), (.sl 13 (.lit 0) (.var 14) (.var 15))], 78⟩] [⟨[(.sl 3 (.lit 0) (.var 4) (.var 5)), (.int .i64 (.var 6))], 25⟩, ⟨[(.int .i64 (.var 7)), (.int .i64 (.var 8))], 27⟩, ⟨[(.val 12), (.sl 13 (.lit 0) (.var 14) (.var 15))], 78⟩]
     (.ite (.cmp .lss (.var 18) (.var 14))
      (.chk (.pick (.cmp .geq (.var 18) (.lit 0)) (.pick (.cmp .lss (.var 18) (.var 14)) (.some 13) (.lit false)) (.lit false))
      (.load 13 (.off (.var 18) 2 (.lit 0)) [.bool, .sl] [⟨[(.sl 3 (.lit 0) (.var 4) (.var 5)), (.int .i64 (.var 6))], 25⟩, ⟨[(.int .i64 (.var 7)), (.int .i64 (.var 8))], 27⟩, ⟨[(.val 12), (.sl 13 (.lit 0) (.var 14) (.var 15))], 78⟩]
      (.alloc
      (.chk (.cmp .geq (.var 21) (.lit 0))
      (.again 1 3 [(.int .i64), (.int .i64)] [(.int .i64 (.bin .add .i64 (.var 17) (.var 21))), (.int .i64 (.bin .add .i64 (.var 18) (.lit 1)))] [⟨[(.sl 3 (.lit 0) (.var 4) (.var 5)), (.int .i64 (.var 6))], 25⟩, ⟨[(.int .i64 (.var 7)), (.int .i64 (.var 8))], 27⟩, ⟨[(.val 12), (.sl 13 (.lit 0) (.var 14) (.var 15))], 78⟩, ⟨[(.bool (.var 19)), (.sl 20 (.lit 0) (.var 21) (.var 22))], 50⟩])))))
      (.again 0 2 [.bool, (.int .i64), (.int .i64)] [(.bool (.var 9)), (.int .i64 (.var 17)), (.int .i64 (.bin .add .i64 (.var 11) (.lit 1)))] [⟨[(.sl 3 (.lit 0) (.var 4) (.var 5)), (.int .i64 (.var 6))], 25⟩, ⟨[(.int .i64 (.var 7)), (.int .i64 (.var 8))], 27⟩, ⟨[(.val 12), (.sl 13 (.lit 0) (.var 14) (.var 15))], 78⟩])))))))))
   (.chk (.cmp .geq (.var 1) (.lit 0))
   (.ite (.pick (.cmp .gtr (.var 1) (.lit 300)) (.lit true) (.cmp .gtr (.var 10) (.lit 600)))
    (.call false 16 [] .bool [⟨[(.sl 3 (.lit 0) (.var 4) (.var 5)), (.int .i64 (.var 6))], 25⟩, ⟨[(.int .i64 (.var 7)), (.int .i64 (.var 8))], 27⟩]
    (.ret (.bool (.var 12)) [⟨[(.sl 3 (.lit 0) (.var 4) (.var 5)), (.int .i64 (.var 6))], 25⟩, ⟨[(.int .i64 (.var 7)), (.int .i64 (.var 8))], 27⟩]))
    (.chk (.cmp .geq (.var 4) (.lit 0))
    (.ite (.cmp .gtr (.var 4) (.lit 40))
     (.call false 16 [] .bool [⟨[(.sl 3 (.lit 0) (.var 4) (.var 5)), (.int .i64 (.var 6))], 25⟩, ⟨[(.int .i64 (.var 7)), (.int .i64 (.var 8))], 27⟩]
     (.ret (.bool (.var 12)) [⟨[(.sl 3 (.lit 0) (.var 4) (.var 5)), (.int .i64 (.var 6))], 25⟩, ⟨[(.int .i64 (.var 7)), (.int .i64 (.var 8))], 27⟩]))
     (.call false 45 [(.sl 0 (.lit 0) (.var 1) (.var 2)), (.agg [(.sl 3 (.lit 0) (.var 4) (.var 5)), (.int .i64 (.var 6))]), (.agg [(.int .i64 (.var 7)), (.int .i64 (.var 8))])] (.tup [.sl, (.int .i64)]) [⟨[(.sl 3 (.lit 0) (.var 4) (.var 5)), (.int .i64 (.var 6))], 25⟩, ⟨[(.int .i64 (.var 7)), (.int .i64 (.var 8))], 27⟩]
     (.call false 46 [(.sl 0 (.lit 0) (.var 1) (.var 2)), (.agg [(.sl 3 (.lit 0) (.var 4) (.var 5)), (.int .i64 (.var 6))]), (.agg [(.int .i64 (.var 7)), (.int .i64 (.var 8))])] (.tup [.sl, (.int .i64)]) [⟨[(.sl 3 (.lit 0) (.var 4) (.var 5)), (.int .i64 (.var 6))], 25⟩, ⟨[(.int .i64 (.var 7)), (.int .i64 (.var 8))], 27⟩]
     (.call false 43 [(.sl 12 (.lit 0) (.var 13) (.var 14)), (.sl 16 (.lit 0) (.var 17) (.var 18))] .bool [⟨[(.sl 3 (.lit 0) (.var 4) (.var 5)), (.int .i64 (.var 6))], 25⟩, ⟨[(.int .i64 (.var 7)), (.int .i64 (.var 8))], 27⟩]
     (.ite (.pick (.var 20) (.cmp .eql (.var 15) (.var 19)) (.lit false))
      (.call false 16 [] .bool [⟨[(.sl 3 (.lit 0) (.var 4) (.var 5)), (.int .i64 (.var 6))], 25⟩, ⟨[(.int .i64 (.var 7)), (.int .i64 (.var 8))], 27⟩]
      (.ret (.bool (.var 21)) [⟨[(.sl 3 (.lit 0) (.var 4) (.var 5)), (.int .i64 (.var 6))], 25⟩, ⟨[(.int .i64 (.var 7)), (.int .i64 (.var 8))], 27⟩]))
      (.ret (.bool (.lit false)) [⟨[(.sl 3 (.lit 0) (.var 4) (.var 5)), (.int .i64 (.var 6))], 25⟩, ⟨[(.int .i64 (.var 7)), (.int .i64 (.var 8))], 27⟩]))))))))))))))
theorem S_law19_CognatesTables : FnIs Tryd.prog n_law19_CognatesTables [.sl, (.agg [.sl, (.int .i64)]), (.agg [(.int .i64), (.int .i64)])] T_law19_CognatesTables := ⟨Tryd.f12, [], 4000, Tryd.func12, by kernel_rfl⟩
end Go.Proofs.YthabfpagilbplaaDoor
