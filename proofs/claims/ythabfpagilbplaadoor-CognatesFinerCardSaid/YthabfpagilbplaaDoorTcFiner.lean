/- The trees of this seat's functions, printed by a program of mine (SyGen), checked here by the kernel. -/
import Derived.Test.YthabfpagilbplaaDoorSyDef
import Derived.Test.YthabfpagilbplaaDoorProg
import Derived.KernelRfl
set_option maxRecDepth 100000
namespace Go.Proofs.YthabfpagilbplaaDoor
open Go Go.Sy
/-! 5 ablaut/ablautlaw19.CognatesFiner  -/
abbrev n_law19_CognatesFiner : FuncId := 5
def T_law19_CognatesFiner : Tree :=
 (.alloc
 (.call false 26 [(.sl 0 (.lit 0) (.var 1) (.var 2))] .sl [⟨[(.int .u8 (.var 3)), (.int .u8 (.var 4)), (.int .u8 (.var 5)), (.int .u8 (.var 6))], 39⟩]
 (.call false 27 [(.agg [(.int .u8 (.var 3)), (.int .u8 (.var 4)), (.int .u8 (.var 5)), (.int .u8 (.var 6))])] (.agg [.sl, (.int .i64)]) [⟨[(.int .u8 (.var 3)), (.int .u8 (.var 4)), (.int .u8 (.var 5)), (.int .u8 (.var 6))], 39⟩]
 (.call false 28 [(.int .i64 (.conv .i64 (.var 7))), (.int .i64 (.bin .add .i64 (.lit 1) (.conv .i64 (.var 8))))] (.agg [(.int .i64), (.int .i64)]) [⟨[(.int .u8 (.var 3)), (.int .u8 (.var 4)), (.int .u8 (.var 5)), (.int .u8 (.var 6))], 39⟩]
 (.alloc
 (.alloc
 (.call false 19 [(.sl 9 (.lit 0) (.var 10) (.var 11)), (.agg [(.sl 12 (.lit 0) (.var 13) (.var 14)), (.int .i64 (.var 15))]), (.agg [(.int .i64 (.var 16)), (.int .i64 (.var 17))])] (.tup [.sl, (.int .i64)]) [⟨[(.int .u8 (.var 3)), (.int .u8 (.var 4)), (.int .u8 (.var 5)), (.int .u8 (.var 6))], 39⟩, ⟨[(.sl 12 (.lit 0) (.var 13) (.var 14)), (.int .i64 (.var 15))], 25⟩, ⟨[(.int .i64 (.var 16)), (.int .i64 (.var 17))], 27⟩]
 (.call false 17 [(.sl 9 (.lit 0) (.var 10) (.var 11)), (.agg [(.sl 12 (.lit 0) (.var 13) (.var 14)), (.int .i64 (.var 15))]), (.agg [(.int .i64 (.var 16)), (.int .i64 (.var 17))])] (.tup [.sl, (.int .i64)]) [⟨[(.int .u8 (.var 3)), (.int .u8 (.var 4)), (.int .u8 (.var 5)), (.int .u8 (.var 6))], 39⟩, ⟨[(.sl 12 (.lit 0) (.var 13) (.var 14)), (.int .i64 (.var 15))], 25⟩, ⟨[(.int .i64 (.var 16)), (.int .i64 (.var 17))], 27⟩]
 (.ite (.pick (.cmp .neq (.var 21) (.lit 0)) (.lit true) (.cmp .neq (.var 25) (.lit 0)))
  (.ret (.bool (.lit false)) [⟨[(.int .u8 (.var 3)), (.int .u8 (.var 4)), (.int .u8 (.var 5)), (.int .u8 (.var 6))], 39⟩, ⟨[(.sl 12 (.lit 0) (.var 13) (.var 14)), (.int .i64 (.var 15))], 25⟩, ⟨[(.int .i64 (.var 16)), (.int .i64 (.var 17))], 27⟩])
  (.call false 29 [(.sl 9 (.lit 0) (.var 10) (.var 11)), (.sl 18 (.lit 0) (.var 19) (.var 20))] .bool [⟨[(.int .u8 (.var 3)), (.int .u8 (.var 4)), (.int .u8 (.var 5)), (.int .u8 (.var 6))], 39⟩, ⟨[(.sl 12 (.lit 0) (.var 13) (.var 14)), (.int .i64 (.var 15))], 25⟩, ⟨[(.int .i64 (.var 16)), (.int .i64 (.var 17))], 27⟩]
  (.ite (.not (.var 26))
   (.ret (.bool (.lit false)) [⟨[(.int .u8 (.var 3)), (.int .u8 (.var 4)), (.int .u8 (.var 5)), (.int .u8 (.var 6))], 39⟩, ⟨[(.sl 12 (.lit 0) (.var 13) (.var 14)), (.int .i64 (.var 15))], 25⟩, ⟨[(.int .i64 (.var 16)), (.int .i64 (.var 17))], 27⟩])
   (.call false 29 [(.sl 9 (.lit 0) (.var 10) (.var 11)), (.sl 22 (.lit 0) (.var 23) (.var 24))] .bool [⟨[(.int .u8 (.var 3)), (.int .u8 (.var 4)), (.int .u8 (.var 5)), (.int .u8 (.var 6))], 39⟩, ⟨[(.sl 12 (.lit 0) (.var 13) (.var 14)), (.int .i64 (.var 15))], 25⟩, ⟨[(.int .i64 (.var 16)), (.int .i64 (.var 17))], 27⟩]
   (.ite (.not (.var 27))
    (.ret (.bool (.lit false)) [⟨[(.int .u8 (.var 3)), (.int .u8 (.var 4)), (.int .u8 (.var 5)), (.int .u8 (.var 6))], 39⟩, ⟨[(.sl 12 (.lit 0) (.var 13) (.var 14)), (.int .i64 (.var 15))], 25⟩, ⟨[(.int .i64 (.var 16)), (.int .i64 (.var 17))], 27⟩])
    (.call false 30 [(.sl 18 (.lit 0) (.var 19) (.var 20)), (.sl 22 (.lit 0) (.var 23) (.var 24))] .bool [⟨[(.int .u8 (.var 3)), (.int .u8 (.var 4)), (.int .u8 (.var 5)), (.int .u8 (.var 6))], 39⟩, ⟨[(.sl 12 (.lit 0) (.var 13) (.var 14)), (.int .i64 (.var 15))], 25⟩, ⟨[(.int .i64 (.var 16)), (.int .i64 (.var 17))], 27⟩]
    (.ite (.not (.var 28))
     (.ret (.bool (.lit false)) [⟨[(.int .u8 (.var 3)), (.int .u8 (.var 4)), (.int .u8 (.var 5)), (.int .u8 (.var 6))], 39⟩, ⟨[(.sl 12 (.lit 0) (.var 13) (.var 14)), (.int .i64 (.var 15))], 25⟩, ⟨[(.int .i64 (.var 16)), (.int .i64 (.var 17))], 27⟩])
     (.chk (.cmp .geq (.var 10) (.lit 0))
     (.ite (.cmp .gtr (.var 10) (.lit 1))
      (.chk (.cmp .leq (.lit 2) (.var 11))
      (.call false 19 [(.sl 9 (.ifeq (.var 11) (.lit 0) (.lit 0) (.lit 0)) (.lit 2) (.var 11)), (.agg [(.sl 12 (.lit 0) (.var 13) (.var 14)), (.int .i64 (.var 15))]), (.agg [(.int .i64 (.var 16)), (.int .i64 (.var 17))])] (.tup [.sl, (.int .i64)]) [⟨[(.int .u8 (.var 3)), (.int .u8 (.var 4)), (.int .u8 (.var 5)), (.int .u8 (.var 6))], 39⟩, ⟨[(.sl 12 (.lit 0) (.var 13) (.var 14)), (.int .i64 (.var 15))], 25⟩, ⟨[(.int .i64 (.var 16)), (.int .i64 (.var 17))], 27⟩]
      (.chk (.cmp .leq (.lit 2) (.var 11))
      (.call false 17 [(.sl 9 (.ifeq (.var 11) (.lit 0) (.lit 0) (.lit 0)) (.lit 2) (.var 11)), (.agg [(.sl 12 (.lit 0) (.var 13) (.var 14)), (.int .i64 (.var 15))]), (.agg [(.int .i64 (.var 16)), (.int .i64 (.var 17))])] (.tup [.sl, (.int .i64)]) [⟨[(.int .u8 (.var 3)), (.int .u8 (.var 4)), (.int .u8 (.var 5)), (.int .u8 (.var 6))], 39⟩, ⟨[(.sl 12 (.lit 0) (.var 13) (.var 14)), (.int .i64 (.var 15))], 25⟩, ⟨[(.int .i64 (.var 16)), (.int .i64 (.var 17))], 27⟩]
      (.ite (.pick (.cmp .eql (.var 32) (.lit 0)) (.cmp .eql (.var 36) (.lit 0)) (.lit false))
       (.call false 21 [(.sl 29 (.lit 0) (.var 30) (.var 31)), (.sl 33 (.lit 0) (.var 34) (.var 35))] .bool [⟨[(.int .u8 (.var 3)), (.int .u8 (.var 4)), (.int .u8 (.var 5)), (.int .u8 (.var 6))], 39⟩, ⟨[(.sl 12 (.lit 0) (.var 13) (.var 14)), (.int .i64 (.var 15))], 25⟩, ⟨[(.int .i64 (.var 16)), (.int .i64 (.var 17))], 27⟩]
       (.ite (.var 37)
        (.call false 16 [] .bool [⟨[(.int .u8 (.var 3)), (.int .u8 (.var 4)), (.int .u8 (.var 5)), (.int .u8 (.var 6))], 39⟩, ⟨[(.sl 12 (.lit 0) (.var 13) (.var 14)), (.int .i64 (.var 15))], 25⟩, ⟨[(.int .i64 (.var 16)), (.int .i64 (.var 17))], 27⟩]
        (.ret (.bool (.var 38)) [⟨[(.int .u8 (.var 3)), (.int .u8 (.var 4)), (.int .u8 (.var 5)), (.int .u8 (.var 6))], 39⟩, ⟨[(.sl 12 (.lit 0) (.var 13) (.var 14)), (.int .i64 (.var 15))], 25⟩, ⟨[(.int .i64 (.var 16)), (.int .i64 (.var 17))], 27⟩]))
        (.ret (.bool (.lit false)) [⟨[(.int .u8 (.var 3)), (.int .u8 (.var 4)), (.int .u8 (.var 5)), (.int .u8 (.var 6))], 39⟩, ⟨[(.sl 12 (.lit 0) (.var 13) (.var 14)), (.int .i64 (.var 15))], 25⟩, ⟨[(.int .i64 (.var 16)), (.int .i64 (.var 17))], 27⟩])))
       (.ret (.bool (.lit false)) [⟨[(.int .u8 (.var 3)), (.int .u8 (.var 4)), (.int .u8 (.var 5)), (.int .u8 (.var 6))], 39⟩, ⟨[(.sl 12 (.lit 0) (.var 13) (.var 14)), (.int .i64 (.var 15))], 25⟩, ⟨[(.int .i64 (.var 16)), (.int .i64 (.var 17))], 27⟩]))))))
      (.call false 16 [] .bool [⟨[(.int .u8 (.var 3)), (.int .u8 (.var 4)), (.int .u8 (.var 5)), (.int .u8 (.var 6))], 39⟩, ⟨[(.sl 12 (.lit 0) (.var 13) (.var 14)), (.int .i64 (.var 15))], 25⟩, ⟨[(.int .i64 (.var 16)), (.int .i64 (.var 17))], 27⟩]
      (.ret (.bool (.var 29)) [⟨[(.int .u8 (.var 3)), (.int .u8 (.var 4)), (.int .u8 (.var 5)), (.int .u8 (.var 6))], 39⟩, ⟨[(.sl 12 (.lit 0) (.var 13) (.var 14)), (.int .i64 (.var 15))], 25⟩, ⟨[(.int .i64 (.var 16)), (.int .i64 (.var 17))], 27⟩])))))))))))))))))))
theorem S_law19_CognatesFiner : FnIs Tryd.prog n_law19_CognatesFiner [.sl, (.agg [(.int .u8), (.int .u8), (.int .u8), (.int .u8)]), (.int .u8), (.int .u8)] T_law19_CognatesFiner := ⟨Tryd.f5, [], 4000, Tryd.func5, by kernel_rfl⟩
end Go.Proofs.YthabfpagilbplaaDoor
