/- The trees of this seat's functions, printed by a program of mine (SyGen), checked here by the kernel. -/
import Derived.Test.YthabfpagilbplaaDoorSyDef
import Derived.Test.YthabfpagilbplaaDoorProg
import Derived.KernelRfl
set_option maxRecDepth 100000
namespace Go.Proofs.YthabfpagilbplaaDoor
open Go Go.Sy
/-! 15 ablaut/ablautlaw19.few  -/
abbrev n_law19_few : FuncId := 15
def T_law19_few : Tree :=
 (.alloc
 (.chk (.cmp .geq (.var 1) (.lit 0))
 (.loop 0 [.bool, (.int .i64), (.int .i64)] [(.bool (.lit false)), (.int .i64 (.lit 0)), (.int .i64 (.lit 0))] [⟨[(.sl 3 (.lit 0) (.var 4) (.var 5)), (.int .i64 (.var 6))], 25⟩] [⟨[(.sl 3 (.lit 0) (.var 4) (.var 5)), (.int .i64 (.var 6))], 25⟩]
  (.ite (.cmp .lss (.var 9) (.var 1))
   (.chk (.pick (.cmp .geq (.var 9) (.lit 0)) (.pick (.cmp .lss (.var 9) (.var 1)) (.some 0) (.lit false)) (.lit false))
   (.load 0 (.off (.var 9) 2 (.lit 0)) [.bool, .sl] [⟨[(.sl 3 (.lit 0) (.var 4) (.var 5)), (.int .i64 (.var 6))], 25⟩]
   (.alloc
   (.chk (.cmp .geq (.var 12) (.lit 0))
   (.ite (.cmp .gtr (.var 12) (.lit 50))
    (.ret (.bool (.lit false)) [⟨[(.sl 3 (.lit 0) (.var 4) (.var 5)), (.int .i64 (.var 6))], 25⟩, ⟨[(.bool (.var 10)), (.sl 11 (.lit 0) (.var 12) (.var 13))], 50⟩])
    (.chk (.cmp .geq (.var 12) (.lit 0))
    (.again 0 1 [.bool, (.int .i64), (.int .i64)] [(.bool (.var 7)), (.int .i64 (.bin .add .i64 (.var 8) (.var 12))), (.int .i64 (.bin .add .i64 (.var 9) (.lit 1)))] [⟨[(.sl 3 (.lit 0) (.var 4) (.var 5)), (.int .i64 (.var 6))], 25⟩, ⟨[(.bool (.var 10)), (.sl 11 (.lit 0) (.var 12) (.var 13))], 50⟩])))))))
   (.chk (.cmp .geq (.var 1) (.lit 0))
   (.ite (.pick (.cmp .leq (.var 1) (.lit 30)) (.cmp .leq (.var 8) (.lit 300)) (.lit false))
    (.chk (.cmp .geq (.var 4) (.lit 0))
    (.ret (.bool (.cmp .leq (.var 4) (.lit 40))) [⟨[(.sl 3 (.lit 0) (.var 4) (.var 5)), (.int .i64 (.var 6))], 25⟩]))
    (.ret (.bool (.lit false)) [⟨[(.sl 3 (.lit 0) (.var 4) (.var 5)), (.int .i64 (.var 6))], 25⟩])))))))
theorem S_law19_few : FnIs Tryd.prog n_law19_few [.sl, (.agg [.sl, (.int .i64)])] T_law19_few := ⟨Tryd.f15, [], 4000, Tryd.func15, by kernel_rfl⟩
/-! 16 ablaut/ablautlaw19.works  -/
abbrev n_law19_works : FuncId := 16
def T_law19_works : Tree :=
 (.call false 47 [] (.tup [.sl, (.agg [.sl, (.int .i64)])]) []
 (.alloc
 (.call false 28 [(.int .i64 (.lit 1)), (.int .i64 (.lit 3))] (.agg [(.int .i64), (.int .i64)]) [⟨[(.sl 3 (.lit 0) (.var 4) (.var 5)), (.int .i64 (.var 6))], 25⟩]
 (.call false 17 [(.sl 0 (.lit 0) (.var 1) (.var 2)), (.agg [(.sl 3 (.lit 0) (.var 4) (.var 5)), (.int .i64 (.var 6))]), (.agg [(.int .i64 (.var 7)), (.int .i64 (.var 8))])] (.tup [.sl, (.int .i64)]) [⟨[(.sl 3 (.lit 0) (.var 4) (.var 5)), (.int .i64 (.var 6))], 25⟩]
 (.call false 28 [(.int .i64 (.lit 1)), (.int .i64 (.lit 3))] (.agg [(.int .i64), (.int .i64)]) [⟨[(.sl 3 (.lit 0) (.var 4) (.var 5)), (.int .i64 (.var 6))], 25⟩]
 (.call false 19 [(.sl 0 (.lit 0) (.var 1) (.var 2)), (.agg [(.sl 3 (.lit 0) (.var 4) (.var 5)), (.int .i64 (.var 6))]), (.agg [(.int .i64 (.var 13)), (.int .i64 (.var 14))])] (.tup [.sl, (.int .i64)]) [⟨[(.sl 3 (.lit 0) (.var 4) (.var 5)), (.int .i64 (.var 6))], 25⟩]
 (.call false 28 [(.int .i64 (.lit 1)), (.int .i64 (.lit 7))] (.agg [(.int .i64), (.int .i64)]) [⟨[(.sl 3 (.lit 0) (.var 4) (.var 5)), (.int .i64 (.var 6))], 25⟩]
 (.call false 17 [(.sl 0 (.lit 0) (.var 1) (.var 2)), (.agg [(.sl 3 (.lit 0) (.var 4) (.var 5)), (.int .i64 (.var 6))]), (.agg [(.int .i64 (.var 19)), (.int .i64 (.var 20))])] (.tup [.sl, (.int .i64)]) [⟨[(.sl 3 (.lit 0) (.var 4) (.var 5)), (.int .i64 (.var 6))], 25⟩]
 (.alloc
 (.alloc
 (.call false 22 [(.slc 1 0 4 4), (.slc 2 0 4 4)] (.tup [(.agg [(.int .i64), (.int .i64)]), (.agg [(.int .i64), (.int .i64)]), (.int .i64)]) [⟨[(.sl 3 (.lit 0) (.var 4) (.var 5)), (.int .i64 (.var 6))], 25⟩, ⟨[(.int .i64 (.lit 0)), (.int .i64 (.lit 0)), (.int .i64 (.lit 2)), (.int .i64 (.lit 2))], 3⟩, ⟨[(.int .i64 (.lit 0)), (.int .i64 (.lit 0)), (.int .i64 (.lit 0)), (.int .i64 (.lit 3))], 3⟩]
 (.alloc
 (.alloc
 (.alloc
 (.alloc
 (.call false 24 [(.slc 5 0 4 4), (.slc 6 0 4 4)] (.tup [(.agg [(.int .i64), (.int .i64)]), (.agg [(.int .i64), (.int .i64)]), (.int .i64)]) [⟨[(.sl 3 (.lit 0) (.var 4) (.var 5)), (.int .i64 (.var 6))], 25⟩, ⟨[(.int .i64 (.lit 0)), (.int .i64 (.lit 0)), (.int .i64 (.lit 2)), (.int .i64 (.lit 2))], 3⟩, ⟨[(.int .i64 (.lit 0)), (.int .i64 (.lit 0)), (.int .i64 (.lit 0)), (.int .i64 (.lit 3))], 3⟩, ⟨[(.int .i64 (.var 25)), (.int .i64 (.var 26))], 27⟩, ⟨[(.int .i64 (.var 27)), (.int .i64 (.var 28))], 27⟩, ⟨[(.int .i64 (.lit 0)), (.int .i64 (.lit 0)), (.int .i64 (.lit 2)), (.int .i64 (.lit 2))], 3⟩, ⟨[(.int .i64 (.lit 0)), (.int .i64 (.lit 0)), (.int .i64 (.lit 0)), (.int .i64 (.lit 3))], 3⟩]
 (.alloc
 (.alloc
 (.alloc
 (.call false 21 [(.sl 9 (.lit 0) (.var 10) (.var 11)), (.slc 9 0 4 4)] .bool [⟨[(.sl 3 (.lit 0) (.var 4) (.var 5)), (.int .i64 (.var 6))], 25⟩, ⟨[(.int .i64 (.lit 0)), (.int .i64 (.lit 0)), (.int .i64 (.lit 2)), (.int .i64 (.lit 2))], 3⟩, ⟨[(.int .i64 (.lit 0)), (.int .i64 (.lit 0)), (.int .i64 (.lit 0)), (.int .i64 (.lit 3))], 3⟩, ⟨[(.int .i64 (.var 25)), (.int .i64 (.var 26))], 27⟩, ⟨[(.int .i64 (.var 27)), (.int .i64 (.var 28))], 27⟩, ⟨[(.int .i64 (.lit 0)), (.int .i64 (.lit 0)), (.int .i64 (.lit 2)), (.int .i64 (.lit 2))], 3⟩, ⟨[(.int .i64 (.lit 0)), (.int .i64 (.lit 0)), (.int .i64 (.lit 0)), (.int .i64 (.lit 3))], 3⟩, ⟨[(.int .i64 (.var 30)), (.int .i64 (.var 31))], 27⟩, ⟨[(.int .i64 (.var 32)), (.int .i64 (.var 33))], 27⟩, ⟨[(.int .i64 (.lit 0)), (.int .i64 (.lit 0)), (.int .i64 (.lit (-1))), (.int .i64 (.lit 0))], 3⟩]
 (.ite (.pick (.var 35) (.cmp .eql (.var 12) (.lit 0)) (.lit false))
  (.alloc
  (.call false 21 [(.sl 15 (.lit 0) (.var 16) (.var 17)), (.slc 10 0 4 4)] .bool [⟨[(.sl 3 (.lit 0) (.var 4) (.var 5)), (.int .i64 (.var 6))], 25⟩, ⟨[(.int .i64 (.lit 0)), (.int .i64 (.lit 0)), (.int .i64 (.lit 2)), (.int .i64 (.lit 2))], 3⟩, ⟨[(.int .i64 (.lit 0)), (.int .i64 (.lit 0)), (.int .i64 (.lit 0)), (.int .i64 (.lit 3))], 3⟩, ⟨[(.int .i64 (.var 25)), (.int .i64 (.var 26))], 27⟩, ⟨[(.int .i64 (.var 27)), (.int .i64 (.var 28))], 27⟩, ⟨[(.int .i64 (.lit 0)), (.int .i64 (.lit 0)), (.int .i64 (.lit 2)), (.int .i64 (.lit 2))], 3⟩, ⟨[(.int .i64 (.lit 0)), (.int .i64 (.lit 0)), (.int .i64 (.lit 0)), (.int .i64 (.lit 3))], 3⟩, ⟨[(.int .i64 (.var 30)), (.int .i64 (.var 31))], 27⟩, ⟨[(.int .i64 (.var 32)), (.int .i64 (.var 33))], 27⟩, ⟨[(.int .i64 (.lit 0)), (.int .i64 (.lit 0)), (.int .i64 (.lit (-1))), (.int .i64 (.lit 0))], 3⟩, ⟨[(.int .i64 (.lit 0)), (.int .i64 (.lit 0)), (.int .i64 (.lit (-1))), (.int .i64 (.lit 3))], 3⟩]
  (.ite (.pick (.var 36) (.cmp .eql (.var 18) (.lit 0)) (.lit false))
   (.alloc
   (.call false 21 [(.sl 21 (.lit 0) (.var 22) (.var 23)), (.slc 11 0 4 4)] .bool [⟨[(.sl 3 (.lit 0) (.var 4) (.var 5)), (.int .i64 (.var 6))], 25⟩, ⟨[(.int .i64 (.lit 0)), (.int .i64 (.lit 0)), (.int .i64 (.lit 2)), (.int .i64 (.lit 2))], 3⟩, ⟨[(.int .i64 (.lit 0)), (.int .i64 (.lit 0)), (.int .i64 (.lit 0)), (.int .i64 (.lit 3))], 3⟩, ⟨[(.int .i64 (.var 25)), (.int .i64 (.var 26))], 27⟩, ⟨[(.int .i64 (.var 27)), (.int .i64 (.var 28))], 27⟩, ⟨[(.int .i64 (.lit 0)), (.int .i64 (.lit 0)), (.int .i64 (.lit 2)), (.int .i64 (.lit 2))], 3⟩, ⟨[(.int .i64 (.lit 0)), (.int .i64 (.lit 0)), (.int .i64 (.lit 0)), (.int .i64 (.lit 3))], 3⟩, ⟨[(.int .i64 (.var 30)), (.int .i64 (.var 31))], 27⟩, ⟨[(.int .i64 (.var 32)), (.int .i64 (.var 33))], 27⟩, ⟨[(.int .i64 (.lit 0)), (.int .i64 (.lit 0)), (.int .i64 (.lit (-1))), (.int .i64 (.lit 0))], 3⟩, ⟨[(.int .i64 (.lit 0)), (.int .i64 (.lit 0)), (.int .i64 (.lit (-1))), (.int .i64 (.lit 3))], 3⟩, ⟨[(.int .i64 (.lit 0)), (.int .i64 (.lit 1)), (.int .i64 (.lit (-1))), (.int .i64 (.lit 3))], 3⟩]
   (.ite (.pick (.var 37) (.cmp .eql (.var 24) (.lit 0)) (.lit false))
    (.call false 28 [(.int .i64 (.lit 1)), (.int .i64 (.lit 2))] (.agg [(.int .i64), (.int .i64)]) [⟨[(.sl 3 (.lit 0) (.var 4) (.var 5)), (.int .i64 (.var 6))], 25⟩, ⟨[(.int .i64 (.lit 0)), (.int .i64 (.lit 0)), (.int .i64 (.lit 2)), (.int .i64 (.lit 2))], 3⟩, ⟨[(.int .i64 (.lit 0)), (.int .i64 (.lit 0)), (.int .i64 (.lit 0)), (.int .i64 (.lit 3))], 3⟩, ⟨[(.int .i64 (.var 25)), (.int .i64 (.var 26))], 27⟩, ⟨[(.int .i64 (.var 27)), (.int .i64 (.var 28))], 27⟩, ⟨[(.int .i64 (.lit 0)), (.int .i64 (.lit 0)), (.int .i64 (.lit 2)), (.int .i64 (.lit 2))], 3⟩, ⟨[(.int .i64 (.lit 0)), (.int .i64 (.lit 0)), (.int .i64 (.lit 0)), (.int .i64 (.lit 3))], 3⟩, ⟨[(.int .i64 (.var 30)), (.int .i64 (.var 31))], 27⟩, ⟨[(.int .i64 (.var 32)), (.int .i64 (.var 33))], 27⟩, ⟨[(.int .i64 (.lit 0)), (.int .i64 (.lit 0)), (.int .i64 (.lit (-1))), (.int .i64 (.lit 0))], 3⟩, ⟨[(.int .i64 (.lit 0)), (.int .i64 (.lit 0)), (.int .i64 (.lit (-1))), (.int .i64 (.lit 3))], 3⟩, ⟨[(.int .i64 (.lit 0)), (.int .i64 (.lit 1)), (.int .i64 (.lit (-1))), (.int .i64 (.lit 3))], 3⟩]
    (.ite (.pick (.cmp .eql (.var 25) (.var 38)) (.cmp .eql (.var 26) (.var 39)) (.lit false))
     (.call false 28 [(.int .i64 (.lit 1)), (.int .i64 (.lit 3))] (.agg [(.int .i64), (.int .i64)]) [⟨[(.sl 3 (.lit 0) (.var 4) (.var 5)), (.int .i64 (.var 6))], 25⟩, ⟨[(.int .i64 (.lit 0)), (.int .i64 (.lit 0)), (.int .i64 (.lit 2)), (.int .i64 (.lit 2))], 3⟩, ⟨[(.int .i64 (.lit 0)), (.int .i64 (.lit 0)), (.int .i64 (.lit 0)), (.int .i64 (.lit 3))], 3⟩, ⟨[(.int .i64 (.var 25)), (.int .i64 (.var 26))], 27⟩, ⟨[(.int .i64 (.var 27)), (.int .i64 (.var 28))], 27⟩, ⟨[(.int .i64 (.lit 0)), (.int .i64 (.lit 0)), (.int .i64 (.lit 2)), (.int .i64 (.lit 2))], 3⟩, ⟨[(.int .i64 (.lit 0)), (.int .i64 (.lit 0)), (.int .i64 (.lit 0)), (.int .i64 (.lit 3))], 3⟩, ⟨[(.int .i64 (.var 30)), (.int .i64 (.var 31))], 27⟩, ⟨[(.int .i64 (.var 32)), (.int .i64 (.var 33))], 27⟩, ⟨[(.int .i64 (.lit 0)), (.int .i64 (.lit 0)), (.int .i64 (.lit (-1))), (.int .i64 (.lit 0))], 3⟩, ⟨[(.int .i64 (.lit 0)), (.int .i64 (.lit 0)), (.int .i64 (.lit (-1))), (.int .i64 (.lit 3))], 3⟩, ⟨[(.int .i64 (.lit 0)), (.int .i64 (.lit 1)), (.int .i64 (.lit (-1))), (.int .i64 (.lit 3))], 3⟩]
     (.ite (.pick (.pick (.cmp .eql (.var 27) (.var 40)) (.cmp .eql (.var 28) (.var 41)) (.lit false)) (.cmp .eql (.var 29) (.lit 0)) (.lit false))
      (.call false 28 [(.int .i64 (.lit 3)), (.int .i64 (.lit 4))] (.agg [(.int .i64), (.int .i64)]) [⟨[(.sl 3 (.lit 0) (.var 4) (.var 5)), (.int .i64 (.var 6))], 25⟩, ⟨[(.int .i64 (.lit 0)), (.int .i64 (.lit 0)), (.int .i64 (.lit 2)), (.int .i64 (.lit 2))], 3⟩, ⟨[(.int .i64 (.lit 0)), (.int .i64 (.lit 0)), (.int .i64 (.lit 0)), (.int .i64 (.lit 3))], 3⟩, ⟨[(.int .i64 (.var 25)), (.int .i64 (.var 26))], 27⟩, ⟨[(.int .i64 (.var 27)), (.int .i64 (.var 28))], 27⟩, ⟨[(.int .i64 (.lit 0)), (.int .i64 (.lit 0)), (.int .i64 (.lit 2)), (.int .i64 (.lit 2))], 3⟩, ⟨[(.int .i64 (.lit 0)), (.int .i64 (.lit 0)), (.int .i64 (.lit 0)), (.int .i64 (.lit 3))], 3⟩, ⟨[(.int .i64 (.var 30)), (.int .i64 (.var 31))], 27⟩, ⟨[(.int .i64 (.var 32)), (.int .i64 (.var 33))], 27⟩, ⟨[(.int .i64 (.lit 0)), (.int .i64 (.lit 0)), (.int .i64 (.lit (-1))), (.int .i64 (.lit 0))], 3⟩, ⟨[(.int .i64 (.lit 0)), (.int .i64 (.lit 0)), (.int .i64 (.lit (-1))), (.int .i64 (.lit 3))], 3⟩, ⟨[(.int .i64 (.lit 0)), (.int .i64 (.lit 1)), (.int .i64 (.lit (-1))), (.int .i64 (.lit 3))], 3⟩]
      (.ite (.pick (.cmp .eql (.var 30) (.var 42)) (.cmp .eql (.var 31) (.var 43)) (.lit false))
       (.call false 28 [(.int .i64 (.lit 2)), (.int .i64 (.lit 3))] (.agg [(.int .i64), (.int .i64)]) [⟨[(.sl 3 (.lit 0) (.var 4) (.var 5)), (.int .i64 (.var 6))], 25⟩, ⟨[(.int .i64 (.lit 0)), (.int .i64 (.lit 0)), (.int .i64 (.lit 2)), (.int .i64 (.lit 2))], 3⟩, ⟨[(.int .i64 (.lit 0)), (.int .i64 (.lit 0)), (.int .i64 (.lit 0)), (.int .i64 (.lit 3))], 3⟩, ⟨[(.int .i64 (.var 25)), (.int .i64 (.var 26))], 27⟩, ⟨[(.int .i64 (.var 27)), (.int .i64 (.var 28))], 27⟩, ⟨[(.int .i64 (.lit 0)), (.int .i64 (.lit 0)), (.int .i64 (.lit 2)), (.int .i64 (.lit 2))], 3⟩, ⟨[(.int .i64 (.lit 0)), (.int .i64 (.lit 0)), (.int .i64 (.lit 0)), (.int .i64 (.lit 3))], 3⟩, ⟨[(.int .i64 (.var 30)), (.int .i64 (.var 31))], 27⟩, ⟨[(.int .i64 (.var 32)), (.int .i64 (.var 33))], 27⟩, ⟨[(.int .i64 (.lit 0)), (.int .i64 (.lit 0)), (.int .i64 (.lit (-1))), (.int .i64 (.lit 0))], 3⟩, ⟨[(.int .i64 (.lit 0)), (.int .i64 (.lit 0)), (.int .i64 (.lit (-1))), (.int .i64 (.lit 3))], 3⟩, ⟨[(.int .i64 (.lit 0)), (.int .i64 (.lit 1)), (.int .i64 (.lit (-1))), (.int .i64 (.lit 3))], 3⟩]
       (.ret (.bool (.pick (.pick (.cmp .eql (.var 32) (.var 44)) (.cmp .eql (.var 33) (.var 45)) (.lit false)) (.cmp .eql (.var 34) (.lit 0)) (.lit false))) [⟨[(.sl 3 (.lit 0) (.var 4) (.var 5)), (.int .i64 (.var 6))], 25⟩, ⟨[(.int .i64 (.lit 0)), (.int .i64 (.lit 0)), (.int .i64 (.lit 2)), (.int .i64 (.lit 2))], 3⟩, ⟨[(.int .i64 (.lit 0)), (.int .i64 (.lit 0)), (.int .i64 (.lit 0)), (.int .i64 (.lit 3))], 3⟩, ⟨[(.int .i64 (.var 25)), (.int .i64 (.var 26))], 27⟩, ⟨[(.int .i64 (.var 27)), (.int .i64 (.var 28))], 27⟩, ⟨[(.int .i64 (.lit 0)), (.int .i64 (.lit 0)), (.int .i64 (.lit 2)), (.int .i64 (.lit 2))], 3⟩, ⟨[(.int .i64 (.lit 0)), (.int .i64 (.lit 0)), (.int .i64 (.lit 0)), (.int .i64 (.lit 3))], 3⟩, ⟨[(.int .i64 (.var 30)), (.int .i64 (.var 31))], 27⟩, ⟨[(.int .i64 (.var 32)), (.int .i64 (.var 33))], 27⟩, ⟨[(.int .i64 (.lit 0)), (.int .i64 (.lit 0)), (.int .i64 (.lit (-1))), (.int .i64 (.lit 0))], 3⟩, ⟨[(.int .i64 (.lit 0)), (.int .i64 (.lit 0)), (.int .i64 (.lit (-1))), (.int .i64 (.lit 3))], 3⟩, ⟨[(.int .i64 (.lit 0)), (.int .i64 (.lit 1)), (.int .i64 (.lit (-1))), (.int .i64 (.lit 3))], 3⟩]))
       (.ret (.bool (.lit false)) [⟨[(.sl 3 (.lit 0) (.var 4) (.var 5)), (.int .i64 (.var 6))], 25⟩, ⟨[(.int .i64 (.lit 0)), (.int .i64 (.lit 0)), (.int .i64 (.lit 2)), (.int .i64 (.lit 2))], 3⟩, ⟨[(.int .i64 (.lit 0)), (.int .i64 (.lit 0)), (.int .i64 (.lit 0)), (.int .i64 (.lit 3))], 3⟩, ⟨[(.int .i64 (.var 25)), (.int .i64 (.var 26))], 27⟩, ⟨[(.int .i64 (.var 27)), (.int .i64 (.var 28))], 27⟩, ⟨[(.int .i64 (.lit 0)), (.int .i64 (.lit 0)), (.int .i64 (.lit 2)), (.int .i64 (.lit 2))], 3⟩, ⟨[(.int .i64 (.lit 0)), (.int .i64 (.lit 0)), (.int .i64 (.lit 0)), (.int .i64 (.lit 3))], 3⟩, ⟨[(.int .i64 (.var 30)), (.int .i64 (.var 31))], 27⟩, ⟨[(.int .i64 (.var 32)), (.int .i64 (.var 33))], 27⟩, ⟨[(.int .i64 (.lit 0)), (.int .i64 (.lit 0)), (.int .i64 (.lit (-1))), (.int .i64 (.lit 0))], 3⟩, ⟨[(.int .i64 (.lit 0)), (.int .i64 (.lit 0)), (.int .i64 (.lit (-1))), (.int .i64 (.lit 3))], 3⟩, ⟨[(.int .i64 (.lit 0)), (.int .i64 (.lit 1)), (.int .i64 (.lit (-1))), (.int .i64 (.lit 3))], 3⟩])))
      (.ret (.bool (.lit false)) [⟨[(.sl 3 (.lit 0) (.var 4) (.var 5)), (.int .i64 (.var 6))], 25⟩, ⟨[(.int .i64 (.lit 0)), (.int .i64 (.lit 0)), (.int .i64 (.lit 2)), (.int .i64 (.lit 2))], 3⟩, ⟨[(.int .i64 (.lit 0)), (.int .i64 (.lit 0)), (.int .i64 (.lit 0)), (.int .i64 (.lit 3))], 3⟩, ⟨[(.int .i64 (.var 25)), (.int .i64 (.var 26))], 27⟩, ⟨[(.int .i64 (.var 27)), (.int .i64 (.var 28))], 27⟩, ⟨[(.int .i64 (.lit 0)), (.int .i64 (.lit 0)), (.int .i64 (.lit 2)), (.int .i64 (.lit 2))], 3⟩, ⟨[(.int .i64 (.lit 0)), (.int .i64 (.lit 0)), (.int .i64 (.lit 0)), (.int .i64 (.lit 3))], 3⟩, ⟨[(.int .i64 (.var 30)), (.int .i64 (.var 31))], 27⟩, ⟨[(.int .i64 (.var 32)), (.int .i64 (.var 33))], 27⟩, ⟨[(.int .i64 (.lit 0)), (.int .i64 (.lit 0)), (.int .i64 (.lit (-1))), (.int .i64 (.lit 0))], 3⟩, ⟨[(.int .i64 (.lit 0)), (.int .i64 (.lit 0)), (.int .i64 (.lit (-1))), (.int .i64 (.lit 3))], 3⟩, ⟨[(.int .i64 (.lit 0)), (.int .i64 (.lit 1)), (.int .i64 (.lit (-1))), (.int .i64 (.lit 3))], 3⟩])))
     (.ret (.bool (.lit false)) [⟨[(.sl 3 (.lit 0) (.var 4) (.var 5)), (.int .i64 (.var 6))], 25⟩, ⟨[(.int .i64 (.lit 0)), (.int .i64 (.lit 0)), (.int .i64 (.lit 2)), (.int .i64 (.lit 2))], 3⟩, ⟨[(.int .i64 (.lit 0)), (.int .i64 (.lit 0)), (.int .i64 (.lit 0)), (.int .i64 (.lit 3))], 3⟩, ⟨[(.int .i64 (.var 25)), (.int .i64 (.var 26))], 27⟩, ⟨[(.int .i64 (.var 27)), (.int .i64 (.var 28))], 27⟩, ⟨[(.int .i64 (.lit 0)), (.int .i64 (.lit 0)), (.int .i64 (.lit 2)), (.int .i64 (.lit 2))], 3⟩, ⟨[(.int .i64 (.lit 0)), (.int .i64 (.lit 0)), (.int .i64 (.lit 0)), (.int .i64 (.lit 3))], 3⟩, ⟨[(.int .i64 (.var 30)), (.int .i64 (.var 31))], 27⟩, ⟨[(.int .i64 (.var 32)), (.int .i64 (.var 33))], 27⟩, ⟨[(.int .i64 (.lit 0)), (.int .i64 (.lit 0)), (.int .i64 (.lit (-1))), (.int .i64 (.lit 0))], 3⟩, ⟨[(.int .i64 (.lit 0)), (.int .i64 (.lit 0)), (.int .i64 (.lit (-1))), (.int .i64 (.lit 3))], 3⟩, ⟨[(.int .i64 (.lit 0)), (.int .i64 (.lit 1)), (.int .i64 (.lit (-1))), (.int .i64 (.lit 3))], 3⟩])))
    (.ret (.bool (.lit false)) [⟨[(.sl 3 (.lit 0) (.var 4) (.var 5)), (.int .i64 (.var 6))], 25⟩, ⟨[(.int .i64 (.lit 0)), (.int .i64 (.lit 0)), (.int .i64 (.lit 2)), (.int .i64 (.lit 2))], 3⟩, ⟨[(.int .i64 (.lit 0)), (.int .i64 (.lit 0)), (.int .i64 (.lit 0)), (.int .i64 (.lit 3))], 3⟩, ⟨[(.int .i64 (.var 25)), (.int .i64 (.var 26))], 27⟩, ⟨[(.int .i64 (.var 27)), (.int .i64 (.var 28))], 27⟩, ⟨[(.int .i64 (.lit 0)), (.int .i64 (.lit 0)), (.int .i64 (.lit 2)), (.int .i64 (.lit 2))], 3⟩, ⟨[(.int .i64 (.lit 0)), (.int .i64 (.lit 0)), (.int .i64 (.lit 0)), (.int .i64 (.lit 3))], 3⟩, ⟨[(.int .i64 (.var 30)), (.int .i64 (.var 31))], 27⟩, ⟨[(.int .i64 (.var 32)), (.int .i64 (.var 33))], 27⟩, ⟨[(.int .i64 (.lit 0)), (.int .i64 (.lit 0)), (.int .i64 (.lit (-1))), (.int .i64 (.lit 0))], 3⟩, ⟨[(.int .i64 (.lit 0)), (.int .i64 (.lit 0)), (.int .i64 (.lit (-1))), (.int .i64 (.lit 3))], 3⟩, ⟨[(.int .i64 (.lit 0)), (.int .i64 (.lit 1)), (.int .i64 (.lit (-1))), (.int .i64 (.lit 3))], 3⟩]))))
   (.ret (.bool (.lit false)) [⟨[(.sl 3 (.lit 0) (.var 4) (.var 5)), (.int .i64 (.var 6))], 25⟩, ⟨[(.int .i64 (.lit 0)), (.int .i64 (.lit 0)), (.int .i64 (.lit 2)), (.int .i64 (.lit 2))], 3⟩, ⟨[(.int .i64 (.lit 0)), (.int .i64 (.lit 0)), (.int .i64 (.lit 0)), (.int .i64 (.lit 3))], 3⟩, ⟨[(.int .i64 (.var 25)), (.int .i64 (.var 26))], 27⟩, ⟨[(.int .i64 (.var 27)), (.int .i64 (.var 28))], 27⟩, ⟨[(.int .i64 (.lit 0)), (.int .i64 (.lit 0)), (.int .i64 (.lit 2)), (.int .i64 (.lit 2))], 3⟩, ⟨[(.int .i64 (.lit 0)), (.int .i64 (.lit 0)), (.int .i64 (.lit 0)), (.int .i64 (.lit 3))], 3⟩, ⟨[(.int .i64 (.var 30)), (.int .i64 (.var 31))], 27⟩, ⟨[(.int .i64 (.var 32)), (.int .i64 (.var 33))], 27⟩, ⟨[(.int .i64 (.lit 0)), (.int .i64 (.lit 0)), (.int .i64 (.lit (-1))), (.int .i64 (.lit 0))], 3⟩, ⟨[(.int .i64 (.lit 0)), (.int .i64 (.lit 0)), (.int .i64 (.lit (-1))), (.int .i64 (.lit 3))], 3⟩]))))
  (.ret (.bool (.lit false)) [⟨[(.sl 3 (.lit 0) (.var 4) (.var 5)), (.int .i64 (.var 6))], 25⟩, ⟨[(.int .i64 (.lit 0)), (.int .i64 (.lit 0)), (.int .i64 (.lit 2)), (.int .i64 (.lit 2))], 3⟩, ⟨[(.int .i64 (.lit 0)), (.int .i64 (.lit 0)), (.int .i64 (.lit 0)), (.int .i64 (.lit 3))], 3⟩, ⟨[(.int .i64 (.var 25)), (.int .i64 (.var 26))], 27⟩, ⟨[(.int .i64 (.var 27)), (.int .i64 (.var 28))], 27⟩, ⟨[(.int .i64 (.lit 0)), (.int .i64 (.lit 0)), (.int .i64 (.lit 2)), (.int .i64 (.lit 2))], 3⟩, ⟨[(.int .i64 (.lit 0)), (.int .i64 (.lit 0)), (.int .i64 (.lit 0)), (.int .i64 (.lit 3))], 3⟩, ⟨[(.int .i64 (.var 30)), (.int .i64 (.var 31))], 27⟩, ⟨[(.int .i64 (.var 32)), (.int .i64 (.var 33))], 27⟩, ⟨[(.int .i64 (.lit 0)), (.int .i64 (.lit 0)), (.int .i64 (.lit (-1))), (.int .i64 (.lit 0))], 3⟩]))))))))))))))))))))))
theorem S_law19_works : FnIs Tryd.prog n_law19_works [] T_law19_works := ⟨Tryd.f16, [], 4000, Tryd.func16, by kernel_rfl⟩
/-! 21 slices.Equal[[]int,int]  -/
abbrev n_slices_Equal___int_int_ : FuncId := 21
def T_slices_Equal___int_int_ : Tree :=
 (.chk (.cmp .geq (.var 1) (.lit 0))
 (.chk (.cmp .geq (.var 4) (.lit 0))
 (.ite (.cmp .neq (.var 1) (.var 4))
  (.ret (.bool (.lit false)) [])
  (.chk (.cmp .geq (.var 1) (.lit 0))
  (.loop 0 [.bool, (.int .i64)] [(.bool (.lit false)), (.int .i64 (.lit 0))] [] []
   (.ite (.cmp .lss (.var 7) (.var 1))
    (.chk (.pick (.cmp .geq (.var 7) (.lit 0)) (.pick (.cmp .lss (.var 7) (.var 1)) (.some 0) (.lit false)) (.lit false))
    (.load 0 (.off (.var 7) 1 (.lit 0)) [(.int .i64)] []
    (.chk (.pick (.cmp .geq (.var 7) (.lit 0)) (.pick (.cmp .lss (.var 7) (.var 4)) (.some 3) (.lit false)) (.lit false))
    (.load 3 (.off (.var 7) 1 (.lit 0)) [(.int .i64)] []
    (.ite (.cmp .neq (.var 8) (.var 9))
     (.ret (.bool (.lit false)) [])
     (.again 0 0 [.bool, (.int .i64)] [(.bool (.var 6)), (.int .i64 (.bin .add .i64 (.var 7) (.lit 1)))] []))))))
    (.ret (.bool (.lit true)) [])))))))
theorem S_slices_Equal___int_int_ : FnIs Tryd.prog n_slices_Equal___int_int_ [.sl, .sl] T_slices_Equal___int_int_ := ⟨Tryd.f21, [], 4000, Tryd.func21, by kernel_rfl⟩
/-! 28 ablaut/ablautlaw19.frac  -/
abbrev n_law19_frac : FuncId := 28
def T_law19_frac : Tree :=
 (.alloc
 (.ret (.agg [(.int .i64 (.var 0)), (.int .i64 (.var 1))]) [⟨[(.int .i64 (.var 0)), (.int .i64 (.var 1))], 27⟩]))
theorem S_law19_frac : FnIs Tryd.prog n_law19_frac [(.int .i64), (.int .i64)] T_law19_frac := ⟨Tryd.f28, [], 4000, Tryd.func28, by kernel_rfl⟩
/-! 47 ablaut/ablautlaw19.example  -/
abbrev n_law19_example : FuncId := 47
def T_law19_example : Tree :=
 (.alloc
 (.alloc
 (.alloc
 (.alloc
 (.alloc
 (.alloc
 (.alloc
 (.alloc
 (.alloc
 (.ret (.tup [(.slc 7 0 4 4), (.agg [(.slc 8 0 3 3), (.int .i64 (.lit 3))])]) [⟨[(.slc 8 0 3 3), (.int .i64 (.lit 3))], 25⟩, ⟨[(.int .u32 (.lit 2)), (.int .u32 (.lit 5))], 56⟩, ⟨[(.int .u32 (.lit 3)), (.int .u32 (.lit 4))], 56⟩, ⟨[(.int .u32 (.lit 5)), (.int .u32 (.lit 2))], 56⟩, ⟨[(.int .u32 (.lit 2)), (.int .u32 (.lit 5)), (.int .u32 (.lit 5)), (.int .u32 (.lit 2))], 56⟩, ⟨[(.int .u32 (.lit 3)), (.int .u32 (.lit 4)), (.int .u32 (.lit 5)), (.int .u32 (.lit 2))], 56⟩, ⟨[(.int .u32 (.lit 3)), (.int .u32 (.lit 4))], 56⟩, ⟨[(.bool (.lit true)), (.slc 4 0 2 2), (.bool (.lit true)), (.slc 5 0 2 2), (.bool (.lit false)), (.cst (.slice none 0 0)), (.bool (.lit true)), (.slc 6 0 1 1)], 50⟩, ⟨[(.int .i64 (.lit 2)), (.int .i64 (.lit 2)), (.int .i64 (.lit 2))], 2⟩]))))))))))
theorem S_law19_example : FnIs Tryd.prog n_law19_example [] T_law19_example := ⟨Tryd.f47, [], 4000, Tryd.func47, by kernel_rfl⟩
end Go.Proofs.YthabfpagilbplaaDoor
