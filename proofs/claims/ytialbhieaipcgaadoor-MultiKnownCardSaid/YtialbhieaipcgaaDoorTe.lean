/- The trees of this seat's functions, printed by a program of mine (SyGen), checked here by the kernel. -/
import Derived.Test.YtialbhieaipcgaaDoorSyDef
import Derived.Test.YtialbhieaipcgaaDoorProg
import Derived.KernelRfl
set_option maxRecDepth 100000
namespace Go.Proofs.YtialbhieaipcgaaDoor
open Go Go.Sy
/-! 15 ablaut/ablautlaw18.few  -/
/-! 16 ablaut/ablautlaw18.works  -/
abbrev n_law18_works : FuncId := 16
def T_law18_works : Tree :=
 (.call false 42 [] (.agg [(.int .u32), (.int .u32)]) []
 (.call false 43 [] (.agg [(.int .u32), (.int .u32)]) []
 (.alloc
 (.call false 43 [] (.agg [(.int .u32), (.int .u32)]) [⟨[(.int .u32 (.var 0)), (.int .u32 (.var 1)), (.int .u32 (.var 2)), (.int .u32 (.var 3))], 65⟩]
 (.alloc
 (.alloc
 (.call false 45 [] (.agg [.sl, (.int .i64)]) [⟨[(.int .u32 (.var 0)), (.int .u32 (.var 1)), (.int .u32 (.var 2)), (.int .u32 (.var 3))], 65⟩, ⟨[(.int .u32 (.var 4)), (.int .u32 (.var 5))], 65⟩, ⟨[(.slc 0 0 2 2), (.slc 1 0 1 1)], 46⟩]
 (.call false 23 [(.slc 2 0 2 2), (.agg [(.sl 6 (.lit 0) (.var 7) (.var 8)), (.int .i64 (.var 9))])] (.tup [.sl, (.int .i64), (.int .i64)]) [⟨[(.int .u32 (.var 0)), (.int .u32 (.var 1)), (.int .u32 (.var 2)), (.int .u32 (.var 3))], 65⟩, ⟨[(.int .u32 (.var 4)), (.int .u32 (.var 5))], 65⟩, ⟨[(.slc 0 0 2 2), (.slc 1 0 1 1)], 46⟩]
 (.alloc
 (.alloc
 (.alloc
 (.alloc
 (.call false 45 [] (.agg [.sl, (.int .i64)]) [⟨[(.int .u32 (.var 0)), (.int .u32 (.var 1)), (.int .u32 (.var 2)), (.int .u32 (.var 3))], 65⟩, ⟨[(.int .u32 (.var 4)), (.int .u32 (.var 5))], 65⟩, ⟨[(.slc 0 0 2 2), (.slc 1 0 1 1)], 46⟩, ⟨[(.slc 0 0 2 2), (.slc 1 0 1 1)], 46⟩, ⟨[(.int .i64 (.lit 0)), (.int .i64 (.lit 0))], 3⟩, ⟨[(.int .i64 (.lit 1)), (.int .i64 (.lit (-1)))], 3⟩, ⟨[(.slc 4 0 2 2), (.slc 5 0 2 2)], 49⟩]
 (.call false 17 [(.slc 3 0 2 2), (.slc 6 0 2 2), (.agg [(.sl 15 (.lit 0) (.var 16) (.var 17)), (.int .i64 (.var 18))])] (.tup [(.int .i64), (.int .i64)]) [⟨[(.int .u32 (.var 0)), (.int .u32 (.var 1)), (.int .u32 (.var 2)), (.int .u32 (.var 3))], 65⟩, ⟨[(.int .u32 (.var 4)), (.int .u32 (.var 5))], 65⟩, ⟨[(.slc 0 0 2 2), (.slc 1 0 1 1)], 46⟩, ⟨[(.slc 0 0 2 2), (.slc 1 0 1 1)], 46⟩, ⟨[(.int .i64 (.lit 0)), (.int .i64 (.lit 0))], 3⟩, ⟨[(.int .i64 (.lit 1)), (.int .i64 (.lit (-1)))], 3⟩, ⟨[(.slc 4 0 2 2), (.slc 5 0 2 2)], 49⟩]
 (.call false 42 [] (.agg [(.int .u32), (.int .u32)]) [⟨[(.int .u32 (.var 0)), (.int .u32 (.var 1)), (.int .u32 (.var 2)), (.int .u32 (.var 3))], 65⟩, ⟨[(.int .u32 (.var 4)), (.int .u32 (.var 5))], 65⟩, ⟨[(.slc 0 0 2 2), (.slc 1 0 1 1)], 46⟩, ⟨[(.slc 0 0 2 2), (.slc 1 0 1 1)], 46⟩, ⟨[(.int .i64 (.lit 0)), (.int .i64 (.lit 0))], 3⟩, ⟨[(.int .i64 (.lit 1)), (.int .i64 (.lit (-1)))], 3⟩, ⟨[(.slc 4 0 2 2), (.slc 5 0 2 2)], 49⟩]
 (.call false 43 [] (.agg [(.int .u32), (.int .u32)]) [⟨[(.int .u32 (.var 0)), (.int .u32 (.var 1)), (.int .u32 (.var 2)), (.int .u32 (.var 3))], 65⟩, ⟨[(.int .u32 (.var 4)), (.int .u32 (.var 5))], 65⟩, ⟨[(.slc 0 0 2 2), (.slc 1 0 1 1)], 46⟩, ⟨[(.slc 0 0 2 2), (.slc 1 0 1 1)], 46⟩, ⟨[(.int .i64 (.lit 0)), (.int .i64 (.lit 0))], 3⟩, ⟨[(.int .i64 (.lit 1)), (.int .i64 (.lit (-1)))], 3⟩, ⟨[(.slc 4 0 2 2), (.slc 5 0 2 2)], 49⟩]
 (.call false 44 [] (.agg [(.int .u32), (.int .u32)]) [⟨[(.int .u32 (.var 0)), (.int .u32 (.var 1)), (.int .u32 (.var 2)), (.int .u32 (.var 3))], 65⟩, ⟨[(.int .u32 (.var 4)), (.int .u32 (.var 5))], 65⟩, ⟨[(.slc 0 0 2 2), (.slc 1 0 1 1)], 46⟩, ⟨[(.slc 0 0 2 2), (.slc 1 0 1 1)], 46⟩, ⟨[(.int .i64 (.lit 0)), (.int .i64 (.lit 0))], 3⟩, ⟨[(.int .i64 (.lit 1)), (.int .i64 (.lit (-1)))], 3⟩, ⟨[(.slc 4 0 2 2), (.slc 5 0 2 2)], 49⟩]
 (.alloc
 (.call false 43 [] (.agg [(.int .u32), (.int .u32)]) [⟨[(.int .u32 (.var 0)), (.int .u32 (.var 1)), (.int .u32 (.var 2)), (.int .u32 (.var 3))], 65⟩, ⟨[(.int .u32 (.var 4)), (.int .u32 (.var 5))], 65⟩, ⟨[(.slc 0 0 2 2), (.slc 1 0 1 1)], 46⟩, ⟨[(.slc 0 0 2 2), (.slc 1 0 1 1)], 46⟩, ⟨[(.int .i64 (.lit 0)), (.int .i64 (.lit 0))], 3⟩, ⟨[(.int .i64 (.lit 1)), (.int .i64 (.lit (-1)))], 3⟩, ⟨[(.slc 4 0 2 2), (.slc 5 0 2 2)], 49⟩, ⟨[(.int .u32 (.var 21)), (.int .u32 (.var 22)), (.int .u32 (.var 23)), (.int .u32 (.var 24)), (.int .u32 (.var 25)), (.int .u32 (.var 26))], 65⟩]
 (.call false 44 [] (.agg [(.int .u32), (.int .u32)]) [⟨[(.int .u32 (.var 0)), (.int .u32 (.var 1)), (.int .u32 (.var 2)), (.int .u32 (.var 3))], 65⟩, ⟨[(.int .u32 (.var 4)), (.int .u32 (.var 5))], 65⟩, ⟨[(.slc 0 0 2 2), (.slc 1 0 1 1)], 46⟩, ⟨[(.slc 0 0 2 2), (.slc 1 0 1 1)], 46⟩, ⟨[(.int .i64 (.lit 0)), (.int .i64 (.lit 0))], 3⟩, ⟨[(.int .i64 (.lit 1)), (.int .i64 (.lit (-1)))], 3⟩, ⟨[(.slc 4 0 2 2), (.slc 5 0 2 2)], 49⟩, ⟨[(.int .u32 (.var 21)), (.int .u32 (.var 22)), (.int .u32 (.var 23)), (.int .u32 (.var 24)), (.int .u32 (.var 25)), (.int .u32 (.var 26))], 65⟩]
 (.alloc
 (.call false 42 [] (.agg [(.int .u32), (.int .u32)]) [⟨[(.int .u32 (.var 0)), (.int .u32 (.var 1)), (.int .u32 (.var 2)), (.int .u32 (.var 3))], 65⟩, ⟨[(.int .u32 (.var 4)), (.int .u32 (.var 5))], 65⟩, ⟨[(.slc 0 0 2 2), (.slc 1 0 1 1)], 46⟩, ⟨[(.slc 0 0 2 2), (.slc 1 0 1 1)], 46⟩, ⟨[(.int .i64 (.lit 0)), (.int .i64 (.lit 0))], 3⟩, ⟨[(.int .i64 (.lit 1)), (.int .i64 (.lit (-1)))], 3⟩, ⟨[(.slc 4 0 2 2), (.slc 5 0 2 2)], 49⟩, ⟨[(.int .u32 (.var 21)), (.int .u32 (.var 22)), (.int .u32 (.var 23)), (.int .u32 (.var 24)), (.int .u32 (.var 25)), (.int .u32 (.var 26))], 65⟩, ⟨[(.int .u32 (.var 27)), (.int .u32 (.var 28)), (.int .u32 (.var 29)), (.int .u32 (.var 30))], 65⟩]
 (.call false 44 [] (.agg [(.int .u32), (.int .u32)]) [⟨[(.int .u32 (.var 0)), (.int .u32 (.var 1)), (.int .u32 (.var 2)), (.int .u32 (.var 3))], 65⟩, ⟨[(.int .u32 (.var 4)), (.int .u32 (.var 5))], 65⟩, ⟨[(.slc 0 0 2 2), (.slc 1 0 1 1)], 46⟩, ⟨[(.slc 0 0 2 2), (.slc 1 0 1 1)], 46⟩, ⟨[(.int .i64 (.lit 0)), (.int .i64 (.lit 0))], 3⟩, ⟨[(.int .i64 (.lit 1)), (.int .i64 (.lit (-1)))], 3⟩, ⟨[(.slc 4 0 2 2), (.slc 5 0 2 2)], 49⟩, ⟨[(.int .u32 (.var 21)), (.int .u32 (.var 22)), (.int .u32 (.var 23)), (.int .u32 (.var 24)), (.int .u32 (.var 25)), (.int .u32 (.var 26))], 65⟩, ⟨[(.int .u32 (.var 27)), (.int .u32 (.var 28)), (.int .u32 (.var 29)), (.int .u32 (.var 30))], 65⟩]
 (.alloc
 (.alloc
 (.call false 45 [] (.agg [.sl, (.int .i64)]) [⟨[(.int .u32 (.var 0)), (.int .u32 (.var 1)), (.int .u32 (.var 2)), (.int .u32 (.var 3))], 65⟩, ⟨[(.int .u32 (.var 4)), (.int .u32 (.var 5))], 65⟩, ⟨[(.slc 0 0 2 2), (.slc 1 0 1 1)], 46⟩, ⟨[(.slc 0 0 2 2), (.slc 1 0 1 1)], 46⟩, ⟨[(.int .i64 (.lit 0)), (.int .i64 (.lit 0))], 3⟩, ⟨[(.int .i64 (.lit 1)), (.int .i64 (.lit (-1)))], 3⟩, ⟨[(.slc 4 0 2 2), (.slc 5 0 2 2)], 49⟩, ⟨[(.int .u32 (.var 21)), (.int .u32 (.var 22)), (.int .u32 (.var 23)), (.int .u32 (.var 24)), (.int .u32 (.var 25)), (.int .u32 (.var 26))], 65⟩, ⟨[(.int .u32 (.var 27)), (.int .u32 (.var 28)), (.int .u32 (.var 29)), (.int .u32 (.var 30))], 65⟩, ⟨[(.int .u32 (.var 31)), (.int .u32 (.var 32)), (.int .u32 (.var 33)), (.int .u32 (.var 34))], 65⟩, ⟨[(.slc 7 0 3 3), (.slc 8 0 2 2), (.slc 9 0 2 2)], 46⟩]
 (.call false 20 [(.slc 10 0 3 3), (.agg [(.sl 35 (.lit 0) (.var 36) (.var 37)), (.int .i64 (.var 38))])] (.tup [.sl, (.int .i64)]) [⟨[(.int .u32 (.var 0)), (.int .u32 (.var 1)), (.int .u32 (.var 2)), (.int .u32 (.var 3))], 65⟩, ⟨[(.int .u32 (.var 4)), (.int .u32 (.var 5))], 65⟩, ⟨[(.slc 0 0 2 2), (.slc 1 0 1 1)], 46⟩, ⟨[(.slc 0 0 2 2), (.slc 1 0 1 1)], 46⟩, ⟨[(.int .i64 (.lit 0)), (.int .i64 (.lit 0))], 3⟩, ⟨[(.int .i64 (.lit 1)), (.int .i64 (.lit (-1)))], 3⟩, ⟨[(.slc 4 0 2 2), (.slc 5 0 2 2)], 49⟩, ⟨[(.int .u32 (.var 21)), (.int .u32 (.var 22)), (.int .u32 (.var 23)), (.int .u32 (.var 24)), (.int .u32 (.var 25)), (.int .u32 (.var 26))], 65⟩, ⟨[(.int .u32 (.var 27)), (.int .u32 (.var 28)), (.int .u32 (.var 29)), (.int .u32 (.var 30))], 65⟩, ⟨[(.int .u32 (.var 31)), (.int .u32 (.var 32)), (.int .u32 (.var 33)), (.int .u32 (.var 34))], 65⟩, ⟨[(.slc 7 0 3 3), (.slc 8 0 2 2), (.slc 9 0 2 2)], 46⟩]
 (.alloc
 (.alloc
 (.alloc
 (.alloc
 (.call false 29 [(.slc 11 0 2 2), (.slc 14 0 2 2), (.int .i64 (.lit 0))] (.tup [.sl, (.int .i64)]) [⟨[(.int .u32 (.var 0)), (.int .u32 (.var 1)), (.int .u32 (.var 2)), (.int .u32 (.var 3))], 65⟩, ⟨[(.int .u32 (.var 4)), (.int .u32 (.var 5))], 65⟩, ⟨[(.slc 0 0 2 2), (.slc 1 0 1 1)], 46⟩, ⟨[(.slc 0 0 2 2), (.slc 1 0 1 1)], 46⟩, ⟨[(.int .i64 (.lit 0)), (.int .i64 (.lit 0))], 3⟩, ⟨[(.int .i64 (.lit 1)), (.int .i64 (.lit (-1)))], 3⟩, ⟨[(.slc 4 0 2 2), (.slc 5 0 2 2)], 49⟩, ⟨[(.int .u32 (.var 21)), (.int .u32 (.var 22)), (.int .u32 (.var 23)), (.int .u32 (.var 24)), (.int .u32 (.var 25)), (.int .u32 (.var 26))], 65⟩, ⟨[(.int .u32 (.var 27)), (.int .u32 (.var 28)), (.int .u32 (.var 29)), (.int .u32 (.var 30))], 65⟩, ⟨[(.int .u32 (.var 31)), (.int .u32 (.var 32)), (.int .u32 (.var 33)), (.int .u32 (.var 34))], 65⟩, ⟨[(.slc 7 0 3 3), (.slc 8 0 2 2), (.slc 9 0 2 2)], 46⟩, ⟨[(.slc 0 0 2 2), (.slc 1 0 1 1)], 46⟩, ⟨[(.int .i64 (.lit 0)), (.int .i64 (.lit (-1)))], 3⟩, ⟨[(.int .i64 (.lit 1)), (.int .i64 (.lit 0))], 3⟩, ⟨[(.slc 12 0 2 2), (.slc 13 0 2 2)], 49⟩]
 (.ite (.pick (.pick (.pick (.cmp .eql (.var 14) (.lit 0)) (.cmp .eql (.var 20) (.lit 0)) (.lit false)) (.cmp .eql (.var 42) (.lit 0)) (.lit false)) (.cmp .eql (.var 46) (.lit 0)) (.lit false))
  (.alloc
  (.alloc
  (.alloc
  (.call false 22 [(.sl 10 (.lit 0) (.var 11) (.var 12)), (.slc 17 0 2 2)] .bool [⟨[(.int .u32 (.var 0)), (.int .u32 (.var 1)), (.int .u32 (.var 2)), (.int .u32 (.var 3))], 65⟩, ⟨[(.int .u32 (.var 4)), (.int .u32 (.var 5))], 65⟩, ⟨[(.slc 0 0 2 2), (.slc 1 0 1 1)], 46⟩, ⟨[(.slc 0 0 2 2), (.slc 1 0 1 1)], 46⟩, ⟨[(.int .i64 (.lit 0)), (.int .i64 (.lit 0))], 3⟩, ⟨[(.int .i64 (.lit 1)), (.int .i64 (.lit (-1)))], 3⟩, ⟨[(.slc 4 0 2 2), (.slc 5 0 2 2)], 49⟩, ⟨[(.int .u32 (.var 21)), (.int .u32 (.var 22)), (.int .u32 (.var 23)), (.int .u32 (.var 24)), (.int .u32 (.var 25)), (.int .u32 (.var 26))], 65⟩, ⟨[(.int .u32 (.var 27)), (.int .u32 (.var 28)), (.int .u32 (.var 29)), (.int .u32 (.var 30))], 65⟩, ⟨[(.int .u32 (.var 31)), (.int .u32 (.var 32)), (.int .u32 (.var 33)), (.int .u32 (.var 34))], 65⟩, ⟨[(.slc 7 0 3 3), (.slc 8 0 2 2), (.slc 9 0 2 2)], 46⟩, ⟨[(.slc 0 0 2 2), (.slc 1 0 1 1)], 46⟩, ⟨[(.int .i64 (.lit 0)), (.int .i64 (.lit (-1)))], 3⟩, ⟨[(.int .i64 (.lit 1)), (.int .i64 (.lit 0))], 3⟩, ⟨[(.slc 12 0 2 2), (.slc 13 0 2 2)], 49⟩, ⟨[(.int .i64 (.lit 0)), (.int .i64 (.lit (-1)))], 3⟩, ⟨[(.int .i64 (.lit 1)), (.int .i64 (.lit 0))], 3⟩, ⟨[(.slc 15 0 2 2), (.slc 16 0 2 2)], 49⟩]
  (.ite (.pick (.pick (.var 47) (.cmp .eql (.var 13) (.lit 1)) (.lit false)) (.cmp .eql (.var 19) (.lit 3)) (.lit false))
   (.alloc
   (.alloc
   (.alloc
   (.alloc
   (.call false 22 [(.sl 39 (.lit 0) (.var 40) (.var 41)), (.slc 21 0 3 3)] .bool [⟨[(.int .u32 (.var 0)), (.int .u32 (.var 1)), (.int .u32 (.var 2)), (.int .u32 (.var 3))], 65⟩, ⟨[(.int .u32 (.var 4)), (.int .u32 (.var 5))], 65⟩, ⟨[(.slc 0 0 2 2), (.slc 1 0 1 1)], 46⟩, ⟨[(.slc 0 0 2 2), (.slc 1 0 1 1)], 46⟩, ⟨[(.int .i64 (.lit 0)), (.int .i64 (.lit 0))], 3⟩, ⟨[(.int .i64 (.lit 1)), (.int .i64 (.lit (-1)))], 3⟩, ⟨[(.slc 4 0 2 2), (.slc 5 0 2 2)], 49⟩, ⟨[(.int .u32 (.var 21)), (.int .u32 (.var 22)), (.int .u32 (.var 23)), (.int .u32 (.var 24)), (.int .u32 (.var 25)), (.int .u32 (.var 26))], 65⟩, ⟨[(.int .u32 (.var 27)), (.int .u32 (.var 28)), (.int .u32 (.var 29)), (.int .u32 (.var 30))], 65⟩, ⟨[(.int .u32 (.var 31)), (.int .u32 (.var 32)), (.int .u32 (.var 33)), (.int .u32 (.var 34))], 65⟩, ⟨[(.slc 7 0 3 3), (.slc 8 0 2 2), (.slc 9 0 2 2)], 46⟩, ⟨[(.slc 0 0 2 2), (.slc 1 0 1 1)], 46⟩, ⟨[(.int .i64 (.lit 0)), (.int .i64 (.lit (-1)))], 3⟩, ⟨[(.int .i64 (.lit 1)), (.int .i64 (.lit 0))], 3⟩, ⟨[(.slc 12 0 2 2), (.slc 13 0 2 2)], 49⟩, ⟨[(.int .i64 (.lit 0)), (.int .i64 (.lit (-1)))], 3⟩, ⟨[(.int .i64 (.lit 1)), (.int .i64 (.lit 0))], 3⟩, ⟨[(.slc 15 0 2 2), (.slc 16 0 2 2)], 49⟩, ⟨[(.int .i64 (.lit 0)), (.int .i64 (.lit (-1))), (.int .i64 (.lit 0))], 3⟩, ⟨[(.int .i64 (.lit 1)), (.int .i64 (.lit 0)), (.int .i64 (.lit (-1)))], 3⟩, ⟨[(.int .i64 (.lit 2)), (.int .i64 (.lit 1)), (.int .i64 (.lit 1))], 3⟩, ⟨[(.slc 18 0 3 3), (.slc 19 0 3 3), (.slc 20 0 3 3)], 49⟩]
   (.ite (.var 48)
    (.alloc
    (.alloc
    (.call false 22 [(.sl 43 (.lit 0) (.var 44) (.var 45)), (.slc 23 0 1 1)] .bool [⟨[(.int .u32 (.var 0)), (.int .u32 (.var 1)), (.int .u32 (.var 2)), (.int .u32 (.var 3))], 65⟩, ⟨[(.int .u32 (.var 4)), (.int .u32 (.var 5))], 65⟩, ⟨[(.slc 0 0 2 2), (.slc 1 0 1 1)], 46⟩, ⟨[(.slc 0 0 2 2), (.slc 1 0 1 1)], 46⟩, ⟨[(.int .i64 (.lit 0)), (.int .i64 (.lit 0))], 3⟩, ⟨[(.int .i64 (.lit 1)), (.int .i64 (.lit (-1)))], 3⟩, ⟨[(.slc 4 0 2 2), (.slc 5 0 2 2)], 49⟩, ⟨[(.int .u32 (.var 21)), (.int .u32 (.var 22)), (.int .u32 (.var 23)), (.int .u32 (.var 24)), (.int .u32 (.var 25)), (.int .u32 (.var 26))], 65⟩, ⟨[(.int .u32 (.var 27)), (.int .u32 (.var 28)), (.int .u32 (.var 29)), (.int .u32 (.var 30))], 65⟩, ⟨[(.int .u32 (.var 31)), (.int .u32 (.var 32)), (.int .u32 (.var 33)), (.int .u32 (.var 34))], 65⟩, ⟨[(.slc 7 0 3 3), (.slc 8 0 2 2), (.slc 9 0 2 2)], 46⟩, ⟨[(.slc 0 0 2 2), (.slc 1 0 1 1)], 46⟩, ⟨[(.int .i64 (.lit 0)), (.int .i64 (.lit (-1)))], 3⟩, ⟨[(.int .i64 (.lit 1)), (.int .i64 (.lit 0))], 3⟩, ⟨[(.slc 12 0 2 2), (.slc 13 0 2 2)], 49⟩, ⟨[(.int .i64 (.lit 0)), (.int .i64 (.lit (-1)))], 3⟩, ⟨[(.int .i64 (.lit 1)), (.int .i64 (.lit 0))], 3⟩, ⟨[(.slc 15 0 2 2), (.slc 16 0 2 2)], 49⟩, ⟨[(.int .i64 (.lit 0)), (.int .i64 (.lit (-1))), (.int .i64 (.lit 0))], 3⟩, ⟨[(.int .i64 (.lit 1)), (.int .i64 (.lit 0)), (.int .i64 (.lit (-1)))], 3⟩, ⟨[(.int .i64 (.lit 2)), (.int .i64 (.lit 1)), (.int .i64 (.lit 1))], 3⟩, ⟨[(.slc 18 0 3 3), (.slc 19 0 3 3), (.slc 20 0 3 3)], 49⟩, ⟨[(.int .i64 (.lit 0))], 3⟩, ⟨[(.slc 22 0 1 1)], 49⟩]
    (.ret (.bool (.var 49)) [⟨[(.int .u32 (.var 0)), (.int .u32 (.var 1)), (.int .u32 (.var 2)), (.int .u32 (.var 3))], 65⟩, ⟨[(.int .u32 (.var 4)), (.int .u32 (.var 5))], 65⟩, ⟨[(.slc 0 0 2 2), (.slc 1 0 1 1)], 46⟩, ⟨[(.slc 0 0 2 2), (.slc 1 0 1 1)], 46⟩, ⟨[(.int .i64 (.lit 0)), (.int .i64 (.lit 0))], 3⟩, ⟨[(.int .i64 (.lit 1)), (.int .i64 (.lit (-1)))], 3⟩, ⟨[(.slc 4 0 2 2), (.slc 5 0 2 2)], 49⟩, ⟨[(.int .u32 (.var 21)), (.int .u32 (.var 22)), (.int .u32 (.var 23)), (.int .u32 (.var 24)), (.int .u32 (.var 25)), (.int .u32 (.var 26))], 65⟩, ⟨[(.int .u32 (.var 27)), (.int .u32 (.var 28)), (.int .u32 (.var 29)), (.int .u32 (.var 30))], 65⟩, ⟨[(.int .u32 (.var 31)), (.int .u32 (.var 32)), (.int .u32 (.var 33)), (.int .u32 (.var 34))], 65⟩, ⟨[(.slc 7 0 3 3), (.slc 8 0 2 2), (.slc 9 0 2 2)], 46⟩, ⟨[(.slc 0 0 2 2), (.slc 1 0 1 1)], 46⟩, ⟨[(.int .i64 (.lit 0)), (.int .i64 (.lit (-1)))], 3⟩, ⟨[(.int .i64 (.lit 1)), (.int .i64 (.lit 0))], 3⟩, ⟨[(.slc 12 0 2 2), (.slc 13 0 2 2)], 49⟩, ⟨[(.int .i64 (.lit 0)), (.int .i64 (.lit (-1)))], 3⟩, ⟨[(.int .i64 (.lit 1)), (.int .i64 (.lit 0))], 3⟩, ⟨[(.slc 15 0 2 2), (.slc 16 0 2 2)], 49⟩, ⟨[(.int .i64 (.lit 0)), (.int .i64 (.lit (-1))), (.int .i64 (.lit 0))], 3⟩, ⟨[(.int .i64 (.lit 1)), (.int .i64 (.lit 0)), (.int .i64 (.lit (-1)))], 3⟩, ⟨[(.int .i64 (.lit 2)), (.int .i64 (.lit 1)), (.int .i64 (.lit 1))], 3⟩, ⟨[(.slc 18 0 3 3), (.slc 19 0 3 3), (.slc 20 0 3 3)], 49⟩, ⟨[(.int .i64 (.lit 0))], 3⟩, ⟨[(.slc 22 0 1 1)], 49⟩]))))
    (.ret (.bool (.lit false)) [⟨[(.int .u32 (.var 0)), (.int .u32 (.var 1)), (.int .u32 (.var 2)), (.int .u32 (.var 3))], 65⟩, ⟨[(.int .u32 (.var 4)), (.int .u32 (.var 5))], 65⟩, ⟨[(.slc 0 0 2 2), (.slc 1 0 1 1)], 46⟩, ⟨[(.slc 0 0 2 2), (.slc 1 0 1 1)], 46⟩, ⟨[(.int .i64 (.lit 0)), (.int .i64 (.lit 0))], 3⟩, ⟨[(.int .i64 (.lit 1)), (.int .i64 (.lit (-1)))], 3⟩, ⟨[(.slc 4 0 2 2), (.slc 5 0 2 2)], 49⟩, ⟨[(.int .u32 (.var 21)), (.int .u32 (.var 22)), (.int .u32 (.var 23)), (.int .u32 (.var 24)), (.int .u32 (.var 25)), (.int .u32 (.var 26))], 65⟩, ⟨[(.int .u32 (.var 27)), (.int .u32 (.var 28)), (.int .u32 (.var 29)), (.int .u32 (.var 30))], 65⟩, ⟨[(.int .u32 (.var 31)), (.int .u32 (.var 32)), (.int .u32 (.var 33)), (.int .u32 (.var 34))], 65⟩, ⟨[(.slc 7 0 3 3), (.slc 8 0 2 2), (.slc 9 0 2 2)], 46⟩, ⟨[(.slc 0 0 2 2), (.slc 1 0 1 1)], 46⟩, ⟨[(.int .i64 (.lit 0)), (.int .i64 (.lit (-1)))], 3⟩, ⟨[(.int .i64 (.lit 1)), (.int .i64 (.lit 0))], 3⟩, ⟨[(.slc 12 0 2 2), (.slc 13 0 2 2)], 49⟩, ⟨[(.int .i64 (.lit 0)), (.int .i64 (.lit (-1)))], 3⟩, ⟨[(.int .i64 (.lit 1)), (.int .i64 (.lit 0))], 3⟩, ⟨[(.slc 15 0 2 2), (.slc 16 0 2 2)], 49⟩, ⟨[(.int .i64 (.lit 0)), (.int .i64 (.lit (-1))), (.int .i64 (.lit 0))], 3⟩, ⟨[(.int .i64 (.lit 1)), (.int .i64 (.lit 0)), (.int .i64 (.lit (-1)))], 3⟩, ⟨[(.int .i64 (.lit 2)), (.int .i64 (.lit 1)), (.int .i64 (.lit 1))], 3⟩, ⟨[(.slc 18 0 3 3), (.slc 19 0 3 3), (.slc 20 0 3 3)], 49⟩])))))))
   (.ret (.bool (.lit false)) [⟨[(.int .u32 (.var 0)), (.int .u32 (.var 1)), (.int .u32 (.var 2)), (.int .u32 (.var 3))], 65⟩, ⟨[(.int .u32 (.var 4)), (.int .u32 (.var 5))], 65⟩, ⟨[(.slc 0 0 2 2), (.slc 1 0 1 1)], 46⟩, ⟨[(.slc 0 0 2 2), (.slc 1 0 1 1)], 46⟩, ⟨[(.int .i64 (.lit 0)), (.int .i64 (.lit 0))], 3⟩, ⟨[(.int .i64 (.lit 1)), (.int .i64 (.lit (-1)))], 3⟩, ⟨[(.slc 4 0 2 2), (.slc 5 0 2 2)], 49⟩, ⟨[(.int .u32 (.var 21)), (.int .u32 (.var 22)), (.int .u32 (.var 23)), (.int .u32 (.var 24)), (.int .u32 (.var 25)), (.int .u32 (.var 26))], 65⟩, ⟨[(.int .u32 (.var 27)), (.int .u32 (.var 28)), (.int .u32 (.var 29)), (.int .u32 (.var 30))], 65⟩, ⟨[(.int .u32 (.var 31)), (.int .u32 (.var 32)), (.int .u32 (.var 33)), (.int .u32 (.var 34))], 65⟩, ⟨[(.slc 7 0 3 3), (.slc 8 0 2 2), (.slc 9 0 2 2)], 46⟩, ⟨[(.slc 0 0 2 2), (.slc 1 0 1 1)], 46⟩, ⟨[(.int .i64 (.lit 0)), (.int .i64 (.lit (-1)))], 3⟩, ⟨[(.int .i64 (.lit 1)), (.int .i64 (.lit 0))], 3⟩, ⟨[(.slc 12 0 2 2), (.slc 13 0 2 2)], 49⟩, ⟨[(.int .i64 (.lit 0)), (.int .i64 (.lit (-1)))], 3⟩, ⟨[(.int .i64 (.lit 1)), (.int .i64 (.lit 0))], 3⟩, ⟨[(.slc 15 0 2 2), (.slc 16 0 2 2)], 49⟩]))))))
  (.ret (.bool (.lit false)) [⟨[(.int .u32 (.var 0)), (.int .u32 (.var 1)), (.int .u32 (.var 2)), (.int .u32 (.var 3))], 65⟩, ⟨[(.int .u32 (.var 4)), (.int .u32 (.var 5))], 65⟩, ⟨[(.slc 0 0 2 2), (.slc 1 0 1 1)], 46⟩, ⟨[(.slc 0 0 2 2), (.slc 1 0 1 1)], 46⟩, ⟨[(.int .i64 (.lit 0)), (.int .i64 (.lit 0))], 3⟩, ⟨[(.int .i64 (.lit 1)), (.int .i64 (.lit (-1)))], 3⟩, ⟨[(.slc 4 0 2 2), (.slc 5 0 2 2)], 49⟩, ⟨[(.int .u32 (.var 21)), (.int .u32 (.var 22)), (.int .u32 (.var 23)), (.int .u32 (.var 24)), (.int .u32 (.var 25)), (.int .u32 (.var 26))], 65⟩, ⟨[(.int .u32 (.var 27)), (.int .u32 (.var 28)), (.int .u32 (.var 29)), (.int .u32 (.var 30))], 65⟩, ⟨[(.int .u32 (.var 31)), (.int .u32 (.var 32)), (.int .u32 (.var 33)), (.int .u32 (.var 34))], 65⟩, ⟨[(.slc 7 0 3 3), (.slc 8 0 2 2), (.slc 9 0 2 2)], 46⟩, ⟨[(.slc 0 0 2 2), (.slc 1 0 1 1)], 46⟩, ⟨[(.int .i64 (.lit 0)), (.int .i64 (.lit (-1)))], 3⟩, ⟨[(.int .i64 (.lit 1)), (.int .i64 (.lit 0))], 3⟩, ⟨[(.slc 12 0 2 2), (.slc 13 0 2 2)], 49⟩]))))))))))))))))))))))))))))))))))
theorem S_law18_works : FnIs Tryd.prog n_law18_works [] T_law18_works := ⟨Tryd.f16, [], 4000, Tryd.func16, by kernel_rfl⟩
/-! 19 ablaut/ablautlaw18.small  -/
/-! 25 ablaut/ablautlaw18.good  -/
/-! 28 ablaut/ablautlaw18.same  -/
abbrev n_law18_same : FuncId := 28
def T_law18_same : Tree :=
 (.chk (.cmp .geq (.var 1) (.lit 0))
 (.chk (.cmp .geq (.var 4) (.lit 0))
 (.ite (.cmp .neq (.var 1) (.var 4))
  (.ret (.bool (.lit false)) [])
  (.loop 0 [.bool, (.int .i64)] [(.bool (.lit false)), (.int .i64 (.lit 0))] [] []
   (.chk (.cmp .geq (.var 1) (.lit 0))
   (.ite (.cmp .lss (.var 7) (.var 1))
    (.chk (.pick (.cmp .geq (.var 7) (.lit 0)) (.pick (.cmp .lss (.var 7) (.var 1)) (.some 0) (.lit false)) (.lit false))
    (.load 0 (.off (.var 7) 1 (.lit 0)) [.sl] []
    (.chk (.cmp .geq (.var 9) (.lit 0))
    (.chk (.pick (.cmp .geq (.var 7) (.lit 0)) (.pick (.cmp .lss (.var 7) (.var 4)) (.some 3) (.lit false)) (.lit false))
    (.load 3 (.off (.var 7) 1 (.lit 0)) [.sl] []
    (.chk (.cmp .geq (.var 12) (.lit 0))
    (.ite (.cmp .neq (.var 9) (.var 12))
     (.ret (.bool (.lit false)) [])
     (.loop 1 [.bool, (.int .i64)] [(.bool (.var 6)), (.int .i64 (.lit 0))] [] []
      (.chk (.pick (.cmp .geq (.var 7) (.lit 0)) (.pick (.cmp .lss (.var 7) (.var 1)) (.some 0) (.lit false)) (.lit false))
      (.load 0 (.off (.var 7) 1 (.lit 0)) [.sl] []
      (.chk (.cmp .geq (.var 17) (.lit 0))
      (.ite (.cmp .lss (.var 15) (.var 17))
       (.chk (.pick (.cmp .geq (.var 7) (.lit 0)) (.pick (.cmp .lss (.var 7) (.var 1)) (.some 0) (.lit false)) (.lit false))
       (.load 0 (.off (.var 7) 1 (.lit 0)) [.sl] []
       (.chk (.pick (.cmp .geq (.var 15) (.lit 0)) (.pick (.cmp .lss (.var 15) (.var 20)) (.some 19) (.lit false)) (.lit false))
       (.load 19 (.off (.var 15) 1 (.lit 0)) [(.int .i64)] []
       (.chk (.pick (.cmp .geq (.var 7) (.lit 0)) (.pick (.cmp .lss (.var 7) (.var 4)) (.some 3) (.lit false)) (.lit false))
       (.load 3 (.off (.var 7) 1 (.lit 0)) [.sl] []
       (.chk (.pick (.cmp .geq (.var 15) (.lit 0)) (.pick (.cmp .lss (.var 15) (.var 24)) (.some 23) (.lit false)) (.lit false))
       (.load 23 (.off (.var 15) 1 (.lit 0)) [(.int .i64)] []
       (.ite (.cmp .neq (.var 22) (.var 26))
        (.ret (.bool (.lit false)) [])
        (.again 1 0 [.bool, (.int .i64)] [(.bool (.var 14)), (.int .i64 (.bin .add .i64 (.var 15) (.lit 1)))] []))))))))))
       (.again 0 0 [.bool, (.int .i64)] [(.bool (.var 14)), (.int .i64 (.bin .add .i64 (.var 7) (.lit 1)))] [])))))))))))))
    (.ret (.bool (.lit true)) [])))))))
theorem S_law18_same : FnIs Tryd.prog n_law18_same [.sl, .sl] T_law18_same := ⟨Tryd.f28, [], 4000, Tryd.func28, by kernel_rfl⟩
/-! 41 ablaut/ablautlaw18.cells  -/
/-! 42 ablaut/ablautlaw18.p  -/
abbrev n_law18_p : FuncId := 42
def T_law18_p : Tree :=
 (.alloc
 (.ret (.agg [(.int .u32 (.lit 1)), (.int .u32 (.lit 2))]) [⟨[(.int .u32 (.lit 1)), (.int .u32 (.lit 2))], 65⟩]))
theorem S_law18_p : FnIs Tryd.prog n_law18_p [] T_law18_p := ⟨Tryd.f42, [], 4000, Tryd.func42, by kernel_rfl⟩
/-! 43 ablaut/ablautlaw18.a  -/
abbrev n_law18_a : FuncId := 43
def T_law18_a : Tree :=
 (.alloc
 (.ret (.agg [(.int .u32 (.lit 2)), (.int .u32 (.lit 1))]) [⟨[(.int .u32 (.lit 2)), (.int .u32 (.lit 1))], 65⟩]))
theorem S_law18_a : FnIs Tryd.prog n_law18_a [] T_law18_a := ⟨Tryd.f43, [], 4000, Tryd.func43, by kernel_rfl⟩
/-! 44 ablaut/ablautlaw18.t  -/
abbrev n_law18_t : FuncId := 44
def T_law18_t : Tree :=
 (.alloc
 (.ret (.agg [(.int .u32 (.lit 0)), (.int .u32 (.lit 0))]) [⟨[(.int .u32 (.lit 0)), (.int .u32 (.lit 0))], 65⟩]))
theorem S_law18_t : FnIs Tryd.prog n_law18_t [] T_law18_t := ⟨Tryd.f44, [], 4000, Tryd.func44, by kernel_rfl⟩
/-! 45 ablaut/ablautlaw18.costs  -/
abbrev n_law18_costs : FuncId := 45
def T_law18_costs : Tree :=
 (.alloc
 (.alloc
 (.ret (.agg [(.slc 1 0 2 2), (.int .i64 (.lit 1))]) [⟨[(.slc 1 0 2 2), (.int .i64 (.lit 1))], 26⟩, ⟨[(.int .i64 (.lit 1)), (.int .i64 (.lit 1))], 2⟩])))
theorem S_law18_costs : FnIs Tryd.prog n_law18_costs [] T_law18_costs := ⟨Tryd.f45, [], 4000, Tryd.func45, by kernel_rfl⟩
end Go.Proofs.YtialbhieaipcgaaDoor
