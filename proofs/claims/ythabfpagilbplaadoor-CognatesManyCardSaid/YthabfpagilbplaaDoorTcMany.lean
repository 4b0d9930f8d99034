/- The trees of this seat's functions, printed by a program of mine (SyGen), checked here by the kernel. -/
import Derived.Test.YthabfpagilbplaaDoorSyDef
import Derived.Test.YthabfpagilbplaaDoorProg
import Derived.KernelRfl
set_option maxRecDepth 100000
namespace Go.Proofs.YthabfpagilbplaaDoor
open Go Go.Sy
abbrev n_law19_CognatesMany : FuncId := 14
def T_law19_CognatesMany : Tree :=
 (.call false 47 [] (.tup [.sl, (.agg [.sl, (.int .i64)])]) []
 (.alloc
 (.join 0 [(.int .i64)] [⟨[(.sl 5 (.lit 0) (.var 6) (.var 7)), (.int .i64 (.var 8))], 25⟩]
 (.ite (.cmp .gtr (.bin .sub .i64 (.conv .i64 (.bin .rem .u8 (.var 0) (.lit 4))) (.lit 2)) (.lit 0))
 (.again 0 1 [(.int .i64)] [(.int .i64 (.lit 12))] [⟨[(.sl 5 (.lit 0) (.var 6) (.var 7)), (.int .i64 (.var 8))], 25⟩])
 (.again 0 1 [(.int .i64)] [(.int .i64 (.lit 0))] [⟨[(.sl 5 (.lit 0) (.var 6) (.var 7)), (.int .i64 (.var 8))], 25⟩]))
 (.join 0 [.bool, (.int .i64), (.int .i64), (.int .i64), .sl, (.int .i64)] [⟨[(.sl 14 (.lit 0) (.var 15) (.var 16)), (.int .i64 (.var 17))], 25⟩]
 (.ite (.cmp .eql (.bin .rem .u8 (.var 1) (.lit 7)) (.lit 0))
 (.call false 28 [(.int .i64 (.lit 1)), (.int .i64 (.lit 1))] (.agg [(.int .i64), (.int .i64)]) [⟨[(.sl 5 (.lit 0) (.var 6) (.var 7)), (.int .i64 (.var 8))], 25⟩]
 (.makev 50 32 (.bin .add .i64 (.lit 16) (.bin .sub .i64 (.conv .i64 (.bin .rem .u8 (.var 0) (.lit 4))) (.lit 2))) (.bin .add .i64 (.lit 16) (.bin .sub .i64 (.conv .i64 (.bin .rem .u8 (.var 0) (.lit 4))) (.lit 2)))
 (.call false 17 [(.sl 12 (.lit 0) (.var 13) (.var 14)), (.agg [(.sl 5 (.lit 0) (.var 6) (.var 7)), (.int .i64 (.var 8))]), (.agg [(.int .i64 (.var 10)), (.int .i64 (.var 11))])] (.tup [.sl, (.int .i64)]) [⟨[(.sl 5 (.lit 0) (.var 6) (.var 7)), (.int .i64 (.var 8))], 25⟩]
 (.call false 28 [(.int .i64 (.lit 1)), (.int .i64 (.lit 1))] (.agg [(.int .i64), (.int .i64)]) [⟨[(.sl 5 (.lit 0) (.var 6) (.var 7)), (.int .i64 (.var 8))], 25⟩]
 (.makev 50 32 (.bin .add .i64 (.lit 16) (.bin .sub .i64 (.conv .i64 (.bin .rem .u8 (.var 0) (.lit 4))) (.lit 2))) (.bin .add .i64 (.lit 16) (.bin .sub .i64 (.conv .i64 (.bin .rem .u8 (.var 0) (.lit 4))) (.lit 2)))
 (.call false 19 [(.sl 21 (.lit 0) (.var 22) (.var 23)), (.agg [(.sl 5 (.lit 0) (.var 6) (.var 7)), (.int .i64 (.var 8))]), (.agg [(.int .i64 (.var 19)), (.int .i64 (.var 20))])] (.tup [.sl, (.int .i64)]) [⟨[(.sl 5 (.lit 0) (.var 6) (.var 7)), (.int .i64 (.var 8))], 25⟩]
 (.chk (.cmp .geq (.var 16) (.lit 0))
 (.chk (.cmp .geq (.var 25) (.lit 0))
 (.again 0 1 [.bool, (.int .i64), (.int .i64), (.int .i64), .sl, (.int .i64)] [(.bool (.lit false)), (.int .i64 (.var 18)), (.int .i64 (.var 27)), (.int .i64 (.bin .add .i64 (.var 16) (.var 25))), (.sl 5 (.lit 0) (.var 6) (.var 7)), (.int .i64 (.var 8))] [⟨[(.sl 5 (.lit 0) (.var 6) (.var 7)), (.int .i64 (.var 8))], 25⟩])))))))))
 (.join 1 [.bool, (.int .i64), (.int .i64), (.int .i64), .sl, (.int .i64)] [⟨[(.sl 14 (.lit 0) (.var 15) (.var 16)), (.int .i64 (.var 17))], 25⟩]
 (.ite (.cmp .eql (.bin .rem .u8 (.var 1) (.lit 7)) (.lit 1))
 (.call false 28 [(.int .i64 (.lit 1)), (.int .i64 (.lit 1))] (.agg [(.int .i64), (.int .i64)]) [⟨[(.sl 5 (.lit 0) (.var 6) (.var 7)), (.int .i64 (.var 8))], 25⟩]
 (.makev 78 40 (.bin .add .i64 (.lit 256) (.bin .sub .i64 (.conv .i64 (.bin .rem .u8 (.var 0) (.lit 4))) (.lit 2))) (.bin .add .i64 (.lit 256) (.bin .sub .i64 (.conv .i64 (.bin .rem .u8 (.var 0) (.lit 4))) (.lit 2)))
 (.call false 45 [(.sl 12 (.lit 0) (.var 13) (.var 14)), (.agg [(.sl 5 (.lit 0) (.var 6) (.var 7)), (.int .i64 (.var 8))]), (.agg [(.int .i64 (.var 10)), (.int .i64 (.var 11))])] (.tup [.sl, (.int .i64)]) [⟨[(.sl 5 (.lit 0) (.var 6) (.var 7)), (.int .i64 (.var 8))], 25⟩]
 (.chk (.cmp .geq (.var 16) (.lit 0))
 (.again 1 1 [.bool, (.int .i64), (.int .i64), (.int .i64), .sl, (.int .i64)] [(.bool (.lit false)), (.int .i64 (.var 18)), (.int .i64 (.var 18)), (.int .i64 (.var 16)), (.sl 5 (.lit 0) (.var 6) (.var 7)), (.int .i64 (.var 8))] [⟨[(.sl 5 (.lit 0) (.var 6) (.var 7)), (.int .i64 (.var 8))], 25⟩])))))
 (.join 2 [.bool, (.int .i64), (.int .i64), (.int .i64), .sl, (.int .i64)] [⟨[(.sl 14 (.lit 0) (.var 15) (.var 16)), (.int .i64 (.var 17))], 25⟩]
 (.ite (.cmp .eql (.bin .rem .u8 (.var 1) (.lit 7)) (.lit 2))
 (.makev 3 8 (.bin .add .i64 (.lit 256) (.bin .sub .i64 (.conv .i64 (.bin .rem .u8 (.var 0) (.lit 4))) (.lit 2))) (.bin .add .i64 (.lit 256) (.bin .sub .i64 (.conv .i64 (.bin .rem .u8 (.var 0) (.lit 4))) (.lit 2)))
 (.call false 41 [(.sl 10 (.lit 0) (.var 11) (.var 12))] (.tup [.sl, (.int .i64)]) [⟨[(.sl 5 (.lit 0) (.var 6) (.var 7)), (.int .i64 (.var 8))], 25⟩]
 (.chk (.cmp .geq (.var 14) (.lit 0))
 (.again 2 1 [.bool, (.int .i64), (.int .i64), (.int .i64), .sl, (.int .i64)] [(.bool (.lit false)), (.int .i64 (.var 16)), (.int .i64 (.var 16)), (.int .i64 (.var 14)), (.sl 5 (.lit 0) (.var 6) (.var 7)), (.int .i64 (.var 8))] [⟨[(.sl 5 (.lit 0) (.var 6) (.var 7)), (.int .i64 (.var 8))], 25⟩]))))
 (.join 3 [.bool, (.int .i64), (.int .i64), .sl, (.int .i64)] [⟨[(.sl 13 (.lit 0) (.var 14) (.var 15)), (.int .i64 (.var 16))], 25⟩]
 (.ite (.cmp .eql (.bin .rem .u8 (.var 1) (.lit 7)) (.lit 3))
 (.makev 3 8 (.bin .add .i64 (.lit 256) (.bin .sub .i64 (.conv .i64 (.bin .rem .u8 (.var 0) (.lit 4))) (.lit 2))) (.bin .add .i64 (.lit 256) (.bin .sub .i64 (.conv .i64 (.bin .rem .u8 (.var 0) (.lit 4))) (.lit 2)))
 (.makev 3 8 (.bin .add .i64 (.lit 256) (.bin .sub .i64 (.conv .i64 (.bin .rem .u8 (.var 0) (.lit 4))) (.lit 2))) (.bin .add .i64 (.lit 256) (.bin .sub .i64 (.conv .i64 (.bin .rem .u8 (.var 0) (.lit 4))) (.lit 2)))
 (.call false 22 [(.sl 10 (.lit 0) (.var 11) (.var 12)), (.sl 13 (.lit 0) (.var 14) (.var 15))] (.tup [(.agg [(.int .i64), (.int .i64)]), (.agg [(.int .i64), (.int .i64)]), (.int .i64)]) [⟨[(.sl 5 (.lit 0) (.var 6) (.var 7)), (.int .i64 (.var 8))], 25⟩]
 (.alloc
 (.makev 3 8 (.bin .add .i64 (.lit 256) (.bin .sub .i64 (.conv .i64 (.bin .rem .u8 (.var 0) (.lit 4))) (.lit 2))) (.bin .add .i64 (.lit 256) (.bin .sub .i64 (.conv .i64 (.bin .rem .u8 (.var 0) (.lit 4))) (.lit 2)))
 (.call false 24 [(.slc 1 0 1 1), (.sl 21 (.lit 0) (.var 22) (.var 23))] (.tup [(.agg [(.int .i64), (.int .i64)]), (.agg [(.int .i64), (.int .i64)]), (.int .i64)]) [⟨[(.sl 5 (.lit 0) (.var 6) (.var 7)), (.int .i64 (.var 8))], 25⟩, ⟨[(.int .i64 (.lit 0))], 3⟩]
 (.join 4 [(.int .i64)] [⟨[(.sl 5 (.lit 0) (.var 6) (.var 7)), (.int .i64 (.var 8))], 25⟩, ⟨[(.int .i64 (.lit 0))], 3⟩]
 (.ite (.pick (.cmp .leq (.bin .sub .i64 (.conv .i64 (.bin .rem .u8 (.var 0) (.lit 4))) (.lit 2)) (.lit 0)) (.cmp .eql (.var 28) (.lit 2)) (.lit false))
 (.again 4 2 [(.int .i64)] [(.int .i64 (.lit 0))] [⟨[(.sl 5 (.lit 0) (.var 6) (.var 7)), (.int .i64 (.var 8))], 25⟩, ⟨[(.int .i64 (.lit 0))], 3⟩])
 (.again 4 2 [(.int .i64)] [(.int .i64 (.var 28))] [⟨[(.sl 5 (.lit 0) (.var 6) (.var 7)), (.int .i64 (.var 8))], 25⟩, ⟨[(.int .i64 (.lit 0))], 3⟩]))
 (.again 3 1 [.bool, (.int .i64), (.int .i64), .sl, (.int .i64)] [(.bool (.lit false)), (.int .i64 (.var 20)), (.int .i64 (.var 29)), (.sl 5 (.lit 0) (.var 6) (.var 7)), (.int .i64 (.var 8))] [⟨[(.sl 5 (.lit 0) (.var 6) (.var 7)), (.int .i64 (.var 8))], 25⟩, ⟨[(.int .i64 (.lit 0))], 3⟩]))))))))
 (.ite (.cmp .eql (.bin .rem .u8 (.var 1) (.lit 7)) (.lit 4))
 (.alloc
 (.alloc
 (.call false 48 [(.slc 2 0 1 1), (.int .i64 (.bin .add .i64 (.lit 256) (.bin .sub .i64 (.conv .i64 (.bin .rem .u8 (.var 0) (.lit 4))) (.lit 2))))] .sl [⟨[(.sl 5 (.lit 0) (.var 6) (.var 7)), (.int .i64 (.var 8))], 25⟩, ⟨[(.int .i64 (.lit 1)), (.int .i64 (.lit 2))], 3⟩, ⟨[(.slc 1 0 2 2)], 30⟩]
 (.call false 36 [(.sl 10 (.lit 0) (.var 11) (.var 12)), (.int .i64 (.lit 0)), (.int .i64 (.lit 1))] (.tup [(.agg [(.int .i64), (.int .i64)]), (.int .i64)]) [⟨[(.sl 5 (.lit 0) (.var 6) (.var 7)), (.int .i64 (.var 8))], 25⟩, ⟨[(.int .i64 (.lit 1)), (.int .i64 (.lit 2))], 3⟩, ⟨[(.slc 1 0 2 2)], 30⟩]
 (.alloc
 (.alloc
 (.call false 48 [(.slc 4 0 1 1), (.int .i64 (.bin .add .i64 (.lit 256) (.bin .sub .i64 (.conv .i64 (.bin .rem .u8 (.var 0) (.lit 4))) (.lit 2))))] .sl [⟨[(.sl 5 (.lit 0) (.var 6) (.var 7)), (.int .i64 (.var 8))], 25⟩, ⟨[(.int .i64 (.lit 1)), (.int .i64 (.lit 2))], 3⟩, ⟨[(.slc 1 0 2 2)], 30⟩, ⟨[(.int .i64 (.lit 1)), (.int .i64 (.lit 2))], 3⟩, ⟨[(.slc 3 0 2 2)], 30⟩]
 (.call false 36 [(.sl 16 (.lit 0) (.var 17) (.var 18)), (.int .i64 (.lit 0)), (.int .i64 (.lit 2))] (.tup [(.agg [(.int .i64), (.int .i64)]), (.int .i64)]) [⟨[(.sl 5 (.lit 0) (.var 6) (.var 7)), (.int .i64 (.var 8))], 25⟩, ⟨[(.int .i64 (.lit 1)), (.int .i64 (.lit 2))], 3⟩, ⟨[(.slc 1 0 2 2)], 30⟩, ⟨[(.int .i64 (.lit 1)), (.int .i64 (.lit 2))], 3⟩, ⟨[(.slc 3 0 2 2)], 30⟩]
 (.join 4 [(.int .i64)] [⟨[(.sl 5 (.lit 0) (.var 6) (.var 7)), (.int .i64 (.var 8))], 25⟩, ⟨[(.int .i64 (.lit 1)), (.int .i64 (.lit 2))], 3⟩, ⟨[(.slc 1 0 2 2)], 30⟩, ⟨[(.int .i64 (.lit 1)), (.int .i64 (.lit 2))], 3⟩, ⟨[(.slc 3 0 2 2)], 30⟩]
 (.ite (.pick (.cmp .leq (.bin .sub .i64 (.conv .i64 (.bin .rem .u8 (.var 0) (.lit 4))) (.lit 2)) (.lit 0)) (.cmp .eql (.var 21) (.lit 3)) (.lit false))
 (.again 4 5 [(.int .i64)] [(.int .i64 (.lit 0))] [⟨[(.sl 5 (.lit 0) (.var 6) (.var 7)), (.int .i64 (.var 8))], 25⟩, ⟨[(.int .i64 (.lit 1)), (.int .i64 (.lit 2))], 3⟩, ⟨[(.slc 1 0 2 2)], 30⟩, ⟨[(.int .i64 (.lit 1)), (.int .i64 (.lit 2))], 3⟩, ⟨[(.slc 3 0 2 2)], 30⟩])
 (.again 4 5 [(.int .i64)] [(.int .i64 (.var 21))] [⟨[(.sl 5 (.lit 0) (.var 6) (.var 7)), (.int .i64 (.var 8))], 25⟩, ⟨[(.int .i64 (.lit 1)), (.int .i64 (.lit 2))], 3⟩, ⟨[(.slc 1 0 2 2)], 30⟩, ⟨[(.int .i64 (.lit 1)), (.int .i64 (.lit 2))], 3⟩, ⟨[(.slc 3 0 2 2)], 30⟩]))
 (.again 3 1 [.bool, (.int .i64), (.int .i64), .sl, (.int .i64)] [(.bool (.lit false)), (.int .i64 (.var 15)), (.int .i64 (.var 22)), (.sl 5 (.lit 0) (.var 6) (.var 7)), (.int .i64 (.var 8))] [⟨[(.sl 5 (.lit 0) (.var 6) (.var 7)), (.int .i64 (.var 8))], 25⟩, ⟨[(.int .i64 (.lit 1)), (.int .i64 (.lit 2))], 3⟩, ⟨[(.slc 1 0 2 2)], 30⟩, ⟨[(.int .i64 (.lit 1)), (.int .i64 (.lit 2))], 3⟩, ⟨[(.slc 3 0 2 2)], 30⟩]))))))))))
 (.ite (.cmp .eql (.bin .rem .u8 (.var 1) (.lit 7)) (.lit 5))
 (.call false 28 [(.int .i64 (.lit 1)), (.int .i64 (.lit 0))] (.agg [(.int .i64), (.int .i64)]) [⟨[(.sl 5 (.lit 0) (.var 6) (.var 7)), (.int .i64 (.var 8))], 25⟩]
 (.allocb 56 (some 33)
 (.alloc
 (.alloc
 (.call false 17 [(.slc 2 0 2 2), (.agg [(.sl 5 (.lit 0) (.var 6) (.var 7)), (.int .i64 (.var 8))]), (.agg [(.int .i64 (.var 10)), (.int .i64 (.var 11))])] (.tup [.sl, (.int .i64)]) [⟨[(.sl 5 (.lit 0) (.var 6) (.var 7)), (.int .i64 (.var 8))], 25⟩, ⟨[(.int .u32 (.lit 0)), (.int .u32 (.lit 0))], 56⟩, ⟨[(.bool (.lit true)), (.sl 12 (.lit 0) (.lit 33) (.lit 33)), (.bool (.lit false)), (.slc 1 0 1 1)], 50⟩]
 (.call false 28 [(.int .i64 (.lit 1)), (.int .i64 (.lit 0))] (.agg [(.int .i64), (.int .i64)]) [⟨[(.sl 5 (.lit 0) (.var 6) (.var 7)), (.int .i64 (.var 8))], 25⟩, ⟨[(.int .u32 (.lit 0)), (.int .u32 (.lit 0))], 56⟩, ⟨[(.bool (.lit true)), (.sl 12 (.lit 0) (.lit 33) (.lit 33)), (.bool (.lit false)), (.slc 1 0 1 1)], 50⟩]
 (.allocb 56 (some 33)
 (.alloc
 (.call false 17 [(.slc 3 0 2 2), (.agg [(.sl 5 (.lit 0) (.var 6) (.var 7)), (.int .i64 (.var 8))]), (.agg [(.int .i64 (.var 17)), (.int .i64 (.var 18))])] (.tup [.sl, (.int .i64)]) [⟨[(.sl 5 (.lit 0) (.var 6) (.var 7)), (.int .i64 (.var 8))], 25⟩, ⟨[(.int .u32 (.lit 0)), (.int .u32 (.lit 0))], 56⟩, ⟨[(.bool (.lit true)), (.sl 12 (.lit 0) (.lit 33) (.lit 33)), (.bool (.lit false)), (.slc 1 0 1 1)], 50⟩, ⟨[(.bool (.lit true)), (.sl 19 (.lit 0) (.lit 33) (.lit 33)), (.bool (.lit false)), (.cst (.slice none 0 0))], 50⟩]
 (.join 4 [.bool] [⟨[(.sl 5 (.lit 0) (.var 6) (.var 7)), (.int .i64 (.var 8))], 25⟩, ⟨[(.int .u32 (.lit 0)), (.int .u32 (.lit 0))], 56⟩, ⟨[(.bool (.lit true)), (.sl 12 (.lit 0) (.lit 33) (.lit 33)), (.bool (.lit false)), (.slc 1 0 1 1)], 50⟩, ⟨[(.bool (.lit true)), (.sl 19 (.lit 0) (.lit 33) (.lit 33)), (.bool (.lit false)), (.cst (.slice none 0 0))], 50⟩]
 (.ite (.pick (.cmp .eql (.var 16) (.lit 2)) (.cmp .eql (.var 23) (.lit 11)) (.lit false))
 (.chk (.cmp .geq (.var 14) (.lit 0))
 (.chk (.cmp .geq (.var 21) (.lit 0))
 (.ite (.cmp .eql (.bin .add .i64 (.var 14) (.var 21)) (.lit 0))
 (.call false 16 [] .bool [⟨[(.sl 5 (.lit 0) (.var 6) (.var 7)), (.int .i64 (.var 8))], 25⟩, ⟨[(.int .u32 (.lit 0)), (.int .u32 (.lit 0))], 56⟩, ⟨[(.bool (.lit true)), (.sl 12 (.lit 0) (.lit 33) (.lit 33)), (.bool (.lit false)), (.slc 1 0 1 1)], 50⟩, ⟨[(.bool (.lit true)), (.sl 19 (.lit 0) (.lit 33) (.lit 33)), (.bool (.lit false)), (.cst (.slice none 0 0))], 50⟩]
 (.again 4 4 [.bool] [(.bool (.var 24))] [⟨[(.sl 5 (.lit 0) (.var 6) (.var 7)), (.int .i64 (.var 8))], 25⟩, ⟨[(.int .u32 (.lit 0)), (.int .u32 (.lit 0))], 56⟩, ⟨[(.bool (.lit true)), (.sl 12 (.lit 0) (.lit 33) (.lit 33)), (.bool (.lit false)), (.slc 1 0 1 1)], 50⟩, ⟨[(.bool (.lit true)), (.sl 19 (.lit 0) (.lit 33) (.lit 33)), (.bool (.lit false)), (.cst (.slice none 0 0))], 50⟩]))
 (.again 4 4 [.bool] [(.bool (.lit false))] [⟨[(.sl 5 (.lit 0) (.var 6) (.var 7)), (.int .i64 (.var 8))], 25⟩, ⟨[(.int .u32 (.lit 0)), (.int .u32 (.lit 0))], 56⟩, ⟨[(.bool (.lit true)), (.sl 12 (.lit 0) (.lit 33) (.lit 33)), (.bool (.lit false)), (.slc 1 0 1 1)], 50⟩, ⟨[(.bool (.lit true)), (.sl 19 (.lit 0) (.lit 33) (.lit 33)), (.bool (.lit false)), (.cst (.slice none 0 0))], 50⟩]))))
 (.again 4 4 [.bool] [(.bool (.lit false))] [⟨[(.sl 5 (.lit 0) (.var 6) (.var 7)), (.int .i64 (.var 8))], 25⟩, ⟨[(.int .u32 (.lit 0)), (.int .u32 (.lit 0))], 56⟩, ⟨[(.bool (.lit true)), (.sl 12 (.lit 0) (.lit 33) (.lit 33)), (.bool (.lit false)), (.slc 1 0 1 1)], 50⟩, ⟨[(.bool (.lit true)), (.sl 19 (.lit 0) (.lit 33) (.lit 33)), (.bool (.lit false)), (.cst (.slice none 0 0))], 50⟩]))
 (.ret (.bool (.var 24)) [⟨[(.sl 5 (.lit 0) (.var 6) (.var 7)), (.int .i64 (.var 8))], 25⟩, ⟨[(.int .u32 (.lit 0)), (.int .u32 (.lit 0))], 56⟩, ⟨[(.bool (.lit true)), (.sl 12 (.lit 0) (.lit 33) (.lit 33)), (.bool (.lit false)), (.slc 1 0 1 1)], 50⟩, ⟨[(.bool (.lit true)), (.sl 19 (.lit 0) (.lit 33) (.lit 33)), (.bool (.lit false)), (.cst (.slice none 0 0))], 50⟩])))))))))))
 (.allocc 56 (List.replicate 64 (.int .u32 (.lit 0)))
 (.loop 4 [(.int .i64)] [(.int .i64 (.lit 0))] [⟨[(.sl 5 (.lit 0) (.var 6) (.var 7)), (.int .i64 (.lit 1073741824))], 25⟩] [⟨[(.sl 5 (.lit 0) (.var 6) (.var 7)), (.int .i64 (.lit 1073741824))], 25⟩]
 (.ite (.cmp .lss (.var 11) (.lit 32))
 (.chk (.pick (.cmp .geq (.var 11) (.lit 0)) (.pick (.cmp .lss (.var 11) (.lit 32)) (.some 10) (.lit false)) (.lit false))
 (.store false 10 (.off (.var 11) 2 (.lit 0)) [(.int .u32 (.lit 7)), (.int .u32 (.lit 0))] [⟨[(.sl 5 (.lit 0) (.var 6) (.var 7)), (.int .i64 (.lit 1073741824))], 25⟩]
 (.again 4 1 [(.int .i64)] [(.int .i64 (.bin .add .i64 (.var 11) (.lit 1)))] [⟨[(.sl 5 (.lit 0) (.var 6) (.var 7)), (.int .i64 (.lit 1073741824))], 25⟩])))
 (.alloc
 (.call false 49 [(.slc 1 0 2 2), (.int .i64 (.lit 8))] .sl [⟨[(.sl 5 (.lit 0) (.var 6) (.var 7)), (.int .i64 (.lit 1073741824))], 25⟩, ⟨[(.bool (.lit true)), (.sl 10 (.lit 0) (.lit 32) (.lit 32)), (.bool (.lit true)), (.cst (.slice none 0 0))], 50⟩]
 (.call false 28 [(.int .i64 (.lit 9223372036854775807)), (.int .i64 (.lit 9223372036854775807))] (.agg [(.int .i64), (.int .i64)]) [⟨[(.sl 5 (.lit 0) (.var 6) (.var 7)), (.int .i64 (.lit 1073741824))], 25⟩, ⟨[(.bool (.lit true)), (.sl 10 (.lit 0) (.lit 32) (.lit 32)), (.bool (.lit true)), (.cst (.slice none 0 0))], 50⟩]
 (.call false 19 [(.sl 12 (.lit 0) (.var 13) (.var 14)), (.agg [(.sl 5 (.lit 0) (.var 6) (.var 7)), (.int .i64 (.lit 1073741824))]), (.agg [(.int .i64 (.var 15)), (.int .i64 (.var 16))])] (.tup [.sl, (.int .i64)]) [⟨[(.sl 5 (.lit 0) (.var 6) (.var 7)), (.int .i64 (.lit 1073741824))], 25⟩, ⟨[(.bool (.lit true)), (.sl 10 (.lit 0) (.lit 32) (.lit 32)), (.bool (.lit true)), (.cst (.slice none 0 0))], 50⟩]
 (.call false 28 [(.int .i64 (.lit 9223372036854775806)), (.int .i64 (.lit 9223372036854775807))] (.agg [(.int .i64), (.int .i64)]) [⟨[(.sl 5 (.lit 0) (.var 6) (.var 7)), (.int .i64 (.lit 1073741824))], 25⟩, ⟨[(.bool (.lit true)), (.sl 10 (.lit 0) (.lit 32) (.lit 32)), (.bool (.lit true)), (.cst (.slice none 0 0))], 50⟩]
 (.call false 19 [(.sl 12 (.lit 0) (.var 13) (.var 14)), (.agg [(.sl 5 (.lit 0) (.var 6) (.var 7)), (.int .i64 (.lit 1073741824))]), (.agg [(.int .i64 (.var 21)), (.int .i64 (.var 22))])] (.tup [.sl, (.int .i64)]) [⟨[(.sl 5 (.lit 0) (.var 6) (.var 7)), (.int .i64 (.lit 1073741824))], 25⟩, ⟨[(.bool (.lit true)), (.sl 10 (.lit 0) (.lit 32) (.lit 32)), (.bool (.lit true)), (.cst (.slice none 0 0))], 50⟩]
 (.join 4 [.bool] [⟨[(.sl 5 (.lit 0) (.var 6) (.var 7)), (.int .i64 (.lit 1073741824))], 25⟩, ⟨[(.bool (.lit true)), (.sl 10 (.lit 0) (.lit 32) (.lit 32)), (.bool (.lit true)), (.cst (.slice none 0 0))], 50⟩]
 (.ite (.pick (.cmp .neq (.var 20) (.lit 0)) (.lit true) (.cmp .neq (.var 26) (.lit 0)))
 (.again 4 2 [.bool] [(.bool (.lit true))] [⟨[(.sl 5 (.lit 0) (.var 6) (.var 7)), (.int .i64 (.lit 1073741824))], 25⟩, ⟨[(.bool (.lit true)), (.sl 10 (.lit 0) (.lit 32) (.lit 32)), (.bool (.lit true)), (.cst (.slice none 0 0))], 50⟩])
 (.alloc
 (.call false 21 [(.sl 17 (.lit 0) (.var 18) (.var 19)), (.slc 2 0 16 16)] .bool [⟨[(.sl 5 (.lit 0) (.var 6) (.var 7)), (.int .i64 (.lit 1073741824))], 25⟩, ⟨[(.bool (.lit true)), (.sl 10 (.lit 0) (.lit 32) (.lit 32)), (.bool (.lit true)), (.cst (.slice none 0 0))], 50⟩, ⟨[(.int .i64 (.lit 0)), (.int .i64 (.lit 0)), (.int .i64 (.lit 0)), (.int .i64 (.lit 0)), (.int .i64 (.lit 0)), (.int .i64 (.lit 0)), (.int .i64 (.lit 0)), (.int .i64 (.lit 0)), (.int .i64 (.lit 0)), (.int .i64 (.lit 0)), (.int .i64 (.lit 0)), (.int .i64 (.lit 0)), (.int .i64 (.lit 0)), (.int .i64 (.lit 0)), (.int .i64 (.lit 0)), (.int .i64 (.lit 0))], 3⟩]
 (.again 4 2 [.bool] [(.bool (.not (.var 27)))] [⟨[(.sl 5 (.lit 0) (.var 6) (.var 7)), (.int .i64 (.lit 1073741824))], 25⟩, ⟨[(.bool (.lit true)), (.sl 10 (.lit 0) (.lit 32) (.lit 32)), (.bool (.lit true)), (.cst (.slice none 0 0))], 50⟩, ⟨[(.int .i64 (.lit 0)), (.int .i64 (.lit 0)), (.int .i64 (.lit 0)), (.int .i64 (.lit 0)), (.int .i64 (.lit 0)), (.int .i64 (.lit 0)), (.int .i64 (.lit 0)), (.int .i64 (.lit 0)), (.int .i64 (.lit 0)), (.int .i64 (.lit 0)), (.int .i64 (.lit 0)), (.int .i64 (.lit 0)), (.int .i64 (.lit 0)), (.int .i64 (.lit 0)), (.int .i64 (.lit 0)), (.int .i64 (.lit 0))], 3⟩]))))
 (.ite (.var 27)
 (.ret (.bool (.lit false)) [⟨[(.sl 5 (.lit 0) (.var 6) (.var 7)), (.int .i64 (.lit 1073741824))], 25⟩, ⟨[(.bool (.lit true)), (.sl 10 (.lit 0) (.lit 32) (.lit 32)), (.bool (.lit true)), (.cst (.slice none 0 0))], 50⟩])
 (.chk (.cmp .geq (.var 24) (.lit 0))
 (.loop 4 [.bool, (.int .i64)] [(.bool (.lit false)), (.int .i64 (.lit 0))] [⟨[(.sl 5 (.lit 0) (.var 6) (.var 7)), (.int .i64 (.lit 1073741824))], 25⟩, ⟨[(.bool (.lit true)), (.sl 10 (.lit 0) (.lit 32) (.lit 32)), (.bool (.lit true)), (.cst (.slice none 0 0))], 50⟩] [⟨[(.sl 5 (.lit 0) (.var 6) (.var 7)), (.int .i64 (.lit 1073741824))], 25⟩, ⟨[(.bool (.lit true)), (.sl 10 (.lit 0) (.lit 32) (.lit 32)), (.bool (.lit true)), (.cst (.slice none 0 0))], 50⟩]
 (.ite (.cmp .lss (.var 29) (.var 24))
 (.chk (.pick (.cmp .geq (.var 29) (.lit 0)) (.pick (.cmp .lss (.var 29) (.var 24)) (.some 23) (.lit false)) (.lit false))
 (.load 23 (.off (.var 29) 1 (.lit 0)) [(.int .i64)] [⟨[(.sl 5 (.lit 0) (.var 6) (.var 7)), (.int .i64 (.lit 1073741824))], 25⟩, ⟨[(.bool (.lit true)), (.sl 10 (.lit 0) (.lit 32) (.lit 32)), (.bool (.lit true)), (.cst (.slice none 0 0))], 50⟩]
 (.ite (.cmp .neq (.var 30) (.bin .rem .i64 (.var 29) (.lit 2)))
 (.ret (.bool (.lit false)) [⟨[(.sl 5 (.lit 0) (.var 6) (.var 7)), (.int .i64 (.lit 1073741824))], 25⟩, ⟨[(.bool (.lit true)), (.sl 10 (.lit 0) (.lit 32) (.lit 32)), (.bool (.lit true)), (.cst (.slice none 0 0))], 50⟩])
 (.again 4 2 [.bool, (.int .i64)] [(.bool (.var 28)), (.int .i64 (.bin .add .i64 (.var 29) (.lit 1)))] [⟨[(.sl 5 (.lit 0) (.var 6) (.var 7)), (.int .i64 (.lit 1073741824))], 25⟩, ⟨[(.bool (.lit true)), (.sl 10 (.lit 0) (.lit 32) (.lit 32)), (.bool (.lit true)), (.cst (.slice none 0 0))], 50⟩]))))
 (.call false 16 [] .bool [⟨[(.sl 5 (.lit 0) (.var 6) (.var 7)), (.int .i64 (.lit 1073741824))], 25⟩, ⟨[(.bool (.lit true)), (.sl 10 (.lit 0) (.lit 32) (.lit 32)), (.bool (.lit true)), (.cst (.slice none 0 0))], 50⟩]
 (.ret (.bool (.var 30)) [⟨[(.sl 5 (.lit 0) (.var 6) (.var 7)), (.int .i64 (.lit 1073741824))], 25⟩, ⟨[(.bool (.lit true)), (.sl 10 (.lit 0) (.lit 32) (.lit 32)), (.bool (.lit true)), (.cst (.slice none 0 0))], 50⟩])))))))))))))))))))
 (.again 2 1 [.bool, (.int .i64), (.int .i64), (.int .i64), .sl, (.int .i64)] [(.bool (.var 10)), (.int .i64 (.var 11)), (.int .i64 (.var 12)), (.int .i64 (.lit 0)), (.sl 13 (.lit 0) (.var 14) (.var 15)), (.int .i64 (.var 16))] [⟨[(.sl 13 (.lit 0) (.var 14) (.var 15)), (.int .i64 (.var 16))], 25⟩])))
 (.again 1 1 [.bool, (.int .i64), (.int .i64), (.int .i64), .sl, (.int .i64)] [(.bool (.var 10)), (.int .i64 (.var 11)), (.int .i64 (.var 12)), (.int .i64 (.var 13)), (.sl 14 (.lit 0) (.var 15) (.var 16)), (.int .i64 (.var 17))] [⟨[(.sl 14 (.lit 0) (.var 15) (.var 16)), (.int .i64 (.var 17))], 25⟩])))
 (.again 0 1 [.bool, (.int .i64), (.int .i64), (.int .i64), .sl, (.int .i64)] [(.bool (.var 10)), (.int .i64 (.var 11)), (.int .i64 (.var 12)), (.int .i64 (.var 13)), (.sl 14 (.lit 0) (.var 15) (.var 16)), (.int .i64 (.var 17))] [⟨[(.sl 14 (.lit 0) (.var 15) (.var 16)), (.int .i64 (.var 17))], 25⟩])))
 (.join 0 [.bool] [⟨[(.sl 14 (.lit 0) (.var 15) (.var 16)), (.int .i64 (.var 17))], 25⟩]
 (.ite (.cmp .eql (.var 9) (.lit 0))
 (.ite (.pick (.pick (.cmp .eql (.var 11) (.var 9)) (.cmp .eql (.var 12) (.var 9)) (.lit false)) (.lit true) (.lit false))
 (.call false 16 [] .bool [⟨[(.sl 14 (.lit 0) (.var 15) (.var 16)), (.int .i64 (.var 17))], 25⟩]
 (.again 0 1 [.bool] [(.bool (.var 18))] [⟨[(.sl 14 (.lit 0) (.var 15) (.var 16)), (.int .i64 (.var 17))], 25⟩]))
 (.again 0 1 [.bool] [(.bool (.lit false))] [⟨[(.sl 14 (.lit 0) (.var 15) (.var 16)), (.int .i64 (.var 17))], 25⟩]))
 (.ite (.pick (.cmp .eql (.var 11) (.var 9)) (.cmp .eql (.var 12) (.var 9)) (.lit false))
 (.ite (.cmp .eql (.var 13) (.lit 0))
 (.call false 16 [] .bool [⟨[(.sl 14 (.lit 0) (.var 15) (.var 16)), (.int .i64 (.var 17))], 25⟩]
 (.again 0 1 [.bool] [(.bool (.var 18))] [⟨[(.sl 14 (.lit 0) (.var 15) (.var 16)), (.int .i64 (.var 17))], 25⟩]))
 (.again 0 1 [.bool] [(.bool (.lit false))] [⟨[(.sl 14 (.lit 0) (.var 15) (.var 16)), (.int .i64 (.var 17))], 25⟩]))
 (.again 0 1 [.bool] [(.bool (.lit false))] [⟨[(.sl 14 (.lit 0) (.var 15) (.var 16)), (.int .i64 (.var 17))], 25⟩])))
 (.ret (.bool (.var 18)) [⟨[(.sl 14 (.lit 0) (.var 15) (.var 16)), (.int .i64 (.var 17))], 25⟩]))))))
theorem S_law19_CognatesMany : FnIs Tryd.prog n_law19_CognatesMany [(.int .u8), (.int .u8)] T_law19_CognatesMany := ⟨Tryd.f14, [{ key := 6, tmps := [], join := true, dead := 7410693711188236497466914631330627136281385214125094473989713213136191671500876 }, { key := 28, tmps := [], join := true }, { key := 33, tmps := [], join := true }, { key := 38, tmps := [], join := true }, { key := 43, tmps := [], join := true }, { key := 46, tmps := [], join := true }, { key := 51, tmps := [], join := true }, { key := 200055, tmps := [], join := true }, { key := 200018, tmps := [(83, .bool)], join := true }, { key := 200056, tmps := [], join := true }, { key := 999999, tmps := [], join := false, dead := 4398046511104 }], 4000, Tryd.func14, by kernel_rfl⟩
end Go.Proofs.YthabfpagilbplaaDoor
