/- The trees of this seat's functions, printed by a program of mine (SyGen), checked here by the kernel. -/
import Derived.Test.YtkhcfbdjmpodbaaDoorSyDef
import Derived.Test.YtkhcfbdjmpodbaaDoorProg
import Derived.KernelRfl
set_option maxRecDepth 100000
namespace Go.Proofs.YtkhcfbdjmpodbaaDoor
open Go Go.Sy
abbrev n_top_TopReconstructs : FuncId := 3
def T_top_TopReconstructs : Tree :=
 (.alloc
 (.alloc
 (.call false 4 [(.sl 0 (.lit 0) (.var 1) (.var 2))] (.tup [.sl, (.int .i64)]) [⟨[(.val 3), (.sl 4 (.lit 0) (.var 5) (.var 6))], 25⟩, ⟨[(.sl 7 (.lit 0) (.var 8) (.var 9)), (.int .i64 (.var 10))], 28⟩]
 (.join 0 [.bool] [⟨[(.val 3), (.sl 4 (.lit 0) (.var 5) (.var 6))], 25⟩, ⟨[(.sl 7 (.lit 0) (.var 8) (.var 9)), (.int .i64 (.var 10))], 28⟩]
 (.ite (.cmp .neq (.var 14) (.lit 0))
 (.again 0 2 [.bool] [(.bool (.lit true))] [⟨[(.val 3), (.sl 4 (.lit 0) (.var 5) (.var 6))], 25⟩, ⟨[(.sl 7 (.lit 0) (.var 8) (.var 9)), (.int .i64 (.var 10))], 28⟩])
 (.chk (.cmp .geq (.var 1) (.lit 0))
 (.ite (.cmp .gtr (.var 1) (.lit 8))
 (.again 0 2 [.bool] [(.bool (.lit true))] [⟨[(.val 3), (.sl 4 (.lit 0) (.var 5) (.var 6))], 25⟩, ⟨[(.sl 7 (.lit 0) (.var 8) (.var 9)), (.int .i64 (.var 10))], 28⟩])
 (.chk (.cmp .geq (.var 12) (.lit 0))
 (.chk (.cmp .geq (.var 5) (.lit 0))
 (.again 0 2 [.bool] [(.bool (.cmp .neq (.var 12) (.var 5)))] [⟨[(.val 3), (.sl 4 (.lit 0) (.var 5) (.var 6))], 25⟩, ⟨[(.sl 7 (.lit 0) (.var 8) (.var 9)), (.int .i64 (.var 10))], 28⟩]))))))
 (.ite (.var 15)
 (.call false 5 [] .bool [⟨[(.val 3), (.sl 4 (.lit 0) (.var 5) (.var 6))], 25⟩, ⟨[(.sl 7 (.lit 0) (.var 8) (.var 9)), (.int .i64 (.var 10))], 28⟩]
 (.ret (.bool (.var 16)) [⟨[(.val 3), (.sl 4 (.lit 0) (.var 5) (.var 6))], 25⟩, ⟨[(.sl 7 (.lit 0) (.var 8) (.var 9)), (.int .i64 (.var 10))], 28⟩]))
 (.call false 6 [(.agg [(.val 3), (.sl 4 (.lit 0) (.var 5) (.var 6))]), (.agg [(.sl 7 (.lit 0) (.var 8) (.var 9)), (.int .i64 (.var 10))])] (.tup [.sl, .bool]) [⟨[(.val 3), (.sl 4 (.lit 0) (.var 5) (.var 6))], 25⟩, ⟨[(.sl 7 (.lit 0) (.var 8) (.var 9)), (.int .i64 (.var 10))], 28⟩]
 (.ite (.not (.var 19))
 (.call false 5 [] .bool [⟨[(.val 3), (.sl 4 (.lit 0) (.var 5) (.var 6))], 25⟩, ⟨[(.sl 7 (.lit 0) (.var 8) (.var 9)), (.int .i64 (.var 10))], 28⟩]
 (.ret (.bool (.var 20)) [⟨[(.val 3), (.sl 4 (.lit 0) (.var 5) (.var 6))], 25⟩, ⟨[(.sl 7 (.lit 0) (.var 8) (.var 9)), (.int .i64 (.var 10))], 28⟩]))
 (.loop 0 [.sl, (.int .i64)] [(.cst (.slice none 0 0)), (.int .i64 (.lit 0))] [⟨[(.val 3), (.sl 4 (.lit 0) (.var 5) (.var 6))], 25⟩, ⟨[(.sl 7 (.lit 0) (.var 8) (.var 9)), (.int .i64 (.var 10))], 28⟩] [⟨[(.val 3), (.sl 4 (.lit 0) (.var 5) (.var 6))], 25⟩, ⟨[(.sl 7 (.lit 0) (.var 8) (.var 9)), (.int .i64 (.var 10))], 28⟩]
 (.chk (.cmp .geq (.var 17) (.lit 0))
 (.ite (.cmp .lss (.var 23) (.var 17))
 (.loop 1 [.sl, (.int .i64)] [(.sl 20 (.lit 0) (.var 21) (.var 22)), (.int .i64 (.lit 0))] [⟨[(.val 3), (.sl 4 (.lit 0) (.var 5) (.var 6))], 25⟩, ⟨[(.sl 7 (.lit 0) (.var 8) (.var 9)), (.int .i64 (.var 10))], 28⟩] [⟨[(.val 3), (.sl 4 (.lit 0) (.var 5) (.var 6))], 25⟩, ⟨[(.sl 7 (.lit 0) (.var 8) (.var 9)), (.int .i64 (.var 10))], 28⟩]
 (.chk (.pick (.cmp .geq (.var 23) (.lit 0)) (.pick (.cmp .lss (.var 23) (.var 17)) (.some 16) (.lit false)) (.lit false))
 (.load 16 (.off (.var 23) 1 (.lit 0)) [.sl] [⟨[(.val 3), (.sl 4 (.lit 0) (.var 5) (.var 6))], 25⟩, ⟨[(.sl 7 (.lit 0) (.var 8) (.var 9)), (.int .i64 (.var 10))], 28⟩]
 (.chk (.cmp .geq (.var 29) (.lit 0))
 (.ite (.cmp .lss (.var 27) (.var 29))
 (.chk (.pick (.cmp .geq (.var 23) (.lit 0)) (.pick (.cmp .lss (.var 23) (.var 17)) (.some 16) (.lit false)) (.lit false))
 (.load 16 (.off (.var 23) 1 (.lit 0)) [.sl] [⟨[(.val 3), (.sl 4 (.lit 0) (.var 5) (.var 6))], 25⟩, ⟨[(.sl 7 (.lit 0) (.var 8) (.var 9)), (.int .i64 (.var 10))], 28⟩]
 (.chk (.pick (.cmp .geq (.var 27) (.lit 0)) (.pick (.cmp .lss (.var 27) (.var 32)) (.some 31) (.lit false)) (.lit false))
 (.load 31 (.off (.var 27) 3 (.lit 0)) [(.int .i64), (.int .u32), (.int .u32)] [⟨[(.val 3), (.sl 4 (.lit 0) (.var 5) (.var 6))], 25⟩, ⟨[(.sl 7 (.lit 0) (.var 8) (.var 9)), (.int .i64 (.var 10))], 28⟩]
 (.alloc
 (.loop 2 [.bool, (.int .i64)] [(.bool (.cmp .neq (.var 34) (.lit 2))), (.int .i64 (.lit 0))] [⟨[(.val 3), (.sl 4 (.lit 0) (.var 5) (.var 6))], 25⟩, ⟨[(.sl 7 (.lit 0) (.var 8) (.var 9)), (.int .i64 (.var 10))], 28⟩, ⟨[(.int .i64 (.var 34)), (.int .u32 (.var 35)), (.int .u32 (.var 36))], 43⟩] [⟨[(.val 3), (.sl 4 (.lit 0) (.var 5) (.var 6))], 25⟩, ⟨[(.sl 7 (.lit 0) (.var 8) (.var 9)), (.int .i64 (.var 10))], 28⟩, ⟨[(.int .i64 (.var 34)), (.int .u32 (.var 35)), (.int .u32 (.var 36))], 43⟩]
 (.chk (.cmp .geq (.var 25) (.lit 0))
 (.ite (.cmp .lss (.var 38) (.var 25))
 (.join 3 [.bool] [⟨[(.val 3), (.sl 4 (.lit 0) (.var 5) (.var 6))], 25⟩, ⟨[(.sl 7 (.lit 0) (.var 8) (.var 9)), (.int .i64 (.var 10))], 28⟩, ⟨[(.int .i64 (.var 34)), (.int .u32 (.var 35)), (.int .u32 (.var 36))], 43⟩]
 (.ite (.var 37)
 (.again 3 3 [.bool] [(.bool (.lit true))] [⟨[(.val 3), (.sl 4 (.lit 0) (.var 5) (.var 6))], 25⟩, ⟨[(.sl 7 (.lit 0) (.var 8) (.var 9)), (.int .i64 (.var 10))], 28⟩, ⟨[(.int .i64 (.var 34)), (.int .u32 (.var 35)), (.int .u32 (.var 36))], 43⟩])
 (.chk (.pick (.cmp .geq (.var 38) (.lit 0)) (.pick (.cmp .lss (.var 38) (.var 25)) (.some 24) (.lit false)) (.lit false))
 (.load 24 (.off (.var 38) 2 (.lit 0)) [(.int .u32), (.int .u32)] [⟨[(.val 3), (.sl 4 (.lit 0) (.var 5) (.var 6))], 25⟩, ⟨[(.sl 7 (.lit 0) (.var 8) (.var 9)), (.int .i64 (.var 10))], 28⟩, ⟨[(.int .i64 (.var 34)), (.int .u32 (.var 35)), (.int .u32 (.var 36))], 43⟩]
 (.again 3 3 [.bool] [(.bool (.pick (.cmp .eql (.var 39) (.var 35)) (.cmp .eql (.var 40) (.var 36)) (.lit false)))] [⟨[(.val 3), (.sl 4 (.lit 0) (.var 5) (.var 6))], 25⟩, ⟨[(.sl 7 (.lit 0) (.var 8) (.var 9)), (.int .i64 (.var 10))], 28⟩, ⟨[(.int .i64 (.var 34)), (.int .u32 (.var 35)), (.int .u32 (.var 36))], 43⟩]))))
 (.again 2 3 [.bool, (.int .i64)] [(.bool (.var 39)), (.int .i64 (.bin .add .i64 (.var 38) (.lit 1)))] [⟨[(.val 3), (.sl 4 (.lit 0) (.var 5) (.var 6))], 25⟩, ⟨[(.sl 7 (.lit 0) (.var 8) (.var 9)), (.int .i64 (.var 10))], 28⟩, ⟨[(.int .i64 (.var 34)), (.int .u32 (.var 35)), (.int .u32 (.var 36))], 43⟩]))
 (.join 2 [.sl] [⟨[(.val 3), (.sl 4 (.lit 0) (.var 5) (.var 6))], 25⟩, ⟨[(.sl 7 (.lit 0) (.var 8) (.var 9)), (.int .i64 (.var 10))], 28⟩, ⟨[(.int .i64 (.var 34)), (.int .u32 (.var 35)), (.int .u32 (.var 36))], 43⟩]
 (.ite (.not (.var 37))
 (.alloc
 (.ext false ⟨(.call ⟨.builtin .append, #[(.tmp 0), (.tmp 0)], #[37, 37]⟩), 37, [(.sl 24 (.lit 0) (.var 25) (.var 26)), (.slc 3 0 1 1)]⟩ .sl [⟨[(.val 3), (.sl 4 (.lit 0) (.var 5) (.var 6))], 25⟩, ⟨[(.sl 7 (.lit 0) (.var 8) (.var 9)), (.int .i64 (.var 10))], 28⟩, ⟨[(.int .i64 (.var 34)), (.int .u32 (.var 35)), (.int .u32 (.var 36))], 43⟩, ⟨[(.int .u32 (.var 35)), (.int .u32 (.var 36))], 41⟩]
 (.again 2 3 [.sl] [(.sl 39 (.lit 0) (.var 40) (.var 41))] [⟨[(.val 3), (.sl 4 (.lit 0) (.var 5) (.var 6))], 25⟩, ⟨[(.sl 7 (.lit 0) (.var 8) (.var 9)), (.int .i64 (.var 10))], 28⟩, ⟨[(.int .i64 (.var 34)), (.int .u32 (.var 35)), (.int .u32 (.var 36))], 43⟩, ⟨[(.int .u32 (.var 35)), (.int .u32 (.var 36))], 41⟩])))
 (.again 2 3 [.sl] [(.sl 24 (.lit 0) (.var 25) (.var 26))] [⟨[(.val 3), (.sl 4 (.lit 0) (.var 5) (.var 6))], 25⟩, ⟨[(.sl 7 (.lit 0) (.var 8) (.var 9)), (.int .i64 (.var 10))], 28⟩, ⟨[(.int .i64 (.var 34)), (.int .u32 (.var 35)), (.int .u32 (.var 36))], 43⟩]))
 (.again 1 2 [.sl, (.int .i64)] [(.sl 39 (.lit 0) (.var 40) (.var 41)), (.int .i64 (.bin .add .i64 (.var 27) (.lit 1)))] [⟨[(.val 3), (.sl 4 (.lit 0) (.var 5) (.var 6))], 25⟩, ⟨[(.sl 7 (.lit 0) (.var 8) (.var 9)), (.int .i64 (.var 10))], 28⟩, ⟨[(.int .i64 (.var 34)), (.int .u32 (.var 35)), (.int .u32 (.var 36))], 43⟩]))))))))))
 (.again 0 2 [.sl, (.int .i64)] [(.sl 24 (.lit 0) (.var 25) (.var 26)), (.int .i64 (.bin .add .i64 (.var 23) (.lit 1)))] [⟨[(.val 3), (.sl 4 (.lit 0) (.var 5) (.var 6))], 25⟩, ⟨[(.sl 7 (.lit 0) (.var 8) (.var 9)), (.int .i64 (.var 10))], 28⟩]))))))
 (.call false 7 [(.sl 0 (.lit 0) (.var 1) (.var 2)), (.sl 16 (.lit 0) (.var 17) (.var 18)), (.sl 20 (.lit 0) (.var 21) (.var 22)), (.agg [(.sl 7 (.lit 0) (.var 8) (.var 9)), (.int .i64 (.var 10))])] (.tup [.sl, (.int .i64), (.int .i64)]) [⟨[(.val 3), (.sl 4 (.lit 0) (.var 5) (.var 6))], 25⟩, ⟨[(.sl 7 (.lit 0) (.var 8) (.var 9)), (.int .i64 (.var 10))], 28⟩]
 (.join 0 [.bool] [⟨[(.val 3), (.sl 4 (.lit 0) (.var 5) (.var 6))], 25⟩, ⟨[(.sl 7 (.lit 0) (.var 8) (.var 9)), (.int .i64 (.var 10))], 28⟩]
 (.chk (.cmp .geq (.var 21) (.lit 0))
 (.ite (.cmp .eql (.var 21) (.lit 0))
 (.again 0 2 [.bool] [(.bool (.lit true))] [⟨[(.val 3), (.sl 4 (.lit 0) (.var 5) (.var 6))], 25⟩, ⟨[(.sl 7 (.lit 0) (.var 8) (.var 9)), (.int .i64 (.var 10))], 28⟩])
 (.chk (.cmp .geq (.var 21) (.lit 0))
 (.again 0 2 [.bool] [(.bool (.pick (.pick (.cmp .gtr (.var 21) (.lit 4)) (.lit true) (.cmp .eql (.var 28) (.lit 7))) (.lit true) (.cmp .eql (.var 28) (.lit 11))))] [⟨[(.val 3), (.sl 4 (.lit 0) (.var 5) (.var 6))], 25⟩, ⟨[(.sl 7 (.lit 0) (.var 8) (.var 9)), (.int .i64 (.var 10))], 28⟩]))))
 (.ite (.var 29)
 (.call false 5 [] .bool [⟨[(.val 3), (.sl 4 (.lit 0) (.var 5) (.var 6))], 25⟩, ⟨[(.sl 7 (.lit 0) (.var 8) (.var 9)), (.int .i64 (.var 10))], 28⟩]
 (.ret (.bool (.var 30)) [⟨[(.val 3), (.sl 4 (.lit 0) (.var 5) (.var 6))], 25⟩, ⟨[(.sl 7 (.lit 0) (.var 8) (.var 9)), (.int .i64 (.var 10))], 28⟩]))
 (.ite (.cmp .neq (.var 28) (.lit 0))
 (.ret (.bool (.lit false)) [⟨[(.val 3), (.sl 4 (.lit 0) (.var 5) (.var 6))], 25⟩, ⟨[(.sl 7 (.lit 0) (.var 8) (.var 9)), (.int .i64 (.var 10))], 28⟩])
 (.loop 0 [.bool, (.int .i64)] [(.bool (.lit false)), (.int .i64 (.lit 0))] [⟨[(.val 3), (.sl 4 (.lit 0) (.var 5) (.var 6))], 25⟩, ⟨[(.sl 7 (.lit 0) (.var 8) (.var 9)), (.int .i64 (.var 10))], 28⟩] [⟨[(.val 3), (.sl 4 (.lit 0) (.var 5) (.var 6))], 25⟩, ⟨[(.sl 7 (.lit 0) (.var 8) (.var 9)), (.int .i64 (.var 10))], 28⟩]
 (.chk (.cmp .geq (.var 12) (.lit 0))
 (.ite (.cmp .lss (.var 31) (.var 12))
 (.join 1 [.bool] [⟨[(.val 3), (.sl 4 (.lit 0) (.var 5) (.var 6))], 25⟩, ⟨[(.sl 7 (.lit 0) (.var 8) (.var 9)), (.int .i64 (.var 10))], 28⟩]
 (.chk (.pick (.cmp .geq (.var 31) (.lit 0)) (.pick (.cmp .lss (.var 31) (.var 5)) (.some 4) (.lit false)) (.lit false))
 (.chk (.pick (.cmp .geq (.off (.var 31) 2 (.lit 0)) (.lit 0)) (.some 4) (.lit false))
 (.load 4 (.off (.var 31) 2 (.lit 0)) [.bool] [⟨[(.val 3), (.sl 4 (.lit 0) (.var 5) (.var 6))], 25⟩, ⟨[(.sl 7 (.lit 0) (.var 8) (.var 9)), (.int .i64 (.var 10))], 28⟩]
 (.ite (.not (.var 32))
 (.again 1 2 [.bool] [(.bool (.var 30))] [⟨[(.val 3), (.sl 4 (.lit 0) (.var 5) (.var 6))], 25⟩, ⟨[(.sl 7 (.lit 0) (.var 8) (.var 9)), (.int .i64 (.var 10))], 28⟩])
 (.loop 2 [.bool, (.int .i64), (.int .i64)] [(.bool (.var 30)), (.int .i64 (.lit 0)), (.int .i64 (.lit 0))] [⟨[(.val 3), (.sl 4 (.lit 0) (.var 5) (.var 6))], 25⟩, ⟨[(.sl 7 (.lit 0) (.var 8) (.var 9)), (.int .i64 (.var 10))], 28⟩] [⟨[(.val 3), (.sl 4 (.lit 0) (.var 5) (.var 6))], 25⟩, ⟨[(.sl 7 (.lit 0) (.var 8) (.var 9)), (.int .i64 (.var 10))], 28⟩]
 (.chk (.cmp .geq (.var 17) (.lit 0))
 (.ite (.cmp .lss (.var 35) (.var 17))
 (.chk (.cmp .geq (.var 1) (.lit 0))
 (.makev 43 16 (.var 1) (.var 1)
 (.loop 3 [(.int .i64)] [(.int .i64 (.lit 0))] [⟨[(.val 3), (.sl 4 (.lit 0) (.var 5) (.var 6))], 25⟩, ⟨[(.sl 7 (.lit 0) (.var 8) (.var 9)), (.int .i64 (.var 10))], 28⟩] [⟨[(.val 3), (.sl 4 (.lit 0) (.var 5) (.var 6))], 25⟩, ⟨[(.sl 7 (.lit 0) (.var 8) (.var 9)), (.int .i64 (.var 10))], 28⟩]
 (.chk (.cmp .geq (.var 1) (.lit 0))
 (.ite (.cmp .lss (.var 39) (.var 1))
 (.chk (.pick (.cmp .geq (.var 35) (.lit 0)) (.pick (.cmp .lss (.var 35) (.var 17)) (.some 16) (.lit false)) (.lit false))
 (.load 16 (.off (.var 35) 1 (.lit 0)) [.sl] [⟨[(.val 3), (.sl 4 (.lit 0) (.var 5) (.var 6))], 25⟩, ⟨[(.sl 7 (.lit 0) (.var 8) (.var 9)), (.int .i64 (.var 10))], 28⟩]
 (.chk (.pick (.cmp .geq (.var 31) (.lit 0)) (.pick (.cmp .lss (.var 31) (.var 41)) (.some 40) (.lit false)) (.lit false))
 (.load 40 (.off (.var 31) 3 (.lit 0)) [(.int .i64), (.int .u32), (.int .u32)] [⟨[(.val 3), (.sl 4 (.lit 0) (.var 5) (.var 6))], 25⟩, ⟨[(.sl 7 (.lit 0) (.var 8) (.var 9)), (.int .i64 (.var 10))], 28⟩]
 (.chk (.pick (.cmp .geq (.var 39) (.lit 0)) (.pick (.cmp .lss (.var 39) (.var 37)) (.some 36) (.lit false)) (.lit false))
 (.store false 36 (.off (.var 39) 3 (.lit 0)) [(.int .i64 (.var 43)), (.int .u32 (.var 44)), (.int .u32 (.var 45))] [⟨[(.val 3), (.sl 4 (.lit 0) (.var 5) (.var 6))], 25⟩, ⟨[(.sl 7 (.lit 0) (.var 8) (.var 9)), (.int .i64 (.var 10))], 28⟩]
 (.again 3 2 [(.int .i64)] [(.int .i64 (.bin .add .i64 (.var 39) (.lit 1)))] [⟨[(.val 3), (.sl 4 (.lit 0) (.var 5) (.var 6))], 25⟩, ⟨[(.sl 7 (.lit 0) (.var 8) (.var 9)), (.int .i64 (.var 10))], 28⟩])))))))
 (.loop 3 [.bool, (.int .i64)] [(.bool (.var 33)), (.int .i64 (.lit 0))] [⟨[(.val 3), (.sl 4 (.lit 0) (.var 5) (.var 6))], 25⟩, ⟨[(.sl 7 (.lit 0) (.var 8) (.var 9)), (.int .i64 (.var 10))], 28⟩] [⟨[(.val 3), (.sl 4 (.lit 0) (.var 5) (.var 6))], 25⟩, ⟨[(.sl 7 (.lit 0) (.var 8) (.var 9)), (.int .i64 (.var 10))], 28⟩]
 (.chk (.cmp .geq (.var 12) (.lit 0))
 (.ite (.cmp .lss (.var 41) (.var 12))
 (.join 4 [.bool] [⟨[(.val 3), (.sl 4 (.lit 0) (.var 5) (.var 6))], 25⟩, ⟨[(.sl 7 (.lit 0) (.var 8) (.var 9)), (.int .i64 (.var 10))], 28⟩]
 (.chk (.pick (.cmp .geq (.var 41) (.lit 0)) (.pick (.cmp .lss (.var 41) (.var 12)) (.some 11) (.lit false)) (.lit false))
 (.load 11 (.off (.var 41) 1 (.lit 0)) [(.int .i64)] [⟨[(.val 3), (.sl 4 (.lit 0) (.var 5) (.var 6))], 25⟩, ⟨[(.sl 7 (.lit 0) (.var 8) (.var 9)), (.int .i64 (.var 10))], 28⟩]
 (.ite (.cmp .lss (.var 42) (.lit 0))
 (.again 4 2 [.bool] [(.bool (.lit true))] [⟨[(.val 3), (.sl 4 (.lit 0) (.var 5) (.var 6))], 25⟩, ⟨[(.sl 7 (.lit 0) (.var 8) (.var 9)), (.int .i64 (.var 10))], 28⟩])
 (.chk (.pick (.cmp .geq (.var 41) (.lit 0)) (.pick (.cmp .lss (.var 41) (.var 12)) (.some 11) (.lit false)) (.lit false))
 (.load 11 (.off (.var 41) 1 (.lit 0)) [(.int .i64)] [⟨[(.val 3), (.sl 4 (.lit 0) (.var 5) (.var 6))], 25⟩, ⟨[(.sl 7 (.lit 0) (.var 8) (.var 9)), (.int .i64 (.var 10))], 28⟩]
 (.chk (.cmp .geq (.var 1) (.lit 0))
 (.again 4 2 [.bool] [(.bool (.cmp .geq (.var 43) (.var 1)))] [⟨[(.val 3), (.sl 4 (.lit 0) (.var 5) (.var 6))], 25⟩, ⟨[(.sl 7 (.lit 0) (.var 8) (.var 9)), (.int .i64 (.var 10))], 28⟩])))))))
 (.ite (.var 42)
 (.ret (.bool (.lit false)) [⟨[(.val 3), (.sl 4 (.lit 0) (.var 5) (.var 6))], 25⟩, ⟨[(.sl 7 (.lit 0) (.var 8) (.var 9)), (.int .i64 (.var 10))], 28⟩])
 (.chk (.pick (.cmp .geq (.var 35) (.lit 0)) (.pick (.cmp .lss (.var 35) (.var 17)) (.some 16) (.lit false)) (.lit false))
 (.load 16 (.off (.var 35) 1 (.lit 0)) [.sl] [⟨[(.val 3), (.sl 4 (.lit 0) (.var 5) (.var 6))], 25⟩, ⟨[(.sl 7 (.lit 0) (.var 8) (.var 9)), (.int .i64 (.var 10))], 28⟩]
 (.chk (.pick (.cmp .geq (.var 41) (.lit 0)) (.pick (.cmp .lss (.var 41) (.var 44)) (.some 43) (.lit false)) (.lit false))
 (.chk (.pick (.cmp .geq (.off (.var 41) 3 (.lit 0)) (.lit 0)) (.some 43) (.lit false))
 (.load 43 (.off (.var 41) 3 (.lit 0)) [(.int .i64)] [⟨[(.val 3), (.sl 4 (.lit 0) (.var 5) (.var 6))], 25⟩, ⟨[(.sl 7 (.lit 0) (.var 8) (.var 9)), (.int .i64 (.var 10))], 28⟩]
 (.join 4 [] [⟨[(.val 3), (.sl 4 (.lit 0) (.var 5) (.var 6))], 25⟩, ⟨[(.sl 7 (.lit 0) (.var 8) (.var 9)), (.int .i64 (.var 10))], 28⟩]
 (.ite (.cmp .neq (.var 46) (.lit 0))
 (.chk (.pick (.cmp .geq (.var 41) (.lit 0)) (.pick (.cmp .lss (.var 41) (.var 12)) (.some 11) (.lit false)) (.lit false))
 (.load 11 (.off (.var 41) 1 (.lit 0)) [(.int .i64)] [⟨[(.val 3), (.sl 4 (.lit 0) (.var 5) (.var 6))], 25⟩, ⟨[(.sl 7 (.lit 0) (.var 8) (.var 9)), (.int .i64 (.var 10))], 28⟩]
 (.chk (.pick (.cmp .geq (.var 35) (.lit 0)) (.pick (.cmp .lss (.var 35) (.var 17)) (.some 16) (.lit false)) (.lit false))
 (.load 16 (.off (.var 35) 1 (.lit 0)) [.sl] [⟨[(.val 3), (.sl 4 (.lit 0) (.var 5) (.var 6))], 25⟩, ⟨[(.sl 7 (.lit 0) (.var 8) (.var 9)), (.int .i64 (.var 10))], 28⟩]
 (.chk (.pick (.cmp .geq (.var 41) (.lit 0)) (.pick (.cmp .lss (.var 41) (.var 49)) (.some 48) (.lit false)) (.lit false))
 (.load 48 (.off (.var 41) 3 (.lit 0)) [(.int .i64), (.int .u32), (.int .u32)] [⟨[(.val 3), (.sl 4 (.lit 0) (.var 5) (.var 6))], 25⟩, ⟨[(.sl 7 (.lit 0) (.var 8) (.var 9)), (.int .i64 (.var 10))], 28⟩]
 (.chk (.pick (.cmp .geq (.var 47) (.lit 0)) (.pick (.cmp .lss (.var 47) (.var 37)) (.some 36) (.lit false)) (.lit false))
 (.store false 36 (.off (.var 47) 3 (.lit 0)) [(.int .i64 (.var 51)), (.int .u32 (.var 52)), (.int .u32 (.var 53))] [⟨[(.val 3), (.sl 4 (.lit 0) (.var 5) (.var 6))], 25⟩, ⟨[(.sl 7 (.lit 0) (.var 8) (.var 9)), (.int .i64 (.var 10))], 28⟩]
 (.again 4 2 [] [] [⟨[(.val 3), (.sl 4 (.lit 0) (.var 5) (.var 6))], 25⟩, ⟨[(.sl 7 (.lit 0) (.var 8) (.var 9)), (.int .i64 (.var 10))], 28⟩])))))))))
 (.again 4 2 [] [] [⟨[(.val 3), (.sl 4 (.lit 0) (.var 5) (.var 6))], 25⟩, ⟨[(.sl 7 (.lit 0) (.var 8) (.var 9)), (.int .i64 (.var 10))], 28⟩]))
 (.again 3 2 [.bool, (.int .i64)] [(.bool (.var 40)), (.int .i64 (.bin .add .i64 (.var 41) (.lit 1)))] [⟨[(.val 3), (.sl 4 (.lit 0) (.var 5) (.var 6))], 25⟩, ⟨[(.sl 7 (.lit 0) (.var 8) (.var 9)), (.int .i64 (.var 10))], 28⟩])))))))))
 (.call false 8 [(.sl 0 (.lit 0) (.var 1) (.var 2)), (.sl 36 (.lit 0) (.var 37) (.var 38)), (.sl 20 (.lit 0) (.var 21) (.var 22)), (.agg [(.sl 7 (.lit 0) (.var 8) (.var 9)), (.int .i64 (.var 10))])] (.tup [(.int .i64), (.int .i64)]) [⟨[(.val 3), (.sl 4 (.lit 0) (.var 5) (.var 6))], 25⟩, ⟨[(.sl 7 (.lit 0) (.var 8) (.var 9)), (.int .i64 (.var 10))], 28⟩]
 (.ite (.cmp .neq (.var 43) (.lit 0))
 (.ret (.bool (.lit false)) [⟨[(.val 3), (.sl 4 (.lit 0) (.var 5) (.var 6))], 25⟩, ⟨[(.sl 7 (.lit 0) (.var 8) (.var 9)), (.int .i64 (.var 10))], 28⟩])
 (.again 2 2 [.bool, (.int .i64), (.int .i64)] [(.bool (.var 40)), (.int .i64 (.bin .add .i64 (.var 34) (.var 42))), (.int .i64 (.bin .add .i64 (.var 35) (.lit 1)))] [⟨[(.val 3), (.sl 4 (.lit 0) (.var 5) (.var 6))], 25⟩, ⟨[(.sl 7 (.lit 0) (.var 8) (.var 9)), (.int .i64 (.var 10))], 28⟩])))))))))))
 (.ite (.cmp .lss (.var 34) (.var 27))
 (.ret (.bool (.lit false)) [⟨[(.val 3), (.sl 4 (.lit 0) (.var 5) (.var 6))], 25⟩, ⟨[(.sl 7 (.lit 0) (.var 8) (.var 9)), (.int .i64 (.var 10))], 28⟩])
 (.again 1 2 [.bool] [(.bool (.var 33))] [⟨[(.val 3), (.sl 4 (.lit 0) (.var 5) (.var 6))], 25⟩, ⟨[(.sl 7 (.lit 0) (.var 8) (.var 9)), (.int .i64 (.var 10))], 28⟩])))))))))
 (.again 0 2 [.bool, (.int .i64)] [(.bool (.var 32)), (.int .i64 (.bin .add .i64 (.var 31) (.lit 1)))] [⟨[(.val 3), (.sl 4 (.lit 0) (.var 5) (.var 6))], 25⟩, ⟨[(.sl 7 (.lit 0) (.var 8) (.var 9)), (.int .i64 (.var 10))], 28⟩]))
 (.join 0 [.bool] [⟨[(.val 3), (.sl 4 (.lit 0) (.var 5) (.var 6))], 25⟩, ⟨[(.sl 7 (.lit 0) (.var 8) (.var 9)), (.int .i64 (.var 10))], 28⟩]
 (.ite (.cmp .gtr (.var 10) (.lit 0))
 (.chk (.cmp .geq (.var 8) (.lit 0))
 (.again 0 2 [.bool] [(.bool (.cmp .eql (.var 8) (.lit 24)))] [⟨[(.val 3), (.sl 4 (.lit 0) (.var 5) (.var 6))], 25⟩, ⟨[(.sl 7 (.lit 0) (.var 8) (.var 9)), (.int .i64 (.var 10))], 28⟩]))
 (.again 0 2 [.bool] [(.bool (.lit false))] [⟨[(.val 3), (.sl 4 (.lit 0) (.var 5) (.var 6))], 25⟩, ⟨[(.sl 7 (.lit 0) (.var 8) (.var 9)), (.int .i64 (.var 10))], 28⟩]))
 (.loop 0 [.bool, (.int .i64)] [(.bool (.var 32)), (.int .i64 (.lit 0))] [⟨[(.val 3), (.sl 4 (.lit 0) (.var 5) (.var 6))], 25⟩, ⟨[(.sl 7 (.lit 0) (.var 8) (.var 9)), (.int .i64 (.var 10))], 28⟩] [⟨[(.val 3), (.sl 4 (.lit 0) (.var 5) (.var 6))], 25⟩, ⟨[(.sl 7 (.lit 0) (.var 8) (.var 9)), (.int .i64 (.var 10))], 28⟩]
 (.chk (.cmp .geq (.var 8) (.lit 0))
 (.ite (.cmp .lss (.var 34) (.var 8))
 (.join 1 [.bool] [⟨[(.val 3), (.sl 4 (.lit 0) (.var 5) (.var 6))], 25⟩, ⟨[(.sl 7 (.lit 0) (.var 8) (.var 9)), (.int .i64 (.var 10))], 28⟩]
 (.ite (.var 33)
 (.chk (.pick (.cmp .geq (.var 34) (.lit 0)) (.pick (.cmp .lss (.var 34) (.var 8)) (.some 7) (.lit false)) (.lit false))
 (.load 7 (.off (.var 34) 1 (.lit 0)) [(.int .i64)] [⟨[(.val 3), (.sl 4 (.lit 0) (.var 5) (.var 6))], 25⟩, ⟨[(.sl 7 (.lit 0) (.var 8) (.var 9)), (.int .i64 (.var 10))], 28⟩]
 (.again 1 2 [.bool] [(.bool (.cmp .gtr (.var 35) (.lit 0)))] [⟨[(.val 3), (.sl 4 (.lit 0) (.var 5) (.var 6))], 25⟩, ⟨[(.sl 7 (.lit 0) (.var 8) (.var 9)), (.int .i64 (.var 10))], 28⟩])))
 (.again 1 2 [.bool] [(.bool (.lit false))] [⟨[(.val 3), (.sl 4 (.lit 0) (.var 5) (.var 6))], 25⟩, ⟨[(.sl 7 (.lit 0) (.var 8) (.var 9)), (.int .i64 (.var 10))], 28⟩]))
 (.again 0 2 [.bool, (.int .i64)] [(.bool (.var 35)), (.int .i64 (.bin .add .i64 (.var 34) (.lit 1)))] [⟨[(.val 3), (.sl 4 (.lit 0) (.var 5) (.var 6))], 25⟩, ⟨[(.sl 7 (.lit 0) (.var 8) (.var 9)), (.int .i64 (.var 10))], 28⟩]))
 (.loop 0 [.bool, .sl, .bool, (.int .i64)] [(.bool (.var 33)), (.cst (.slice none 0 0)), (.bool (.lit false)), (.int .i64 (.lit 0))] [⟨[(.val 3), (.sl 4 (.lit 0) (.var 5) (.var 6))], 25⟩, ⟨[(.sl 7 (.lit 0) (.var 8) (.var 9)), (.int .i64 (.var 10))], 28⟩] [⟨[(.val 3), (.sl 4 (.lit 0) (.var 5) (.var 6))], 25⟩, ⟨[(.sl 7 (.lit 0) (.var 8) (.var 9)), (.int .i64 (.var 10))], 28⟩]
 (.chk (.cmp .geq (.var 5) (.lit 0))
 (.ite (.cmp .lss (.var 40) (.var 5))
 (.join 1 [.bool, .sl, .bool] [⟨[(.val 3), (.sl 4 (.lit 0) (.var 5) (.var 6))], 25⟩, ⟨[(.sl 7 (.lit 0) (.var 8) (.var 9)), (.int .i64 (.var 10))], 28⟩]
 (.chk (.pick (.cmp .geq (.var 40) (.lit 0)) (.pick (.cmp .lss (.var 40) (.var 5)) (.some 4) (.lit false)) (.lit false))
 (.chk (.pick (.cmp .geq (.off (.var 40) 2 (.lit 0)) (.lit 0)) (.some 4) (.lit false))
 (.load 4 (.off (.var 40) 2 (.lit 0)) [.bool] [⟨[(.val 3), (.sl 4 (.lit 0) (.var 5) (.var 6))], 25⟩, ⟨[(.sl 7 (.lit 0) (.var 8) (.var 9)), (.int .i64 (.var 10))], 28⟩]
 (.ite (.not (.var 41))
 (.again 1 2 [.bool, .sl, .bool] [(.bool (.var 35)), (.sl 36 (.lit 0) (.var 37) (.var 38)), (.bool (.var 39))] [⟨[(.val 3), (.sl 4 (.lit 0) (.var 5) (.var 6))], 25⟩, ⟨[(.sl 7 (.lit 0) (.var 8) (.var 9)), (.int .i64 (.var 10))], 28⟩])
 (.ite (.var 35)
 (.ite (.not (.var 39))
 (.chk (.pick (.cmp .geq (.var 40) (.lit 0)) (.pick (.cmp .lss (.var 40) (.var 5)) (.some 4) (.lit false)) (.lit false))
 (.chk (.pick (.cmp .geq (.off (.var 40) 2 (.lit 0)) (.lit 0)) (.some 4) (.lit false))
 (.load 4 (.off (.lit 1) 1 (.off (.var 40) 2 (.lit 0))) [.sl] [⟨[(.val 3), (.sl 4 (.lit 0) (.var 5) (.var 6))], 25⟩, ⟨[(.sl 7 (.lit 0) (.var 8) (.var 9)), (.int .i64 (.var 10))], 28⟩]
 (.again 1 2 [.bool, .sl, .bool] [(.bool (.lit true)), (.sl 42 (.lit 0) (.var 43) (.var 44)), (.bool (.lit true))] [⟨[(.val 3), (.sl 4 (.lit 0) (.var 5) (.var 6))], 25⟩, ⟨[(.sl 7 (.lit 0) (.var 8) (.var 9)), (.int .i64 (.var 10))], 28⟩]))))
 (.chk (.pick (.cmp .geq (.var 40) (.lit 0)) (.pick (.cmp .lss (.var 40) (.var 5)) (.some 4) (.lit false)) (.lit false))
 (.chk (.pick (.cmp .geq (.off (.var 40) 2 (.lit 0)) (.lit 0)) (.some 4) (.lit false))
 (.load 4 (.off (.lit 1) 1 (.off (.var 40) 2 (.lit 0))) [.sl] [⟨[(.val 3), (.sl 4 (.lit 0) (.var 5) (.var 6))], 25⟩, ⟨[(.sl 7 (.lit 0) (.var 8) (.var 9)), (.int .i64 (.var 10))], 28⟩]
 (.call false 9 [(.sl 36 (.lit 0) (.var 37) (.var 38)), (.sl 42 (.lit 0) (.var 43) (.var 44))] .bool [⟨[(.val 3), (.sl 4 (.lit 0) (.var 5) (.var 6))], 25⟩, ⟨[(.sl 7 (.lit 0) (.var 8) (.var 9)), (.int .i64 (.var 10))], 28⟩]
 (.chk (.pick (.cmp .geq (.var 40) (.lit 0)) (.pick (.cmp .lss (.var 40) (.var 5)) (.some 4) (.lit false)) (.lit false))
 (.chk (.pick (.cmp .geq (.off (.var 40) 2 (.lit 0)) (.lit 0)) (.some 4) (.lit false))
 (.load 4 (.off (.lit 1) 1 (.off (.var 40) 2 (.lit 0))) [.sl] [⟨[(.val 3), (.sl 4 (.lit 0) (.var 5) (.var 6))], 25⟩, ⟨[(.sl 7 (.lit 0) (.var 8) (.var 9)), (.int .i64 (.var 10))], 28⟩]
 (.again 1 2 [.bool, .sl, .bool] [(.bool (.var 45)), (.sl 46 (.lit 0) (.var 47) (.var 48)), (.bool (.lit true))] [⟨[(.val 3), (.sl 4 (.lit 0) (.var 5) (.var 6))], 25⟩, ⟨[(.sl 7 (.lit 0) (.var 8) (.var 9)), (.int .i64 (.var 10))], 28⟩])))))))))
 (.chk (.pick (.cmp .geq (.var 40) (.lit 0)) (.pick (.cmp .lss (.var 40) (.var 5)) (.some 4) (.lit false)) (.lit false))
 (.chk (.pick (.cmp .geq (.off (.var 40) 2 (.lit 0)) (.lit 0)) (.some 4) (.lit false))
 (.load 4 (.off (.lit 1) 1 (.off (.var 40) 2 (.lit 0))) [.sl] [⟨[(.val 3), (.sl 4 (.lit 0) (.var 5) (.var 6))], 25⟩, ⟨[(.sl 7 (.lit 0) (.var 8) (.var 9)), (.int .i64 (.var 10))], 28⟩]
 (.again 1 2 [.bool, .sl, .bool] [(.bool (.lit false)), (.sl 42 (.lit 0) (.var 43) (.var 44)), (.bool (.lit true))] [⟨[(.val 3), (.sl 4 (.lit 0) (.var 5) (.var 6))], 25⟩, ⟨[(.sl 7 (.lit 0) (.var 8) (.var 9)), (.int .i64 (.var 10))], 28⟩])))))))))
 (.again 0 2 [.bool, .sl, .bool, (.int .i64)] [(.bool (.var 41)), (.sl 42 (.lit 0) (.var 43) (.var 44)), (.bool (.var 45)), (.int .i64 (.bin .add .i64 (.var 40) (.lit 1)))] [⟨[(.val 3), (.sl 4 (.lit 0) (.var 5) (.var 6))], 25⟩, ⟨[(.sl 7 (.lit 0) (.var 8) (.var 9)), (.int .i64 (.var 10))], 28⟩]))
 (.join 0 [.bool] [⟨[(.val 3), (.sl 4 (.lit 0) (.var 5) (.var 6))], 25⟩, ⟨[(.sl 7 (.lit 0) (.var 8) (.var 9)), (.int .i64 (.var 10))], 28⟩]
 (.ite (.not (.pick (.not (.var 35)) (.lit true) (.not (.var 39))))
 (.ite (.cmp .eql (.var 27) (.lit 0))
 (.call false 9 [(.sl 24 (.lit 0) (.var 25) (.var 26)), (.sl 36 (.lit 0) (.var 37) (.var 38))] .bool [⟨[(.val 3), (.sl 4 (.lit 0) (.var 5) (.var 6))], 25⟩, ⟨[(.sl 7 (.lit 0) (.var 8) (.var 9)), (.int .i64 (.var 10))], 28⟩]
 (.ite (.var 41)
 (.call false 5 [] .bool [⟨[(.val 3), (.sl 4 (.lit 0) (.var 5) (.var 6))], 25⟩, ⟨[(.sl 7 (.lit 0) (.var 8) (.var 9)), (.int .i64 (.var 10))], 28⟩]
 (.again 0 2 [.bool] [(.bool (.var 42))] [⟨[(.val 3), (.sl 4 (.lit 0) (.var 5) (.var 6))], 25⟩, ⟨[(.sl 7 (.lit 0) (.var 8) (.var 9)), (.int .i64 (.var 10))], 28⟩]))
 (.again 0 2 [.bool] [(.bool (.lit false))] [⟨[(.val 3), (.sl 4 (.lit 0) (.var 5) (.var 6))], 25⟩, ⟨[(.sl 7 (.lit 0) (.var 8) (.var 9)), (.int .i64 (.var 10))], 28⟩])))
 (.again 0 2 [.bool] [(.bool (.lit false))] [⟨[(.val 3), (.sl 4 (.lit 0) (.var 5) (.var 6))], 25⟩, ⟨[(.sl 7 (.lit 0) (.var 8) (.var 9)), (.int .i64 (.var 10))], 28⟩]))
 (.call false 5 [] .bool [⟨[(.val 3), (.sl 4 (.lit 0) (.var 5) (.var 6))], 25⟩, ⟨[(.sl 7 (.lit 0) (.var 8) (.var 9)), (.int .i64 (.var 10))], 28⟩]
 (.again 0 2 [.bool] [(.bool (.var 41))] [⟨[(.val 3), (.sl 4 (.lit 0) (.var 5) (.var 6))], 25⟩, ⟨[(.sl 7 (.lit 0) (.var 8) (.var 9)), (.int .i64 (.var 10))], 28⟩])))
 (.ret (.bool (.var 41)) [⟨[(.val 3), (.sl 4 (.lit 0) (.var 5) (.var 6))], 25⟩, ⟨[(.sl 7 (.lit 0) (.var 8) (.var 9)), (.int .i64 (.var 10))], 28⟩]))))))))))))))))))))))))))
theorem S_top_TopReconstructs : FnIs Tryd.prog n_top_TopReconstructs [.sl, (.agg [.val, .sl]), (.agg [.sl, (.int .i64)])] T_top_TopReconstructs := ⟨Tryd.f3, [{ key := 200002, tmps := [(52, .bool)], join := true, dead := 16687398718116903274763407931209187417523120928613783845141377127974336683881176779428980588552 }, { key := 200019, tmps := [(15, .bool)], join := true }, { key := 21, tmps := [], join := true }, { key := 200023, tmps := [(135, .bool)], join := true }, { key := 100007, tmps := [], join := true }, { key := 200043, tmps := [(196, .bool)], join := true }, { key := 46, tmps := [], join := true }, { key := 200053, tmps := [(28, .bool)], join := true }, { key := 200057, tmps := [(28, .bool)], join := true }, { key := 100017, tmps := [], join := true }, { key := 200067, tmps := [], join := true }], 4000, Tryd.func3, by kernel_rfl⟩
abbrev n_top_works24 : FuncId := 5
def T_top_works24 : Tree :=
 (.alloc
 (.alloc
 (.alloc
 (.alloc
 (.alloc
 (.call false 7 [(.slc 0 0 3 3), (.slc 3 0 1 1), (.slc 4 0 1 1), (.agg [(.cst (.slice none 0 0)), (.int .i64 (.lit 1))])] (.tup [.sl, (.int .i64), (.int .i64)]) [⟨[(.int .i64 (.lit (-1))), (.cst (.string ⟨#[114]⟩)), (.int .i64 (.lit 0)), (.cst (.string ⟨#[120]⟩)), (.int .i64 (.lit 0)), (.cst (.string ⟨#[121]⟩))], 55⟩, ⟨[(.int .u32 (.lit 1)), (.int .u32 (.lit 0))], 41⟩, ⟨[(.int .i64 (.lit 2)), (.int .u32 (.lit 1)), (.int .u32 (.lit 0)), (.int .i64 (.lit 2)), (.int .u32 (.lit 1)), (.int .u32 (.lit 0))], 43⟩, ⟨[(.slc 2 0 2 2)], 38⟩, ⟨[(.int .u32 (.lit 1)), (.int .u32 (.lit 0))], 41⟩]
 (.ite (.pick (.cmp .eql (.var 4) (.lit 0)) (.cmp .eql (.var 3) (.lit 0)) (.lit false))
 (.chk (.cmp .geq (.var 1) (.lit 0))
 (.ite (.cmp .eql (.var 1) (.lit 1))
 (.chk (.pick (.cmp .lss (.lit 0) (.var 1)) (.some 0) (.lit false))
 (.load 0 (.lit 0) [(.int .u32), (.int .u32)] [⟨[(.int .i64 (.lit (-1))), (.cst (.string ⟨#[114]⟩)), (.int .i64 (.lit 0)), (.cst (.string ⟨#[120]⟩)), (.int .i64 (.lit 0)), (.cst (.string ⟨#[121]⟩))], 55⟩, ⟨[(.int .u32 (.lit 1)), (.int .u32 (.lit 0))], 41⟩, ⟨[(.int .i64 (.lit 2)), (.int .u32 (.lit 1)), (.int .u32 (.lit 0)), (.int .i64 (.lit 2)), (.int .u32 (.lit 1)), (.int .u32 (.lit 0))], 43⟩, ⟨[(.slc 2 0 2 2)], 38⟩, ⟨[(.int .u32 (.lit 1)), (.int .u32 (.lit 0))], 41⟩]
 (.ret (.bool (.pick (.cmp .eql (.var 5) (.lit 1)) (.cmp .eql (.var 6) (.lit 0)) (.lit false))) [⟨[(.int .i64 (.lit (-1))), (.cst (.string ⟨#[114]⟩)), (.int .i64 (.lit 0)), (.cst (.string ⟨#[120]⟩)), (.int .i64 (.lit 0)), (.cst (.string ⟨#[121]⟩))], 55⟩, ⟨[(.int .u32 (.lit 1)), (.int .u32 (.lit 0))], 41⟩, ⟨[(.int .i64 (.lit 2)), (.int .u32 (.lit 1)), (.int .u32 (.lit 0)), (.int .i64 (.lit 2)), (.int .u32 (.lit 1)), (.int .u32 (.lit 0))], 43⟩, ⟨[(.slc 2 0 2 2)], 38⟩, ⟨[(.int .u32 (.lit 1)), (.int .u32 (.lit 0))], 41⟩])))
 (.ret (.bool (.lit false)) [⟨[(.int .i64 (.lit (-1))), (.cst (.string ⟨#[114]⟩)), (.int .i64 (.lit 0)), (.cst (.string ⟨#[120]⟩)), (.int .i64 (.lit 0)), (.cst (.string ⟨#[121]⟩))], 55⟩, ⟨[(.int .u32 (.lit 1)), (.int .u32 (.lit 0))], 41⟩, ⟨[(.int .i64 (.lit 2)), (.int .u32 (.lit 1)), (.int .u32 (.lit 0)), (.int .i64 (.lit 2)), (.int .u32 (.lit 1)), (.int .u32 (.lit 0))], 43⟩, ⟨[(.slc 2 0 2 2)], 38⟩, ⟨[(.int .u32 (.lit 1)), (.int .u32 (.lit 0))], 41⟩])))
 (.ret (.bool (.lit false)) [⟨[(.int .i64 (.lit (-1))), (.cst (.string ⟨#[114]⟩)), (.int .i64 (.lit 0)), (.cst (.string ⟨#[120]⟩)), (.int .i64 (.lit 0)), (.cst (.string ⟨#[121]⟩))], 55⟩, ⟨[(.int .u32 (.lit 1)), (.int .u32 (.lit 0))], 41⟩, ⟨[(.int .i64 (.lit 2)), (.int .u32 (.lit 1)), (.int .u32 (.lit 0)), (.int .i64 (.lit 2)), (.int .u32 (.lit 1)), (.int .u32 (.lit 0))], 43⟩, ⟨[(.slc 2 0 2 2)], 38⟩, ⟨[(.int .u32 (.lit 1)), (.int .u32 (.lit 0))], 41⟩]))))))))
theorem S_top_works24 : FnIs Tryd.prog n_top_works24 [] T_top_works24 := ⟨Tryd.f5, [], 4000, Tryd.func5, by kernel_rfl⟩
abbrev n_top_aligned : FuncId := 6
def T_top_aligned : Tree :=
 (.alloc
 (.alloc
 (.join 0 [.bool] [⟨[(.val 0), (.sl 1 (.lit 0) (.var 2) (.var 3))], 25⟩, ⟨[(.sl 4 (.lit 0) (.var 5) (.var 6)), (.int .i64 (.var 7))], 28⟩]
 (.chk (.cmp .geq (.var 2) (.lit 0))
 (.ite (.cmp .gtr (.var 2) (.lit 5))
 (.again 0 2 [.bool] [(.bool (.lit true))] [⟨[(.val 0), (.sl 1 (.lit 0) (.var 2) (.var 3))], 25⟩, ⟨[(.sl 4 (.lit 0) (.var 5) (.var 6)), (.int .i64 (.var 7))], 28⟩])
 (.call false 12 [(.agg [(.sl 4 (.lit 0) (.var 5) (.var 6)), (.int .i64 (.var 7))])] (.int .i64) [⟨[(.val 0), (.sl 1 (.lit 0) (.var 2) (.var 3))], 25⟩, ⟨[(.sl 4 (.lit 0) (.var 5) (.var 6)), (.int .i64 (.var 7))], 28⟩]
 (.again 0 2 [.bool] [(.bool (.cmp .neq (.var 8) (.lit 0)))] [⟨[(.val 0), (.sl 1 (.lit 0) (.var 2) (.var 3))], 25⟩, ⟨[(.sl 4 (.lit 0) (.var 5) (.var 6)), (.int .i64 (.var 7))], 28⟩]))))
 (.ite (.var 8)
 (.ret (.tup [(.cst (.slice none 0 0)), (.bool (.lit false))]) [⟨[(.val 0), (.sl 1 (.lit 0) (.var 2) (.var 3))], 25⟩, ⟨[(.sl 4 (.lit 0) (.var 5) (.var 6)), (.int .i64 (.var 7))], 28⟩])
 (.loop 0 [.sl, .bool, .sl, (.int .i64)] [(.cst (.slice none 0 0)), (.bool (.lit false)), (.cst (.slice none 0 0)), (.int .i64 (.lit 0))] [⟨[(.val 0), (.sl 1 (.lit 0) (.var 2) (.var 3))], 25⟩, ⟨[(.sl 4 (.lit 0) (.var 5) (.var 6)), (.int .i64 (.var 7))], 28⟩] [⟨[(.val 0), (.sl 1 (.lit 0) (.var 2) (.var 3))], 25⟩, ⟨[(.sl 4 (.lit 0) (.var 5) (.var 6)), (.int .i64 (.var 7))], 28⟩]
 (.chk (.cmp .geq (.var 2) (.lit 0))
 (.ite (.cmp .lss (.var 16) (.var 2))
 (.chk (.pick (.cmp .geq (.var 16) (.lit 0)) (.pick (.cmp .lss (.var 16) (.var 2)) (.some 1) (.lit false)) (.lit false))
 (.load 1 (.off (.var 16) 2 (.lit 0)) [.bool, .sl] [⟨[(.val 0), (.sl 1 (.lit 0) (.var 2) (.var 3))], 25⟩, ⟨[(.sl 4 (.lit 0) (.var 5) (.var 6)), (.int .i64 (.var 7))], 28⟩]
 (.alloc
 (.join 1 [.bool] [⟨[(.val 0), (.sl 1 (.lit 0) (.var 2) (.var 3))], 25⟩, ⟨[(.sl 4 (.lit 0) (.var 5) (.var 6)), (.int .i64 (.var 7))], 28⟩, ⟨[(.bool (.var 17)), (.sl 18 (.lit 0) (.var 19) (.var 20))], 47⟩]
 (.chk (.cmp .geq (.var 19) (.lit 0))
 (.ite (.cmp .gtr (.var 19) (.lit 8))
 (.again 1 3 [.bool] [(.bool (.lit true))] [⟨[(.val 0), (.sl 1 (.lit 0) (.var 2) (.var 3))], 25⟩, ⟨[(.sl 4 (.lit 0) (.var 5) (.var 6)), (.int .i64 (.var 7))], 28⟩, ⟨[(.bool (.var 17)), (.sl 18 (.lit 0) (.var 19) (.var 20))], 47⟩])
 (.call false 13 [(.sl 18 (.lit 0) (.var 19) (.var 20))] (.int .i64) [⟨[(.val 0), (.sl 1 (.lit 0) (.var 2) (.var 3))], 25⟩, ⟨[(.sl 4 (.lit 0) (.var 5) (.var 6)), (.int .i64 (.var 7))], 28⟩, ⟨[(.bool (.var 17)), (.sl 18 (.lit 0) (.var 19) (.var 20))], 47⟩]
 (.ite (.not (.cmp .neq (.var 21) (.lit 0)))
 (.ite (.not (.var 17))
 (.chk (.cmp .geq (.var 19) (.lit 0))
 (.again 1 3 [.bool] [(.bool (.cmp .gtr (.var 19) (.lit 0)))] [⟨[(.val 0), (.sl 1 (.lit 0) (.var 2) (.var 3))], 25⟩, ⟨[(.sl 4 (.lit 0) (.var 5) (.var 6)), (.int .i64 (.var 7))], 28⟩, ⟨[(.bool (.var 17)), (.sl 18 (.lit 0) (.var 19) (.var 20))], 47⟩]))
 (.again 1 3 [.bool] [(.bool (.lit false))] [⟨[(.val 0), (.sl 1 (.lit 0) (.var 2) (.var 3))], 25⟩, ⟨[(.sl 4 (.lit 0) (.var 5) (.var 6)), (.int .i64 (.var 7))], 28⟩, ⟨[(.bool (.var 17)), (.sl 18 (.lit 0) (.var 19) (.var 20))], 47⟩]))
 (.again 1 3 [.bool] [(.bool (.lit true))] [⟨[(.val 0), (.sl 1 (.lit 0) (.var 2) (.var 3))], 25⟩, ⟨[(.sl 4 (.lit 0) (.var 5) (.var 6)), (.int .i64 (.var 7))], 28⟩, ⟨[(.bool (.var 17)), (.sl 18 (.lit 0) (.var 19) (.var 20))], 47⟩])))))
 (.ite (.var 21)
 (.ret (.tup [(.cst (.slice none 0 0)), (.bool (.lit false))]) [⟨[(.val 0), (.sl 1 (.lit 0) (.var 2) (.var 3))], 25⟩, ⟨[(.sl 4 (.lit 0) (.var 5) (.var 6)), (.int .i64 (.var 7))], 28⟩, ⟨[(.bool (.var 17)), (.sl 18 (.lit 0) (.var 19) (.var 20))], 47⟩])
 (.join 1 [.sl] [⟨[(.val 0), (.sl 1 (.lit 0) (.var 2) (.var 3))], 25⟩, ⟨[(.sl 4 (.lit 0) (.var 5) (.var 6)), (.int .i64 (.var 7))], 28⟩, ⟨[(.bool (.var 17)), (.sl 18 (.lit 0) (.var 19) (.var 20))], 47⟩]
 (.ite (.var 17)
 (.alloc
 (.ext false ⟨(.call ⟨.builtin .append, #[(.tmp 0), (.tmp 0)], #[57, 57]⟩), 57, [(.sl 13 (.lit 0) (.var 14) (.var 15)), (.slc 3 0 1 1)]⟩ .sl [⟨[(.val 0), (.sl 1 (.lit 0) (.var 2) (.var 3))], 25⟩, ⟨[(.sl 4 (.lit 0) (.var 5) (.var 6)), (.int .i64 (.var 7))], 28⟩, ⟨[(.bool (.var 17)), (.sl 18 (.lit 0) (.var 19) (.var 20))], 47⟩, ⟨[(.sl 18 (.lit 0) (.var 19) (.var 20))], 37⟩]
 (.again 1 3 [.sl] [(.sl 22 (.lit 0) (.var 23) (.var 24))] [⟨[(.val 0), (.sl 1 (.lit 0) (.var 2) (.var 3))], 25⟩, ⟨[(.sl 4 (.lit 0) (.var 5) (.var 6)), (.int .i64 (.var 7))], 28⟩, ⟨[(.bool (.var 17)), (.sl 18 (.lit 0) (.var 19) (.var 20))], 47⟩, ⟨[(.sl 18 (.lit 0) (.var 19) (.var 20))], 37⟩])))
 (.again 1 3 [.sl] [(.sl 13 (.lit 0) (.var 14) (.var 15))] [⟨[(.val 0), (.sl 1 (.lit 0) (.var 2) (.var 3))], 25⟩, ⟨[(.sl 4 (.lit 0) (.var 5) (.var 6)), (.int .i64 (.var 7))], 28⟩, ⟨[(.bool (.var 17)), (.sl 18 (.lit 0) (.var 19) (.var 20))], 47⟩]))
 (.again 0 2 [.sl, .bool, .sl, (.int .i64)] [(.sl 9 (.lit 0) (.var 10) (.var 11)), (.bool (.var 12)), (.sl 22 (.lit 0) (.var 23) (.var 24)), (.int .i64 (.bin .add .i64 (.var 16) (.lit 1)))] [⟨[(.val 0), (.sl 1 (.lit 0) (.var 2) (.var 3))], 25⟩, ⟨[(.sl 4 (.lit 0) (.var 5) (.var 6)), (.int .i64 (.var 7))], 28⟩, ⟨[(.bool (.var 17)), (.sl 18 (.lit 0) (.var 19) (.var 20))], 47⟩])))))))
 (.call false 14 [(.sl 13 (.lit 0) (.var 14) (.var 15)), (.agg [(.sl 4 (.lit 0) (.var 5) (.var 6)), (.int .i64 (.var 7))])] (.tup [.sl, (.int .i64)]) [⟨[(.val 0), (.sl 1 (.lit 0) (.var 2) (.var 3))], 25⟩, ⟨[(.sl 4 (.lit 0) (.var 5) (.var 6)), (.int .i64 (.var 7))], 28⟩]
 (.call false 15 [(.agg [(.val 0), (.sl 1 (.lit 0) (.var 2) (.var 3))]), (.sl 17 (.lit 0) (.var 18) (.var 19))] (.tup [.sl, (.int .i64)]) [⟨[(.val 0), (.sl 1 (.lit 0) (.var 2) (.var 3))], 25⟩, ⟨[(.sl 4 (.lit 0) (.var 5) (.var 6)), (.int .i64 (.var 7))], 28⟩]
 (.join 0 [.sl, .bool] [⟨[(.val 0), (.sl 1 (.lit 0) (.var 2) (.var 3))], 25⟩, ⟨[(.sl 4 (.lit 0) (.var 5) (.var 6)), (.int .i64 (.var 7))], 28⟩]
 (.ite (.pick (.cmp .eql (.var 20) (.lit 0)) (.cmp .eql (.var 24) (.lit 0)) (.lit false))
 (.chk (.cmp .geq (.var 22) (.lit 0))
 (.chk (.cmp .geq (.var 18) (.lit 0))
 (.again 0 2 [.sl, .bool] [(.sl 21 (.lit 0) (.var 22) (.var 23)), (.bool (.cmp .eql (.var 22) (.var 18)))] [⟨[(.val 0), (.sl 1 (.lit 0) (.var 2) (.var 3))], 25⟩, ⟨[(.sl 4 (.lit 0) (.var 5) (.var 6)), (.int .i64 (.var 7))], 28⟩])))
 (.again 0 2 [.sl, .bool] [(.sl 21 (.lit 0) (.var 22) (.var 23)), (.bool (.lit false))] [⟨[(.val 0), (.sl 1 (.lit 0) (.var 2) (.var 3))], 25⟩, ⟨[(.sl 4 (.lit 0) (.var 5) (.var 6)), (.int .i64 (.var 7))], 28⟩]))
 (.ret (.tup [(.sl 25 (.lit 0) (.var 26) (.var 27)), (.bool (.var 28))]) [⟨[(.val 0), (.sl 1 (.lit 0) (.var 2) (.var 3))], 25⟩, ⟨[(.sl 4 (.lit 0) (.var 5) (.var 6)), (.int .i64 (.var 7))], 28⟩])))))))))))
theorem S_top_aligned : FnIs Tryd.prog n_top_aligned [(.agg [.val, .sl]), (.agg [.sl, (.int .i64)])] T_top_aligned := ⟨Tryd.f6, [{ key := 200001, tmps := [(21, .bool)], join := true, dead := 309485009731273076108156928 }, { key := 200008, tmps := [(54, .bool)], join := true }, { key := 11, tmps := [], join := true }, { key := 200014, tmps := [], join := true }], 4000, Tryd.func6, by kernel_rfl⟩
end Go.Proofs.YtkhcfbdjmpodbaaDoor
