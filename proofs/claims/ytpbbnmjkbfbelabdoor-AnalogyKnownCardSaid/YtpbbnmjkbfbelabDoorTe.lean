/- The trees of this seat's functions, printed by a program of mine (SyGen), checked here by the kernel. -/
import Derived.Test.YtpbbnmjkbfbelabDoorSyDef
import Derived.Test.YtpbbnmjkbfbelabDoorProg
import Derived.KernelRfl
set_option maxRecDepth 100000
namespace Go.Proofs.YtpbbnmjkbfbelabDoor
open Go Go.Sy
abbrev n_analogy_Cost : FuncId := 7
def T_analogy_Cost : Tree :=
 (.alloc
 (.alloc
 (.alloc
 (.call false 23 [(.agg [(.sl 12 (.lit 0) (.var 13) (.var 14)), (.int .i64 (.var 15))])] (.int .i64) [⟨[(.sl 3 (.lit 0) (.var 4) (.var 5))], 23⟩, ⟨[(.sl 9 (.lit 0) (.var 10) (.var 11))], 23⟩, ⟨[(.sl 12 (.lit 0) (.var 13) (.var 14)), (.int .i64 (.var 15))], 31⟩]
 (.ite (.cmp .neq (.var 16) (.lit 0))
 (.ret (.tup [(.int .i64 (.lit 0)), (.int .i64 (.var 16))]) [⟨[(.sl 3 (.lit 0) (.var 4) (.var 5))], 23⟩, ⟨[(.sl 9 (.lit 0) (.var 10) (.var 11))], 23⟩, ⟨[(.sl 12 (.lit 0) (.var 13) (.var 14)), (.int .i64 (.var 15))], 31⟩])
 (.alloc
 (.call false 24 [(.sl 0 (.lit 0) (.var 1) (.var 2)), (.slc 3 0 3 3)] (.int .i64) [⟨[(.sl 3 (.lit 0) (.var 4) (.var 5))], 23⟩, ⟨[(.sl 9 (.lit 0) (.var 10) (.var 11))], 23⟩, ⟨[(.sl 12 (.lit 0) (.var 13) (.var 14)), (.int .i64 (.var 15))], 31⟩, ⟨[(.sl 3 (.lit 0) (.var 4) (.var 5)), (.sl 6 (.lit 0) (.var 7) (.var 8)), (.sl 9 (.lit 0) (.var 10) (.var 11))], 23⟩]
 (.ite (.cmp .neq (.var 17) (.lit 0))
 (.ret (.tup [(.int .i64 (.lit 0)), (.int .i64 (.var 17))]) [⟨[(.sl 3 (.lit 0) (.var 4) (.var 5))], 23⟩, ⟨[(.sl 9 (.lit 0) (.var 10) (.var 11))], 23⟩, ⟨[(.sl 12 (.lit 0) (.var 13) (.var 14)), (.int .i64 (.var 15))], 31⟩, ⟨[(.sl 3 (.lit 0) (.var 4) (.var 5)), (.sl 6 (.lit 0) (.var 7) (.var 8)), (.sl 9 (.lit 0) (.var 10) (.var 11))], 23⟩])
 (.call false 11 [(.sl 6 (.lit 0) (.var 7) (.var 8)), (.sl 9 (.lit 0) (.var 10) (.var 11))] .bool [⟨[(.sl 3 (.lit 0) (.var 4) (.var 5))], 23⟩, ⟨[(.sl 9 (.lit 0) (.var 10) (.var 11))], 23⟩, ⟨[(.sl 12 (.lit 0) (.var 13) (.var 14)), (.int .i64 (.var 15))], 31⟩, ⟨[(.sl 3 (.lit 0) (.var 4) (.var 5)), (.sl 6 (.lit 0) (.var 7) (.var 8)), (.sl 9 (.lit 0) (.var 10) (.var 11))], 23⟩]
 (.ite (.var 18)
 (.ret (.tup [(.int .i64 (.lit 0)), (.int .i64 (.lit 0))]) [⟨[(.sl 3 (.lit 0) (.var 4) (.var 5))], 23⟩, ⟨[(.sl 9 (.lit 0) (.var 10) (.var 11))], 23⟩, ⟨[(.sl 12 (.lit 0) (.var 13) (.var 14)), (.int .i64 (.var 15))], 31⟩, ⟨[(.sl 3 (.lit 0) (.var 4) (.var 5)), (.sl 6 (.lit 0) (.var 7) (.var 8)), (.sl 9 (.lit 0) (.var 10) (.var 11))], 23⟩])
 (.alloc
 (.call false 9 [(.slc 4 0 2 2), (.agg [(.sl 12 (.lit 0) (.var 13) (.var 14)), (.int .i64 (.var 15))])] (.tup [.sl, (.int .i64)]) [⟨[(.sl 3 (.lit 0) (.var 4) (.var 5))], 23⟩, ⟨[(.sl 9 (.lit 0) (.var 10) (.var 11))], 23⟩, ⟨[(.sl 12 (.lit 0) (.var 13) (.var 14)), (.int .i64 (.var 15))], 31⟩, ⟨[(.sl 3 (.lit 0) (.var 4) (.var 5)), (.sl 6 (.lit 0) (.var 7) (.var 8)), (.sl 9 (.lit 0) (.var 10) (.var 11))], 23⟩, ⟨[(.sl 6 (.lit 0) (.var 7) (.var 8)), (.sl 9 (.lit 0) (.var 10) (.var 11))], 23⟩]
 (.ite (.cmp .neq (.var 22) (.lit 0))
 (.ret (.tup [(.int .i64 (.lit 0)), (.int .i64 (.var 22))]) [⟨[(.sl 3 (.lit 0) (.var 4) (.var 5))], 23⟩, ⟨[(.sl 9 (.lit 0) (.var 10) (.var 11))], 23⟩, ⟨[(.sl 12 (.lit 0) (.var 13) (.var 14)), (.int .i64 (.var 15))], 31⟩, ⟨[(.sl 3 (.lit 0) (.var 4) (.var 5)), (.sl 6 (.lit 0) (.var 7) (.var 8)), (.sl 9 (.lit 0) (.var 10) (.var 11))], 23⟩, ⟨[(.sl 6 (.lit 0) (.var 7) (.var 8)), (.sl 9 (.lit 0) (.var 10) (.var 11))], 23⟩])
 (.call false 10 [(.slc 4 0 2 2), (.sl 19 (.lit 0) (.var 20) (.var 21)), (.agg [(.sl 12 (.lit 0) (.var 13) (.var 14)), (.int .i64 (.var 15))])] (.tup [(.int .i64), (.int .i64)]) [⟨[(.sl 3 (.lit 0) (.var 4) (.var 5))], 23⟩, ⟨[(.sl 9 (.lit 0) (.var 10) (.var 11))], 23⟩, ⟨[(.sl 12 (.lit 0) (.var 13) (.var 14)), (.int .i64 (.var 15))], 31⟩, ⟨[(.sl 3 (.lit 0) (.var 4) (.var 5)), (.sl 6 (.lit 0) (.var 7) (.var 8)), (.sl 9 (.lit 0) (.var 10) (.var 11))], 23⟩, ⟨[(.sl 6 (.lit 0) (.var 7) (.var 8)), (.sl 9 (.lit 0) (.var 10) (.var 11))], 23⟩]
 (.ite (.cmp .neq (.var 24) (.lit 0))
 (.ret (.tup [(.int .i64 (.lit 0)), (.int .i64 (.var 24))]) [⟨[(.sl 3 (.lit 0) (.var 4) (.var 5))], 23⟩, ⟨[(.sl 9 (.lit 0) (.var 10) (.var 11))], 23⟩, ⟨[(.sl 12 (.lit 0) (.var 13) (.var 14)), (.int .i64 (.var 15))], 31⟩, ⟨[(.sl 3 (.lit 0) (.var 4) (.var 5)), (.sl 6 (.lit 0) (.var 7) (.var 8)), (.sl 9 (.lit 0) (.var 10) (.var 11))], 23⟩, ⟨[(.sl 6 (.lit 0) (.var 7) (.var 8)), (.sl 9 (.lit 0) (.var 10) (.var 11))], 23⟩])
 (.call false 25 [(.sl 0 (.lit 0) (.var 1) (.var 2)), (.fn (.func 26) [] [(.loc 0 0), (.loc 1 0)])] .bool [⟨[(.sl 3 (.lit 0) (.var 4) (.var 5))], 23⟩, ⟨[(.sl 9 (.lit 0) (.var 10) (.var 11))], 23⟩, ⟨[(.sl 12 (.lit 0) (.var 13) (.var 14)), (.int .i64 (.var 15))], 31⟩, ⟨[(.sl 3 (.lit 0) (.var 4) (.var 5)), (.sl 6 (.lit 0) (.var 7) (.var 8)), (.sl 9 (.lit 0) (.var 10) (.var 11))], 23⟩, ⟨[(.sl 6 (.lit 0) (.var 7) (.var 8)), (.sl 9 (.lit 0) (.var 10) (.var 11))], 23⟩]
 (.ite (.var 25)
 (.ret (.tup [(.int .i64 (.mn (.var 23) (.var 15))), (.int .i64 (.lit 0))]) [⟨[(.sl 3 (.lit 0) (.var 4) (.var 5))], 23⟩, ⟨[(.sl 9 (.lit 0) (.var 10) (.var 11))], 23⟩, ⟨[(.sl 12 (.lit 0) (.var 13) (.var 14)), (.int .i64 (.var 15))], 31⟩, ⟨[(.sl 3 (.lit 0) (.var 4) (.var 5)), (.sl 6 (.lit 0) (.var 7) (.var 8)), (.sl 9 (.lit 0) (.var 10) (.var 11))], 23⟩, ⟨[(.sl 6 (.lit 0) (.var 7) (.var 8)), (.sl 9 (.lit 0) (.var 10) (.var 11))], 23⟩])
 (.ret (.tup [(.int .i64 (.var 23)), (.int .i64 (.lit 0))]) [⟨[(.sl 3 (.lit 0) (.var 4) (.var 5))], 23⟩, ⟨[(.sl 9 (.lit 0) (.var 10) (.var 11))], 23⟩, ⟨[(.sl 12 (.lit 0) (.var 13) (.var 14)), (.int .i64 (.var 15))], 31⟩, ⟨[(.sl 3 (.lit 0) (.var 4) (.var 5)), (.sl 6 (.lit 0) (.var 7) (.var 8)), (.sl 9 (.lit 0) (.var 10) (.var 11))], 23⟩, ⟨[(.sl 6 (.lit 0) (.var 7) (.var 8)), (.sl 9 (.lit 0) (.var 10) (.var 11))], 23⟩]))))))))))))))))))
theorem S_analogy_Cost : FnIs Tryd.prog n_analogy_Cost [.sl, .sl, .sl, .sl, (.agg [.sl, (.int .i64)])] T_analogy_Cost := ⟨Tryd.f7, [], 4000, Tryd.func7, by kernel_rfl⟩
abbrev n_analogy_Level : FuncId := 19
def T_analogy_Level : Tree :=
 (.call false 47 [(.sl 0 (.lit 0) (.var 1) (.var 2))] (.int .i64) []
 (.ite (.cmp .neq (.var 5) (.lit 0))
 (.ret (.tup [(.cst (.slice none 0 0)), (.int .i64 (.var 5))]) [])
 (.ite (.cmp .lss (.var 3) (.lit 0))
 (.ret (.tup [(.cst (.slice none 0 0)), (.int .i64 (.lit 3))]) [])
 (.chk (.cmp .geq (.var 1) (.lit 0))
 (.ite (.pick (.cmp .geq (.var 3) (.var 1)) (.lit true) (.cmp .lss (.var 4) (.lit 0)))
 (.ret (.tup [(.cst (.slice none 0 0)), (.int .i64 (.lit 3))]) [])
 (.chk (.pick (.cmp .geq (.var 3) (.lit 0)) (.pick (.cmp .lss (.var 3) (.var 1)) (.some 0) (.lit false)) (.lit false))
 (.load 0 (.off (.var 3) 1 (.lit 0)) [.sl] []
 (.chk (.cmp .geq (.var 7) (.lit 0))
 (.ite (.cmp .geq (.var 4) (.var 7))
 (.ret (.tup [(.cst (.slice none 0 0)), (.int .i64 (.lit 3))]) [])
 (.chk (.pick (.cmp .geq (.var 3) (.lit 0)) (.pick (.cmp .lss (.var 3) (.var 1)) (.some 0) (.lit false)) (.lit false))
 (.load 0 (.off (.var 3) 1 (.lit 0)) [.sl] []
 (.chk (.pick (.cmp .geq (.var 4) (.lit 0)) (.pick (.cmp .lss (.var 4) (.var 10)) (.some 9) (.lit false)) (.lit false))
 (.load 9 (.off (.var 4) 2 (.lit 0)) [.bool, .sl] []
 (.alloc
 (.ite (.not (.var 12))
 (.ret (.tup [(.cst (.slice none 0 0)), (.int .i64 (.lit 5))]) [⟨[(.bool (.var 12)), (.sl 13 (.lit 0) (.var 14) (.var 15))], 62⟩])
 (.call false 48 [(.sl 0 (.lit 0) (.var 1) (.var 2))] .sl [⟨[(.bool (.var 12)), (.sl 13 (.lit 0) (.var 14) (.var 15))], 62⟩]
 (.chk (.cmp .geq (.var 14) (.lit 0))
 (.chk (.pick (.cmp .geq (.var 4) (.lit 0)) (.pick (.cmp .lss (.var 4) (.var 17)) (.some 16) (.lit false)) (.lit false))
 (.load 16 (.off (.var 4) 1 (.lit 0)) [(.int .i64)] [⟨[(.bool (.var 12)), (.sl 13 (.lit 0) (.var 14) (.var 15))], 62⟩]
 (.chk (.pick (.cmp .leq (.lit 0) (.bin .sub .i64 (.var 14) (.var 19))) (.cmp .leq (.bin .sub .i64 (.var 14) (.var 19)) (.var 15)) (.lit false))
 (.chk (.cmp .geq (.var 1) (.lit 0))
 (.loop 0 [.sl, (.int .i64), .sl, (.int .i64)] [(.cst (.slice none 0 0)), (.int .i64 (.lit 0)), (.cst (.slice none 0 0)), (.int .i64 (.lit 0))] [⟨[(.bool (.var 12)), (.sl 13 (.lit 0) (.var 14) (.var 15))], 62⟩] [⟨[(.bool (.var 12)), (.sl 13 (.lit 0) (.var 14) (.var 15))], 62⟩]
 (.ite (.cmp .lss (.var 27) (.var 1))
 (.chk (.pick (.cmp .geq (.var 27) (.lit 0)) (.pick (.cmp .lss (.var 27) (.var 1)) (.some 0) (.lit false)) (.lit false))
 (.load 0 (.off (.var 27) 1 (.lit 0)) [.sl] [⟨[(.bool (.var 12)), (.sl 13 (.lit 0) (.var 14) (.var 15))], 62⟩]
 (.call false 49 [(.sl 28 (.lit 0) (.var 29) (.var 30))] .sl [⟨[(.bool (.var 12)), (.sl 13 (.lit 0) (.var 14) (.var 15))], 62⟩]
 (.chk (.cmp .geq (.var 32) (.lit 0))
 (.loop 1 [.sl, (.int .i64), (.int .i64)] [(.sl 20 (.lit 0) (.var 21) (.var 22)), (.int .i64 (.var 23)), (.int .i64 (.lit 0))] [⟨[(.bool (.var 12)), (.sl 13 (.lit 0) (.var 14) (.var 15))], 62⟩] [⟨[(.bool (.var 12)), (.sl 13 (.lit 0) (.var 14) (.var 15))], 62⟩]
 (.ite (.cmp .lss (.var 38) (.var 32))
 (.chk (.pick (.cmp .geq (.var 38) (.lit 0)) (.pick (.cmp .lss (.var 38) (.var 32)) (.some 31) (.lit false)) (.lit false))
 (.load 31 (.off (.var 38) 2 (.lit 0)) [.bool, .sl] [⟨[(.bool (.var 12)), (.sl 13 (.lit 0) (.var 14) (.var 15))], 62⟩]
 (.alloc
 (.call false 50 [(.sl 40 (.lit 0) (.var 41) (.var 42))] .sl [⟨[(.bool (.var 12)), (.sl 13 (.lit 0) (.var 14) (.var 15))], 62⟩, ⟨[(.bool (.var 39)), (.sl 40 (.lit 0) (.var 41) (.var 42))], 62⟩]
 (.chk (.pick (.cmp .geq (.var 38) (.lit 0)) (.pick (.cmp .lss (.var 38) (.var 32)) (.some 31) (.lit false)) (.lit false))
 (.chk (.pick (.cmp .geq (.off (.var 38) 2 (.lit 0)) (.lit 0)) (.some 31) (.lit false))
 (.store false 31 (.off (.lit 1) 1 (.off (.var 38) 2 (.lit 0))) [(.sl 43 (.lit 0) (.var 44) (.var 45))] [⟨[(.bool (.var 12)), (.sl 13 (.lit 0) (.var 14) (.var 15))], 62⟩, ⟨[(.bool (.var 39)), (.sl 40 (.lit 0) (.var 41) (.var 42))], 62⟩]
 (.ite (.pick (.cmp .neq (.var 27) (.var 3)) (.lit true) (.not (.var 39)))
 (.again 1 1 [.sl, (.int .i64), (.int .i64)] [(.sl 34 (.lit 0) (.var 35) (.var 36)), (.int .i64 (.var 37)), (.int .i64 (.bin .add .i64 (.var 38) (.lit 1)))] [⟨[(.bool (.var 12)), (.sl 13 (.lit 0) (.var 14) (.var 15))], 62⟩, ⟨[(.bool (.var 39)), (.sl 40 (.lit 0) (.var 41) (.var 42))], 62⟩])
 (.chk (.cmp .geq (.var 41) (.lit 0))
 (.chk (.pick (.cmp .geq (.var 38) (.lit 0)) (.pick (.cmp .lss (.var 38) (.var 17)) (.some 16) (.lit false)) (.lit false))
 (.load 16 (.off (.var 38) 1 (.lit 0)) [(.int .i64)] [⟨[(.bool (.var 12)), (.sl 13 (.lit 0) (.var 14) (.var 15))], 62⟩, ⟨[(.bool (.var 39)), (.sl 40 (.lit 0) (.var 41) (.var 42))], 62⟩]
 (.chk (.pick (.cmp .leq (.lit 0) (.bin .sub .i64 (.var 41) (.var 46))) (.pick (.cmp .leq (.bin .sub .i64 (.var 41) (.var 46)) (.var 41)) (.cmp .leq (.var 41) (.var 42)) (.lit false)) (.lit false))
 (.alloc
 (.call false 51 [(.slc 2 0 2 2)] .sl [⟨[(.bool (.var 12)), (.sl 13 (.lit 0) (.var 14) (.var 15))], 62⟩, ⟨[(.bool (.var 39)), (.sl 40 (.lit 0) (.var 41) (.var 42))], 62⟩, ⟨[(.sl 13 (.ifeq (.var 15) (.lit 0) (.lit 0) (.lit 0)) (.bin .sub .i64 (.var 14) (.var 19)) (.var 15)), (.sl 40 (.ifeq (.var 42) (.bin .sub .i64 (.var 41) (.var 46)) (.lit 0) (.off (.bin .sub .i64 (.var 41) (.var 46)) 2 (.lit 0))) (.dif (.var 41) (.bin .sub .i64 (.var 41) (.var 46))) (.dif (.var 42) (.bin .sub .i64 (.var 41) (.var 46))))], 23⟩]
 (.chk (.pick (.cmp .geq (.var 38) (.lit 0)) (.pick (.cmp .lss (.var 38) (.var 32)) (.some 31) (.lit false)) (.lit false))
 (.chk (.pick (.cmp .geq (.off (.var 38) 2 (.lit 0)) (.lit 0)) (.some 31) (.lit false))
 (.store false 31 (.off (.lit 1) 1 (.off (.var 38) 2 (.lit 0))) [(.sl 47 (.lit 0) (.var 48) (.var 49))] [⟨[(.bool (.var 12)), (.sl 13 (.lit 0) (.var 14) (.var 15))], 62⟩, ⟨[(.bool (.var 39)), (.sl 40 (.lit 0) (.var 41) (.var 42))], 62⟩, ⟨[(.sl 13 (.ifeq (.var 15) (.lit 0) (.lit 0) (.lit 0)) (.bin .sub .i64 (.var 14) (.var 19)) (.var 15)), (.sl 40 (.ifeq (.var 42) (.bin .sub .i64 (.var 41) (.var 46)) (.lit 0) (.off (.bin .sub .i64 (.var 41) (.var 46)) 2 (.lit 0))) (.dif (.var 41) (.bin .sub .i64 (.var 41) (.var 46))) (.dif (.var 42) (.bin .sub .i64 (.var 41) (.var 46))))], 23⟩]
 (.chk (.pick (.cmp .geq (.var 38) (.lit 0)) (.pick (.cmp .lss (.var 38) (.var 32)) (.some 31) (.lit false)) (.lit false))
 (.chk (.pick (.cmp .geq (.off (.var 38) 2 (.lit 0)) (.lit 0)) (.some 31) (.lit false))
 (.load 31 (.off (.lit 1) 1 (.off (.var 38) 2 (.lit 0))) [.sl] [⟨[(.bool (.var 12)), (.sl 13 (.lit 0) (.var 14) (.var 15))], 62⟩, ⟨[(.bool (.var 39)), (.sl 40 (.lit 0) (.var 41) (.var 42))], 62⟩, ⟨[(.sl 13 (.ifeq (.var 15) (.lit 0) (.lit 0) (.lit 0)) (.bin .sub .i64 (.var 14) (.var 19)) (.var 15)), (.sl 40 (.ifeq (.var 42) (.bin .sub .i64 (.var 41) (.var 46)) (.lit 0) (.off (.bin .sub .i64 (.var 41) (.var 46)) 2 (.lit 0))) (.dif (.var 41) (.bin .sub .i64 (.var 41) (.var 46))) (.dif (.var 42) (.bin .sub .i64 (.var 41) (.var 46))))], 23⟩]
 (.chk (.cmp .geq (.var 51) (.lit 0))
 (.ite (.cmp .gtr (.var 51) (.lit 32))
 (.ret (.tup [(.cst (.slice none 0 0)), (.int .i64 (.lit 11))]) [⟨[(.bool (.var 12)), (.sl 13 (.lit 0) (.var 14) (.var 15))], 62⟩, ⟨[(.bool (.var 39)), (.sl 40 (.lit 0) (.var 41) (.var 42))], 62⟩, ⟨[(.sl 13 (.ifeq (.var 15) (.lit 0) (.lit 0) (.lit 0)) (.bin .sub .i64 (.var 14) (.var 19)) (.var 15)), (.sl 40 (.ifeq (.var 42) (.bin .sub .i64 (.var 41) (.var 46)) (.lit 0) (.off (.bin .sub .i64 (.var 41) (.var 46)) 2 (.lit 0))) (.dif (.var 41) (.bin .sub .i64 (.var 41) (.var 46))) (.dif (.var 42) (.bin .sub .i64 (.var 41) (.var 46))))], 23⟩])
 (.again 1 1 [.sl, (.int .i64), (.int .i64)] [(.sl 34 (.lit 0) (.var 35) (.var 36)), (.int .i64 (.var 37)), (.int .i64 (.bin .add .i64 (.var 38) (.lit 1)))] [⟨[(.bool (.var 12)), (.sl 13 (.lit 0) (.var 14) (.var 15))], 62⟩, ⟨[(.bool (.var 39)), (.sl 40 (.lit 0) (.var 41) (.var 42))], 62⟩, ⟨[(.sl 13 (.ifeq (.var 15) (.lit 0) (.lit 0) (.lit 0)) (.bin .sub .i64 (.var 14) (.var 19)) (.var 15)), (.sl 40 (.ifeq (.var 42) (.bin .sub .i64 (.var 41) (.var 46)) (.lit 0) (.off (.bin .sub .i64 (.var 41) (.var 46)) 2 (.lit 0))) (.dif (.var 41) (.bin .sub .i64 (.var 41) (.var 46))) (.dif (.var 42) (.bin .sub .i64 (.var 41) (.var 46))))], 23⟩])))))))))))))))))))))))
 (.alloc
 (.ext false ⟨(.call ⟨.builtin .append, #[(.tmp 0), (.tmp 0)], #[58, 58]⟩), 58, [(.sl 24 (.lit 0) (.var 25) (.var 26)), (.slc 1 0 1 1)]⟩ .sl [⟨[(.bool (.var 12)), (.sl 13 (.lit 0) (.var 14) (.var 15))], 62⟩, ⟨[(.sl 31 (.lit 0) (.var 32) (.var 33))], 55⟩]
 (.again 0 1 [.sl, (.int .i64), .sl, (.int .i64)] [(.sl 34 (.lit 0) (.var 35) (.var 36)), (.int .i64 (.var 37)), (.sl 39 (.lit 0) (.var 40) (.var 41)), (.int .i64 (.bin .add .i64 (.var 27) (.lit 1)))] [⟨[(.bool (.var 12)), (.sl 13 (.lit 0) (.var 14) (.var 15))], 62⟩, ⟨[(.sl 31 (.lit 0) (.var 32) (.var 33))], 55⟩])))))))))
 (.ret (.tup [(.sl 24 (.lit 0) (.var 25) (.var 26)), (.int .i64 (.lit 0))]) [⟨[(.bool (.var 12)), (.sl 13 (.lit 0) (.var 14) (.var 15))], 62⟩]))))))))))))))))))))))))
theorem S_analogy_Level : FnIs Tryd.prog n_analogy_Level [.sl, (.int .i64), (.int .i64)] T_analogy_Level := ⟨Tryd.f19, [], 4000, Tryd.func19, by kernel_rfl⟩
abbrev n_ref30_Same : FuncId := 22
def T_ref30_Same : Tree :=
 (.chk (.cmp .geq (.var 1) (.lit 0))
 (.chk (.cmp .geq (.var 4) (.lit 0))
 (.ite (.cmp .neq (.var 1) (.var 4))
 (.ret (.bool (.lit false)) [])
 (.loop 0 [.bool, (.int .i64)] [(.bool (.lit false)), (.int .i64 (.lit 0))] [] []
 (.chk (.cmp .geq (.var 1) (.lit 0))
 (.ite (.cmp .lss (.var 7) (.var 1))
 (.chk (.pick (.cmp .geq (.var 7) (.lit 0)) (.pick (.cmp .lss (.var 7) (.var 1)) (.some 0) (.lit false)) (.lit false))
 (.load 0 (.off (.var 7) 1 (.lit 0)) [.sl] []
 (.chk (.cmp .geq (.var 9) (.lit 0))
 (.chk (.pick (.cmp .geq (.var 7) (.lit 0)) (.pick (.cmp .lss (.var 7) (.var 4)) (.some 3) (.lit false)) (.lit false))
 (.load 3 (.off (.var 7) 1 (.lit 0)) [.sl] []
 (.chk (.cmp .geq (.var 12) (.lit 0))
 (.ite (.cmp .neq (.var 9) (.var 12))
 (.ret (.bool (.lit false)) [])
 (.loop 1 [.bool, (.int .i64)] [(.bool (.var 6)), (.int .i64 (.lit 0))] [] []
 (.chk (.pick (.cmp .geq (.var 7) (.lit 0)) (.pick (.cmp .lss (.var 7) (.var 1)) (.some 0) (.lit false)) (.lit false))
 (.load 0 (.off (.var 7) 1 (.lit 0)) [.sl] []
 (.chk (.cmp .geq (.var 17) (.lit 0))
 (.ite (.cmp .lss (.var 15) (.var 17))
 (.chk (.pick (.cmp .geq (.var 7) (.lit 0)) (.pick (.cmp .lss (.var 7) (.var 1)) (.some 0) (.lit false)) (.lit false))
 (.load 0 (.off (.var 7) 1 (.lit 0)) [.sl] []
 (.chk (.pick (.cmp .geq (.var 15) (.lit 0)) (.pick (.cmp .lss (.var 15) (.var 20)) (.some 19) (.lit false)) (.lit false))
 (.chk (.pick (.cmp .geq (.off (.var 15) 2 (.lit 0)) (.lit 0)) (.some 19) (.lit false))
 (.load 19 (.off (.var 15) 2 (.lit 0)) [.bool] []
 (.chk (.pick (.cmp .geq (.var 7) (.lit 0)) (.pick (.cmp .lss (.var 7) (.var 4)) (.some 3) (.lit false)) (.lit false))
 (.load 3 (.off (.var 7) 1 (.lit 0)) [.sl] []
 (.chk (.pick (.cmp .geq (.var 15) (.lit 0)) (.pick (.cmp .lss (.var 15) (.var 24)) (.some 23) (.lit false)) (.lit false))
 (.chk (.pick (.cmp .geq (.off (.var 15) 2 (.lit 0)) (.lit 0)) (.some 23) (.lit false))
 (.load 23 (.off (.var 15) 2 (.lit 0)) [.bool] []
 (.ite (.not (.beq (.var 22) (.var 26)))
 (.ret (.bool (.lit false)) [])
 (.chk (.pick (.cmp .geq (.var 7) (.lit 0)) (.pick (.cmp .lss (.var 7) (.var 1)) (.some 0) (.lit false)) (.lit false))
 (.load 0 (.off (.var 7) 1 (.lit 0)) [.sl] []
 (.chk (.pick (.cmp .geq (.var 15) (.lit 0)) (.pick (.cmp .lss (.var 15) (.var 28)) (.some 27) (.lit false)) (.lit false))
 (.chk (.pick (.cmp .geq (.off (.var 15) 2 (.lit 0)) (.lit 0)) (.some 27) (.lit false))
 (.load 27 (.off (.lit 1) 1 (.off (.var 15) 2 (.lit 0))) [.sl] []
 (.chk (.pick (.cmp .geq (.var 7) (.lit 0)) (.pick (.cmp .lss (.var 7) (.var 4)) (.some 3) (.lit false)) (.lit false))
 (.load 3 (.off (.var 7) 1 (.lit 0)) [.sl] []
 (.chk (.pick (.cmp .geq (.var 15) (.lit 0)) (.pick (.cmp .lss (.var 15) (.var 34)) (.some 33) (.lit false)) (.lit false))
 (.chk (.pick (.cmp .geq (.off (.var 15) 2 (.lit 0)) (.lit 0)) (.some 33) (.lit false))
 (.load 33 (.off (.lit 1) 1 (.off (.var 15) 2 (.lit 0))) [.sl] []
 (.call false 21 [(.sl 30 (.lit 0) (.var 31) (.var 32)), (.sl 36 (.lit 0) (.var 37) (.var 38))] .bool []
 (.ite (.not (.var 39))
 (.ret (.bool (.lit false)) [])
 (.again 1 0 [.bool, (.int .i64)] [(.bool (.var 14)), (.int .i64 (.bin .add .i64 (.var 15) (.lit 1)))] []))))))))))))))))))))))))
 (.again 0 0 [.bool, (.int .i64)] [(.bool (.var 14)), (.int .i64 (.bin .add .i64 (.var 7) (.lit 1)))] [])))))))))))))
 (.ret (.bool (.lit true)) [])))))))
theorem S_ref30_Same : FnIs Tryd.prog n_ref30_Same [.sl, .sl] T_ref30_Same := ⟨Tryd.f22, [], 4000, Tryd.func22, by kernel_rfl⟩
abbrev n_slices_ContainsFunc___api_Pair_api_Pair_ : FuncId := 25
def T_slices_ContainsFunc___api_Pair_api_Pair_ : Tree :=
 (.call false 28 [(.sl 0 (.lit 0) (.var 1) (.var 2)), (.val 3)] (.int .i64) []
 (.ret (.bool (.cmp .geq (.var 4) (.lit 0))) []))
theorem S_slices_ContainsFunc___api_Pair_api_Pair_ : FnIs Tryd.prog n_slices_ContainsFunc___api_Pair_api_Pair_ [.sl, .val] T_slices_ContainsFunc___api_Pair_api_Pair_ := ⟨Tryd.f25, [], 4000, Tryd.func25, by kernel_rfl⟩
abbrev n_analogy_Cost_1 : FuncId := 26
def T_analogy_Cost_1 : Tree :=
 (.alloc
 (.load 6 (.lit 0) [.sl] [⟨[(.sl 0 (.lit 0) (.var 1) (.var 2)), (.sl 3 (.lit 0) (.var 4) (.var 5))], 28⟩]
 (.load 7 (.lit 0) [.sl] [⟨[(.sl 0 (.lit 0) (.var 1) (.var 2)), (.sl 3 (.lit 0) (.var 4) (.var 5))], 28⟩]
 (.call false 27 [(.agg [(.sl 0 (.lit 0) (.var 1) (.var 2)), (.sl 3 (.lit 0) (.var 4) (.var 5))]), (.sl 8 (.lit 0) (.var 9) (.var 10)), (.sl 11 (.lit 0) (.var 12) (.var 13))] .bool [⟨[(.sl 0 (.lit 0) (.var 1) (.var 2)), (.sl 3 (.lit 0) (.var 4) (.var 5))], 28⟩]
 (.ret (.bool (.var 14)) [⟨[(.sl 0 (.lit 0) (.var 1) (.var 2)), (.sl 3 (.lit 0) (.var 4) (.var 5))], 28⟩])))))
theorem S_analogy_Cost_1 : FnIs Tryd.prog n_analogy_Cost_1 [(.agg [.sl, .sl]), .ptr, .ptr] T_analogy_Cost_1 := ⟨Tryd.f26, [], 4000, Tryd.func26, by kernel_rfl⟩
abbrev n_paradigm_Check : FuncId := 47
def T_paradigm_Check : Tree :=
 (.call false 61 [(.sl 0 (.lit 0) (.var 1) (.var 2))] (.int .i64) []
 (.ite (.cmp .neq (.var 3) (.lit 0))
 (.ret (.int .i64 (.var 3)) [])
 (.call false 62 [(.sl 0 (.lit 0) (.var 1) (.var 2))] (.int .i64) []
 (.ret (.int .i64 (.var 4)) []))))
theorem S_paradigm_Check : FnIs Tryd.prog n_paradigm_Check [.sl] T_paradigm_Check := ⟨Tryd.f47, [], 4000, Tryd.func47, by kernel_rfl⟩
abbrev n_analogy_endings : FuncId := 48
def T_analogy_endings : Tree :=
 (.chk (.cmp .geq (.var 1) (.lit 0))
 (.ite (.cmp .eql (.var 1) (.lit 0))
 (.ret (.cst (.slice none 0 0)) [])
 (.chk (.pick (.cmp .lss (.lit 0) (.var 1)) (.some 0) (.lit false))
 (.load 0 (.lit 0) [.sl] []
 (.chk (.cmp .geq (.var 4) (.lit 0))
 (.ext false ⟨(.makeSlice 93 (.tmp 0) (.tmp 0)), 93, [(.int .i64 (.var 4)), (.int .i64 (.var 4))]⟩ .sl []
 (.chk (.cmp .geq (.var 7) (.lit 0))
 (.loop 0 [(.int .i64)] [(.int .i64 (.lit 0))] [] []
 (.ite (.cmp .lss (.var 9) (.var 7))
 (.chk (.cmp .geq (.var 1) (.lit 0))
 (.loop 1 [.sl, (.int .i64)] [(.cst (.slice none 0 0)), (.int .i64 (.lit 0))] [] []
 (.ite (.cmp .lss (.var 13) (.var 1))
 (.chk (.pick (.cmp .geq (.var 13) (.lit 0)) (.pick (.cmp .lss (.var 13) (.var 1)) (.some 0) (.lit false)) (.lit false))
 (.load 0 (.off (.var 13) 1 (.lit 0)) [.sl] []
 (.chk (.pick (.cmp .geq (.var 9) (.lit 0)) (.pick (.cmp .lss (.var 9) (.var 15)) (.some 14) (.lit false)) (.lit false))
 (.chk (.pick (.cmp .geq (.off (.var 9) 2 (.lit 0)) (.lit 0)) (.some 14) (.lit false))
 (.load 14 (.off (.var 9) 2 (.lit 0)) [.bool] []
 (.join 2 [.sl] []
 (.ite (.var 17)
 (.chk (.pick (.cmp .geq (.var 9) (.lit 0)) (.pick (.cmp .lss (.var 9) (.var 15)) (.some 14) (.lit false)) (.lit false))
 (.chk (.pick (.cmp .geq (.off (.var 9) 2 (.lit 0)) (.lit 0)) (.some 14) (.lit false))
 (.load 14 (.off (.lit 1) 1 (.off (.var 9) 2 (.lit 0))) [.sl] []
 (.alloc
 (.ext false ⟨(.call ⟨.builtin .append, #[(.tmp 0), (.tmp 0)], #[40, 40]⟩), 40, [(.sl 10 (.lit 0) (.var 11) (.var 12)), (.slc 0 0 1 1)]⟩ .sl [⟨[(.sl 18 (.lit 0) (.var 19) (.var 20))], 23⟩]
 (.again 2 0 [.sl] [(.sl 21 (.lit 0) (.var 22) (.var 23))] [⟨[(.sl 18 (.lit 0) (.var 19) (.var 20))], 23⟩]))))))
 (.again 2 0 [.sl] [(.sl 10 (.lit 0) (.var 11) (.var 12))] []))
 (.again 1 0 [.sl, (.int .i64)] [(.sl 18 (.lit 0) (.var 19) (.var 20)), (.int .i64 (.bin .add .i64 (.var 13) (.lit 1)))] [])))))))
 (.chk (.cmp .geq (.var 11) (.lit 0))
 (.loop 1 [(.int .i64)] [(.int .i64 (.lit 0))] [] []
 (.ite (.cmp .lss (.var 14) (.var 11))
 (.chk (.pick (.cmp .geq (.var 14) (.lit 0)) (.pick (.cmp .lss (.var 14) (.var 11)) (.some 10) (.lit false)) (.lit false))
 (.load 10 (.off (.var 14) 1 (.lit 0)) [.sl] []
 (.loop 2 [(.int .i64)] [(.int .i64 (.lit 0))] [] []
 (.join 3 [.bool] []
 (.chk (.cmp .geq (.var 16) (.lit 0))
 (.ite (.cmp .lss (.var 18) (.var 16))
 (.chk (.pick (.cmp .lss (.lit 0) (.var 11)) (.some 10) (.lit false))
 (.load 10 (.lit 0) [.sl] []
 (.chk (.cmp .geq (.var 20) (.lit 0))
 (.ite (.cmp .lss (.var 18) (.var 20))
 (.chk (.cmp .geq (.var 16) (.lit 0))
 (.chk (.pick (.cmp .geq (.bin .sub .i64 (.bin .sub .i64 (.var 16) (.lit 1)) (.var 18)) (.lit 0)) (.pick (.cmp .lss (.bin .sub .i64 (.bin .sub .i64 (.var 16) (.lit 1)) (.var 18)) (.var 16)) (.some 15) (.lit false)) (.lit false))
 (.load 15 (.off (.bin .sub .i64 (.bin .sub .i64 (.var 16) (.lit 1)) (.var 18)) 2 (.lit 0)) [(.int .u32), (.int .u32)] []
 (.chk (.pick (.cmp .lss (.lit 0) (.var 11)) (.some 10) (.lit false))
 (.load 10 (.lit 0) [.sl] []
 (.chk (.pick (.cmp .lss (.lit 0) (.var 11)) (.some 10) (.lit false))
 (.load 10 (.lit 0) [.sl] []
 (.chk (.cmp .geq (.var 28) (.lit 0))
 (.chk (.pick (.cmp .geq (.bin .sub .i64 (.bin .sub .i64 (.var 28) (.lit 1)) (.var 18)) (.lit 0)) (.pick (.cmp .lss (.bin .sub .i64 (.bin .sub .i64 (.var 28) (.lit 1)) (.var 18)) (.var 25)) (.some 24) (.lit false)) (.lit false))
 (.load 24 (.off (.bin .sub .i64 (.bin .sub .i64 (.var 28) (.lit 1)) (.var 18)) 2 (.lit 0)) [(.int .u32), (.int .u32)] []
 (.again 3 0 [.bool] [(.bool (.pick (.cmp .eql (.var 22) (.var 30)) (.cmp .eql (.var 23) (.var 31)) (.lit false)))] [])))))))))))
 (.again 3 0 [.bool] [(.bool (.lit false))] [])))))
 (.again 3 0 [.bool] [(.bool (.lit false))] [])))
 (.ite (.var 19)
 (.again 2 0 [(.int .i64)] [(.int .i64 (.bin .add .i64 (.var 18) (.lit 1)))] [])
 (.join 2 [.bool] []
 (.ite (.cmp .eql (.var 14) (.lit 0))
 (.again 2 0 [.bool] [(.bool (.lit true))] [])
 (.chk (.pick (.cmp .geq (.var 9) (.lit 0)) (.pick (.cmp .lss (.var 9) (.var 7)) (.some 6) (.lit false)) (.lit false))
 (.load 6 (.off (.var 9) 1 (.lit 0)) [(.int .i64)] []
 (.again 2 0 [.bool] [(.bool (.cmp .lss (.var 18) (.var 20)))] []))))
 (.join 2 [] []
 (.ite (.var 20)
 (.chk (.pick (.cmp .geq (.var 9) (.lit 0)) (.pick (.cmp .lss (.var 9) (.var 7)) (.some 6) (.lit false)) (.lit false))
 (.store false 6 (.off (.var 9) 1 (.lit 0)) [(.int .i64 (.var 18))] []
 (.again 2 0 [] [] [])))
 (.again 2 0 [] [] []))
 (.again 1 0 [(.int .i64)] [(.int .i64 (.bin .add .i64 (.var 14) (.lit 1)))] []))))))))
 (.again 0 0 [(.int .i64)] [(.int .i64 (.bin .add .i64 (.var 9) (.lit 1)))] [])))))))
 (.ret (.sl 6 (.lit 0) (.var 7) (.var 8)) []))))))))))
theorem S_analogy_endings : FnIs Tryd.prog n_analogy_endings [.sl] T_analogy_endings := ⟨Tryd.f48, [{ key := 12, tmps := [], join := true, dead := 40406324196648584240673594529858 }, { key := 200018, tmps := [(85, .bool)], join := true }, { key := 200020, tmps := [(97, .bool)], join := true }, { key := 21, tmps := [], join := true }], 4000, Tryd.func48, by kernel_rfl⟩
abbrev n_slices_Clone___api_Form_api_Form_ : FuncId := 49
def T_slices_Clone___api_Form_api_Form_ : Tree :=
 (.extp ⟨(.binOp .eql 55 (.tmp 0) (.const (.bool true)) 55), 4, [(.sl 0 (.lit 0) (.var 1) (.var 2)), (.cst (.slice none 0 0))]⟩ .bool []
 (.ite (.var 3)
 (.ret (.cst (.slice none 0 0)) [])
 (.alloc
 (.ext false ⟨(.call ⟨.builtin .append, #[(.tmp 0), (.tmp 0)], #[55, 55]⟩), 55, [(.slc 0 0 0 0), (.sl 0 (.lit 0) (.var 1) (.var 2))]⟩ .sl [⟨[], 62⟩]
 (.ret (.sl 4 (.lit 0) (.var 5) (.var 6)) [⟨[], 62⟩])))))
theorem S_slices_Clone___api_Form_api_Form_ : FnIs Tryd.prog n_slices_Clone___api_Form_api_Form_ [.sl] T_slices_Clone___api_Form_api_Form_ := ⟨Tryd.f49, [], 4000, Tryd.func49, by kernel_rfl⟩
abbrev n_paradigm_shape : FuncId := 61
def T_paradigm_shape : Tree :=
 (.chk (.cmp .geq (.var 1) (.lit 0))
 (.ite (.cmp .gtr (.var 1) (.lit 64))
 (.ret (.int .i64 (.lit 12)) [])
 (.call false 71 [(.sl 0 (.lit 0) (.var 1) (.var 2)), (.cst (.func (.func 72) #[] #[]))] .bool []
 (.ite (.var 3)
 (.ret (.int .i64 (.lit 12)) [])
 (.chk (.cmp .geq (.var 1) (.lit 0))
 (.loop 0 [(.int .i64), (.int .i64)] [(.int .i64 (.lit 0)), (.int .i64 (.lit 0))] [] []
 (.ite (.cmp .lss (.var 5) (.var 1))
 (.chk (.pick (.cmp .geq (.var 5) (.lit 0)) (.pick (.cmp .lss (.var 5) (.var 1)) (.some 0) (.lit false)) (.lit false))
 (.load 0 (.off (.var 5) 1 (.lit 0)) [.sl] []
 (.chk (.cmp .geq (.var 7) (.lit 0))
 (.chk (.pick (.cmp .lss (.lit 0) (.var 1)) (.some 0) (.lit false))
 (.load 0 (.lit 0) [.sl] []
 (.chk (.cmp .geq (.var 10) (.lit 0))
 (.ite (.cmp .neq (.var 7) (.var 10))
 (.ret (.int .i64 (.lit 2)) [])
 (.call false 73 [(.sl 6 (.lit 0) (.var 7) (.var 8)), (.cst (.func (.func 74) #[] #[]))] .bool []
 (.ite (.var 12)
 (.ret (.int .i64 (.lit 2)) [])
 (.again 0 0 [(.int .i64), (.int .i64)] [(.int .i64 (.var 4)), (.int .i64 (.bin .add .i64 (.var 5) (.lit 1)))] []))))))))))
 (.ret (.int .i64 (.lit 0)) []))))))))
theorem S_paradigm_shape : FnIs Tryd.prog n_paradigm_shape [.sl] T_paradigm_shape := ⟨Tryd.f61, [], 4000, Tryd.func61, by kernel_rfl⟩
abbrev n_paradigm_words : FuncId := 62
def T_paradigm_words : Tree :=
 (.chk (.cmp .geq (.var 1) (.lit 0))
 (.loop 0 [(.int .i64), (.int .i64)] [(.int .i64 (.lit 0)), (.int .i64 (.lit 0))] [] []
 (.ite (.cmp .lss (.var 4) (.var 1))
 (.chk (.pick (.cmp .geq (.var 4) (.lit 0)) (.pick (.cmp .lss (.var 4) (.var 1)) (.some 0) (.lit false)) (.lit false))
 (.load 0 (.off (.var 4) 1 (.lit 0)) [.sl] []
 (.chk (.cmp .geq (.var 6) (.lit 0))
 (.loop 1 [(.int .i64), (.int .i64)] [(.int .i64 (.var 3)), (.int .i64 (.lit 0))] [] []
 (.ite (.cmp .lss (.var 9) (.var 6))
 (.chk (.pick (.cmp .geq (.var 9) (.lit 0)) (.pick (.cmp .lss (.var 9) (.var 6)) (.some 5) (.lit false)) (.lit false))
 (.load 5 (.off (.var 9) 2 (.lit 0)) [.bool, .sl] []
 (.alloc
 (.call false 20 [(.sl 11 (.lit 0) (.var 12) (.var 13))] (.int .i64) [⟨[(.bool (.var 10)), (.sl 11 (.lit 0) (.var 12) (.var 13))], 62⟩]
 (.ite (.cmp .neq (.var 14) (.lit 0))
 (.ret (.int .i64 (.var 14)) [⟨[(.bool (.var 10)), (.sl 11 (.lit 0) (.var 12) (.var 13))], 62⟩])
 (.again 1 0 [(.int .i64), (.int .i64)] [(.int .i64 (.var 8)), (.int .i64 (.bin .add .i64 (.var 9) (.lit 1)))] [⟨[(.bool (.var 10)), (.sl 11 (.lit 0) (.var 12) (.var 13))], 62⟩]))))))
 (.again 0 0 [(.int .i64), (.int .i64)] [(.int .i64 (.var 8)), (.int .i64 (.bin .add .i64 (.var 4) (.lit 1)))] []))))))
 (.ret (.int .i64 (.lit 0)) []))))
theorem S_paradigm_words : FnIs Tryd.prog n_paradigm_words [.sl] T_paradigm_words := ⟨Tryd.f62, [], 4000, Tryd.func62, by kernel_rfl⟩
abbrev n_slices_ContainsFunc_____api_Form___api_Form_ : FuncId := 71
def T_slices_ContainsFunc_____api_Form___api_Form_ : Tree :=
 (.call false 78 [(.sl 0 (.lit 0) (.var 1) (.var 2)), (.val 3)] (.int .i64) []
 (.ret (.bool (.cmp .geq (.var 4) (.lit 0))) []))
theorem S_slices_ContainsFunc_____api_Form___api_Form_ : FnIs Tryd.prog n_slices_ContainsFunc_____api_Form___api_Form_ [.sl, .val] T_slices_ContainsFunc_____api_Form___api_Form_ := ⟨Tryd.f71, [], 4000, Tryd.func71, by kernel_rfl⟩
abbrev n_paradigm_shape_1 : FuncId := 72
def T_paradigm_shape_1 : Tree :=
 (.chk (.cmp .geq (.var 1) (.lit 0))
 (.ret (.bool (.cmp .gtr (.var 1) (.lit 16))) []))
theorem S_paradigm_shape_1 : FnIs Tryd.prog n_paradigm_shape_1 [.sl] T_paradigm_shape_1 := ⟨Tryd.f72, [], 4000, Tryd.func72, by kernel_rfl⟩
abbrev n_slices_ContainsFunc___api_Form_api_Form_ : FuncId := 73
def T_slices_ContainsFunc___api_Form_api_Form_ : Tree :=
 (.call false 79 [(.sl 0 (.lit 0) (.var 1) (.var 2)), (.val 3)] (.int .i64) []
 (.ret (.bool (.cmp .geq (.var 4) (.lit 0))) []))
theorem S_slices_ContainsFunc___api_Form_api_Form_ : FnIs Tryd.prog n_slices_ContainsFunc___api_Form_api_Form_ [.sl, .val] T_slices_ContainsFunc___api_Form_api_Form_ := ⟨Tryd.f73, [], 4000, Tryd.func73, by kernel_rfl⟩
abbrev n_paradigm_shape_2 : FuncId := 74
def T_paradigm_shape_2 : Tree :=
 (.alloc
 (.join 0 [.bool] [⟨[(.bool (.var 0)), (.sl 1 (.lit 0) (.var 2) (.var 3))], 62⟩]
 (.ite (.not (.var 0))
 (.chk (.cmp .geq (.var 2) (.lit 0))
 (.again 0 1 [.bool] [(.bool (.cmp .gtr (.var 2) (.lit 0)))] [⟨[(.bool (.var 0)), (.sl 1 (.lit 0) (.var 2) (.var 3))], 62⟩]))
 (.again 0 1 [.bool] [(.bool (.lit false))] [⟨[(.bool (.var 0)), (.sl 1 (.lit 0) (.var 2) (.var 3))], 62⟩]))
 (.ret (.bool (.var 4)) [⟨[(.bool (.var 0)), (.sl 1 (.lit 0) (.var 2) (.var 3))], 62⟩])))
theorem S_paradigm_shape_2 : FnIs Tryd.prog n_paradigm_shape_2 [(.agg [.bool, .sl])] T_paradigm_shape_2 := ⟨Tryd.f74, [{ key := 200001, tmps := [], join := true, dead := 4088 }], 4000, Tryd.func74, by kernel_rfl⟩
abbrev n_slices_IndexFunc_____api_Form___api_Form_ : FuncId := 78
def T_slices_IndexFunc_____api_Form___api_Form_ : Tree :=
 (.chk (.cmp .geq (.var 1) (.lit 0))
 (.loop 0 [(.int .i64), (.int .i64)] [(.int .i64 (.lit 0)), (.int .i64 (.lit 0))] [] []
 (.ite (.cmp .lss (.var 5) (.var 1))
 (.chk (.pick (.cmp .geq (.var 5) (.lit 0)) (.pick (.cmp .lss (.var 5) (.var 1)) (.some 0) (.lit false)) (.lit false))
 (.load 0 (.off (.var 5) 1 (.lit 0)) [.sl] []
 (.callv false (.val 3) [(.sl 6 (.lit 0) (.var 7) (.var 8))] .bool []
 (.ite (.var 9)
 (.ret (.int .i64 (.var 5)) [])
 (.again 0 0 [(.int .i64), (.int .i64)] [(.int .i64 (.var 4)), (.int .i64 (.bin .add .i64 (.var 5) (.lit 1)))] [])))))
 (.ret (.int .i64 (.lit (-1))) []))))
theorem S_slices_IndexFunc_____api_Form___api_Form_ : FnIs Tryd.prog n_slices_IndexFunc_____api_Form___api_Form_ [.sl, .val] T_slices_IndexFunc_____api_Form___api_Form_ := ⟨Tryd.f78, [], 4000, Tryd.func78, by kernel_rfl⟩
abbrev n_slices_IndexFunc___api_Form_api_Form_ : FuncId := 79
def T_slices_IndexFunc___api_Form_api_Form_ : Tree :=
 (.chk (.cmp .geq (.var 1) (.lit 0))
 (.loop 0 [(.int .i64), (.int .i64)] [(.int .i64 (.lit 0)), (.int .i64 (.lit 0))] [] []
 (.ite (.cmp .lss (.var 5) (.var 1))
 (.chk (.pick (.cmp .geq (.var 5) (.lit 0)) (.pick (.cmp .lss (.var 5) (.var 1)) (.some 0) (.lit false)) (.lit false))
 (.load 0 (.off (.var 5) 2 (.lit 0)) [.bool, .sl] []
 (.callv false (.val 3) [(.agg [(.bool (.var 6)), (.sl 7 (.lit 0) (.var 8) (.var 9))])] .bool []
 (.ite (.var 10)
 (.ret (.int .i64 (.var 5)) [])
 (.again 0 0 [(.int .i64), (.int .i64)] [(.int .i64 (.var 4)), (.int .i64 (.bin .add .i64 (.var 5) (.lit 1)))] [])))))
 (.ret (.int .i64 (.lit (-1))) []))))
theorem S_slices_IndexFunc___api_Form_api_Form_ : FnIs Tryd.prog n_slices_IndexFunc___api_Form_api_Form_ [.sl, .val] T_slices_IndexFunc___api_Form_api_Form_ := ⟨Tryd.f79, [], 4000, Tryd.func79, by kernel_rfl⟩
end Go.Proofs.YtpbbnmjkbfbelabDoor
