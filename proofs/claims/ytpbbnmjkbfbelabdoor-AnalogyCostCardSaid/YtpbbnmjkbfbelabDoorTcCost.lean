/- The trees of this seat's functions, printed by a program of mine (SyGen), checked here by the kernel. -/
import Derived.Test.YtpbbnmjkbfbelabDoorSyDef
import Derived.Test.YtpbbnmjkbfbelabDoorProg
import Derived.KernelRfl
set_option maxRecDepth 100000
namespace Go.Proofs.YtpbbnmjkbfbelabDoor
open Go Go.Sy
abbrev n_law30_AnalogyCost : FuncId := 3
def T_law30_AnalogyCost : Tree :=
 (.alloc
 (.join 0 [.bool] [⟨[(.sl 6 (.lit 0) (.var 7) (.var 8)), (.sl 9 (.lit 0) (.var 10) (.var 11))], 24⟩]
 (.chk (.cmp .geq (.var 1) (.lit 0))
 (.ite (.cmp .gtr (.var 1) (.lit 12))
 (.again 0 1 [.bool] [(.bool (.lit true))] [⟨[(.sl 6 (.lit 0) (.var 7) (.var 8)), (.sl 9 (.lit 0) (.var 10) (.var 11))], 24⟩])
 (.alloc
 (.call false 5 [(.slc 1 0 3 3)] .bool [⟨[(.sl 6 (.lit 0) (.var 7) (.var 8)), (.sl 9 (.lit 0) (.var 10) (.var 11))], 24⟩, ⟨[(.sl 3 (.lit 0) (.var 4) (.var 5)), (.sl 6 (.lit 0) (.var 7) (.var 8)), (.sl 9 (.lit 0) (.var 10) (.var 11))], 23⟩]
 (.again 0 1 [.bool] [(.bool (.not (.var 14)))] [⟨[(.sl 6 (.lit 0) (.var 7) (.var 8)), (.sl 9 (.lit 0) (.var 10) (.var 11))], 24⟩, ⟨[(.sl 3 (.lit 0) (.var 4) (.var 5)), (.sl 6 (.lit 0) (.var 7) (.var 8)), (.sl 9 (.lit 0) (.var 10) (.var 11))], 23⟩])))))
 (.ite (.var 14)
 (.call false 6 [] .bool [⟨[(.sl 6 (.lit 0) (.var 7) (.var 8)), (.sl 9 (.lit 0) (.var 10) (.var 11))], 24⟩]
 (.ret (.bool (.var 15)) [⟨[(.sl 6 (.lit 0) (.var 7) (.var 8)), (.sl 9 (.lit 0) (.var 10) (.var 11))], 24⟩]))
 (.loop 0 [.bool, (.int .i64)] [(.bool (.lit false)), (.int .i64 (.lit 0))] [⟨[(.sl 6 (.lit 0) (.var 7) (.var 8)), (.sl 9 (.lit 0) (.var 10) (.var 11))], 24⟩] [⟨[(.sl 6 (.lit 0) (.var 7) (.var 8)), (.sl 9 (.lit 0) (.var 10) (.var 11))], 24⟩]
 (.chk (.cmp .geq (.var 1) (.lit 0))
 (.ite (.cmp .lss (.var 16) (.var 1))
 (.chk (.pick (.cmp .geq (.var 16) (.lit 0)) (.pick (.cmp .lss (.var 16) (.var 1)) (.some 0) (.lit false)) (.lit false))
 (.chk (.pick (.cmp .geq (.off (.var 16) 2 (.lit 0)) (.lit 0)) (.some 0) (.lit false))
 (.load 0 (.off (.var 16) 2 (.lit 0)) [.sl] [⟨[(.sl 6 (.lit 0) (.var 7) (.var 8)), (.sl 9 (.lit 0) (.var 10) (.var 11))], 24⟩]
 (.chk (.pick (.cmp .geq (.var 16) (.lit 0)) (.pick (.cmp .lss (.var 16) (.var 1)) (.some 0) (.lit false)) (.lit false))
 (.chk (.pick (.cmp .geq (.off (.var 16) 2 (.lit 0)) (.lit 0)) (.some 0) (.lit false))
 (.load 0 (.off (.lit 1) 1 (.off (.var 16) 2 (.lit 0))) [.sl] [⟨[(.sl 6 (.lit 0) (.var 7) (.var 8)), (.sl 9 (.lit 0) (.var 10) (.var 11))], 24⟩]
 (.alloc
 (.call false 5 [(.slc 1 0 2 2)] .bool [⟨[(.sl 6 (.lit 0) (.var 7) (.var 8)), (.sl 9 (.lit 0) (.var 10) (.var 11))], 24⟩, ⟨[(.sl 17 (.lit 0) (.var 18) (.var 19)), (.sl 20 (.lit 0) (.var 21) (.var 22))], 23⟩]
 (.ite (.not (.var 23))
 (.call false 6 [] .bool [⟨[(.sl 6 (.lit 0) (.var 7) (.var 8)), (.sl 9 (.lit 0) (.var 10) (.var 11))], 24⟩, ⟨[(.sl 17 (.lit 0) (.var 18) (.var 19)), (.sl 20 (.lit 0) (.var 21) (.var 22))], 23⟩]
 (.ret (.bool (.var 24)) [⟨[(.sl 6 (.lit 0) (.var 7) (.var 8)), (.sl 9 (.lit 0) (.var 10) (.var 11))], 24⟩, ⟨[(.sl 17 (.lit 0) (.var 18) (.var 19)), (.sl 20 (.lit 0) (.var 21) (.var 22))], 23⟩]))
 (.again 0 1 [.bool, (.int .i64)] [(.bool (.var 15)), (.int .i64 (.bin .add .i64 (.var 16) (.lit 1)))] [⟨[(.sl 6 (.lit 0) (.var 7) (.var 8)), (.sl 9 (.lit 0) (.var 10) (.var 11))], 24⟩, ⟨[(.sl 17 (.lit 0) (.var 18) (.var 19)), (.sl 20 (.lit 0) (.var 21) (.var 22))], 23⟩]))))))))))
 (.alloc
 (.alloc
 (.call false 7 [(.sl 0 (.lit 0) (.var 1) (.var 2)), (.sl 3 (.lit 0) (.var 4) (.var 5)), (.sl 6 (.lit 0) (.var 7) (.var 8)), (.sl 9 (.lit 0) (.var 10) (.var 11)), (.agg [(.slc 1 0 3 3), (.int .i64 (.conv .i64 (.var 13)))])] (.tup [(.int .i64), (.int .i64)]) [⟨[(.sl 6 (.lit 0) (.var 7) (.var 8)), (.sl 9 (.lit 0) (.var 10) (.var 11))], 24⟩, ⟨[(.int .i64 (.conv .i64 (.var 12))), (.int .i64 (.conv .i64 (.var 12))), (.int .i64 (.conv .i64 (.var 12)))], 2⟩, ⟨[(.slc 1 0 3 3), (.int .i64 (.conv .i64 (.var 13)))], 31⟩]
 (.call false 7 [(.cst (.slice none 0 0)), (.sl 3 (.lit 0) (.var 4) (.var 5)), (.sl 6 (.lit 0) (.var 7) (.var 8)), (.sl 9 (.lit 0) (.var 10) (.var 11)), (.agg [(.slc 1 0 3 3), (.int .i64 (.conv .i64 (.var 13)))])] (.tup [(.int .i64), (.int .i64)]) [⟨[(.sl 6 (.lit 0) (.var 7) (.var 8)), (.sl 9 (.lit 0) (.var 10) (.var 11))], 24⟩, ⟨[(.int .i64 (.conv .i64 (.var 12))), (.int .i64 (.conv .i64 (.var 12))), (.int .i64 (.conv .i64 (.var 12)))], 2⟩, ⟨[(.slc 1 0 3 3), (.int .i64 (.conv .i64 (.var 13)))], 31⟩]
 (.call false 7 [(.sl 0 (.lit 0) (.var 1) (.var 2)), (.sl 3 (.lit 0) (.var 4) (.var 5)), (.sl 6 (.lit 0) (.var 7) (.var 8)), (.sl 6 (.lit 0) (.var 7) (.var 8)), (.agg [(.slc 1 0 3 3), (.int .i64 (.conv .i64 (.var 13)))])] (.tup [(.int .i64), (.int .i64)]) [⟨[(.sl 6 (.lit 0) (.var 7) (.var 8)), (.sl 9 (.lit 0) (.var 10) (.var 11))], 24⟩, ⟨[(.int .i64 (.conv .i64 (.var 12))), (.int .i64 (.conv .i64 (.var 12))), (.int .i64 (.conv .i64 (.var 12)))], 2⟩, ⟨[(.slc 1 0 3 3), (.int .i64 (.conv .i64 (.var 13)))], 31⟩]
 (.call false 8 [(.sl 0 (.lit 0) (.var 1) (.var 2)), (.sl 3 (.lit 0) (.var 4) (.var 5)), (.sl 9 (.lit 0) (.var 10) (.var 11))] (.tup [(.int .i64), .bool, (.int .i64)]) [⟨[(.sl 6 (.lit 0) (.var 7) (.var 8)), (.sl 9 (.lit 0) (.var 10) (.var 11))], 24⟩, ⟨[(.int .i64 (.conv .i64 (.var 12))), (.int .i64 (.conv .i64 (.var 12))), (.int .i64 (.conv .i64 (.var 12)))], 2⟩, ⟨[(.slc 1 0 3 3), (.int .i64 (.conv .i64 (.var 13)))], 31⟩]
 (.extp ⟨(.slice 24 (.tmp 0) none none none), 40, [(.loc 0 0)]⟩ .sl [⟨[(.sl 6 (.lit 0) (.var 7) (.var 8)), (.sl 9 (.lit 0) (.var 10) (.var 11))], 24⟩, ⟨[(.int .i64 (.conv .i64 (.var 12))), (.int .i64 (.conv .i64 (.var 12))), (.int .i64 (.conv .i64 (.var 12)))], 2⟩, ⟨[(.slc 1 0 3 3), (.int .i64 (.conv .i64 (.var 13)))], 31⟩]
 (.call false 9 [(.sl 26 (.lit 0) (.var 27) (.var 28)), (.agg [(.slc 1 0 3 3), (.int .i64 (.conv .i64 (.var 13)))])] (.tup [.sl, (.int .i64)]) [⟨[(.sl 6 (.lit 0) (.var 7) (.var 8)), (.sl 9 (.lit 0) (.var 10) (.var 11))], 24⟩, ⟨[(.int .i64 (.conv .i64 (.var 12))), (.int .i64 (.conv .i64 (.var 12))), (.int .i64 (.conv .i64 (.var 12)))], 2⟩, ⟨[(.slc 1 0 3 3), (.int .i64 (.conv .i64 (.var 13)))], 31⟩]
 (.extp ⟨(.slice 24 (.tmp 0) none none none), 40, [(.loc 0 0)]⟩ .sl [⟨[(.sl 6 (.lit 0) (.var 7) (.var 8)), (.sl 9 (.lit 0) (.var 10) (.var 11))], 24⟩, ⟨[(.int .i64 (.conv .i64 (.var 12))), (.int .i64 (.conv .i64 (.var 12))), (.int .i64 (.conv .i64 (.var 12)))], 2⟩, ⟨[(.slc 1 0 3 3), (.int .i64 (.conv .i64 (.var 13)))], 31⟩]
 (.call false 10 [(.sl 33 (.lit 0) (.var 34) (.var 35)), (.sl 29 (.lit 0) (.var 30) (.var 31)), (.agg [(.slc 1 0 3 3), (.int .i64 (.conv .i64 (.var 13)))])] (.tup [(.int .i64), (.int .i64)]) [⟨[(.sl 6 (.lit 0) (.var 7) (.var 8)), (.sl 9 (.lit 0) (.var 10) (.var 11))], 24⟩, ⟨[(.int .i64 (.conv .i64 (.var 12))), (.int .i64 (.conv .i64 (.var 12))), (.int .i64 (.conv .i64 (.var 12)))], 2⟩, ⟨[(.slc 1 0 3 3), (.int .i64 (.conv .i64 (.var 13)))], 31⟩]
 (.ite (.pick (.pick (.pick (.pick (.pick (.pick (.cmp .neq (.var 18) (.lit 0)) (.lit true) (.cmp .neq (.var 20) (.lit 0))) (.lit true) (.cmp .neq (.var 22) (.lit 0))) (.lit true) (.cmp .neq (.var 25) (.lit 0))) (.lit true) (.cmp .neq (.var 32) (.lit 0))) (.lit true) (.cmp .neq (.var 37) (.lit 0))) (.lit true) (.cmp .neq (.var 21) (.lit 0)))
 (.ret (.bool (.lit false)) [⟨[(.sl 6 (.lit 0) (.var 7) (.var 8)), (.sl 9 (.lit 0) (.var 10) (.var 11))], 24⟩, ⟨[(.int .i64 (.conv .i64 (.var 12))), (.int .i64 (.conv .i64 (.var 12))), (.int .i64 (.conv .i64 (.var 12)))], 2⟩, ⟨[(.slc 1 0 3 3), (.int .i64 (.conv .i64 (.var 13)))], 31⟩])
 (.call false 11 [(.sl 6 (.lit 0) (.var 7) (.var 8)), (.sl 9 (.lit 0) (.var 10) (.var 11))] .bool [⟨[(.sl 6 (.lit 0) (.var 7) (.var 8)), (.sl 9 (.lit 0) (.var 10) (.var 11))], 24⟩, ⟨[(.int .i64 (.conv .i64 (.var 12))), (.int .i64 (.conv .i64 (.var 12))), (.int .i64 (.conv .i64 (.var 12)))], 2⟩, ⟨[(.slc 1 0 3 3), (.int .i64 (.conv .i64 (.var 13)))], 31⟩]
 (.ite (.var 38)
 (.join 0 [.bool] [⟨[(.sl 6 (.lit 0) (.var 7) (.var 8)), (.sl 9 (.lit 0) (.var 10) (.var 11))], 24⟩, ⟨[(.int .i64 (.conv .i64 (.var 12))), (.int .i64 (.conv .i64 (.var 12))), (.int .i64 (.conv .i64 (.var 12)))], 2⟩, ⟨[(.slc 1 0 3 3), (.int .i64 (.conv .i64 (.var 13)))], 31⟩]
 (.ite (.pick (.cmp .eql (.var 17) (.lit 0)) (.cmp .eql (.var 19) (.lit 0)) (.lit false))
 (.call false 6 [] .bool [⟨[(.sl 6 (.lit 0) (.var 7) (.var 8)), (.sl 9 (.lit 0) (.var 10) (.var 11))], 24⟩, ⟨[(.int .i64 (.conv .i64 (.var 12))), (.int .i64 (.conv .i64 (.var 12))), (.int .i64 (.conv .i64 (.var 12)))], 2⟩, ⟨[(.slc 1 0 3 3), (.int .i64 (.conv .i64 (.var 13)))], 31⟩]
 (.again 0 3 [.bool] [(.bool (.var 39))] [⟨[(.sl 6 (.lit 0) (.var 7) (.var 8)), (.sl 9 (.lit 0) (.var 10) (.var 11))], 24⟩, ⟨[(.int .i64 (.conv .i64 (.var 12))), (.int .i64 (.conv .i64 (.var 12))), (.int .i64 (.conv .i64 (.var 12)))], 2⟩, ⟨[(.slc 1 0 3 3), (.int .i64 (.conv .i64 (.var 13)))], 31⟩]))
 (.again 0 3 [.bool] [(.bool (.lit false))] [⟨[(.sl 6 (.lit 0) (.var 7) (.var 8)), (.sl 9 (.lit 0) (.var 10) (.var 11))], 24⟩, ⟨[(.int .i64 (.conv .i64 (.var 12))), (.int .i64 (.conv .i64 (.var 12))), (.int .i64 (.conv .i64 (.var 12)))], 2⟩, ⟨[(.slc 1 0 3 3), (.int .i64 (.conv .i64 (.var 13)))], 31⟩]))
 (.ret (.bool (.var 39)) [⟨[(.sl 6 (.lit 0) (.var 7) (.var 8)), (.sl 9 (.lit 0) (.var 10) (.var 11))], 24⟩, ⟨[(.int .i64 (.conv .i64 (.var 12))), (.int .i64 (.conv .i64 (.var 12))), (.int .i64 (.conv .i64 (.var 12)))], 2⟩, ⟨[(.slc 1 0 3 3), (.int .i64 (.conv .i64 (.var 13)))], 31⟩]))
 (.join 0 [(.int .i64)] [⟨[(.sl 6 (.lit 0) (.var 7) (.var 8)), (.sl 9 (.lit 0) (.var 10) (.var 11))], 24⟩, ⟨[(.int .i64 (.conv .i64 (.var 12))), (.int .i64 (.conv .i64 (.var 12))), (.int .i64 (.conv .i64 (.var 12)))], 2⟩, ⟨[(.slc 1 0 3 3), (.int .i64 (.conv .i64 (.var 13)))], 31⟩]
 (.ite (.var 24)
 (.again 0 3 [(.int .i64)] [(.int .i64 (.mn (.var 36) (.conv .i64 (.var 13))))] [⟨[(.sl 6 (.lit 0) (.var 7) (.var 8)), (.sl 9 (.lit 0) (.var 10) (.var 11))], 24⟩, ⟨[(.int .i64 (.conv .i64 (.var 12))), (.int .i64 (.conv .i64 (.var 12))), (.int .i64 (.conv .i64 (.var 12)))], 2⟩, ⟨[(.slc 1 0 3 3), (.int .i64 (.conv .i64 (.var 13)))], 31⟩])
 (.again 0 3 [(.int .i64)] [(.int .i64 (.var 36))] [⟨[(.sl 6 (.lit 0) (.var 7) (.var 8)), (.sl 9 (.lit 0) (.var 10) (.var 11))], 24⟩, ⟨[(.int .i64 (.conv .i64 (.var 12))), (.int .i64 (.conv .i64 (.var 12))), (.int .i64 (.conv .i64 (.var 12)))], 2⟩, ⟨[(.slc 1 0 3 3), (.int .i64 (.conv .i64 (.var 13)))], 31⟩]))
 (.join 0 [.bool] [⟨[(.sl 6 (.lit 0) (.var 7) (.var 8)), (.sl 9 (.lit 0) (.var 10) (.var 11))], 24⟩, ⟨[(.int .i64 (.conv .i64 (.var 12))), (.int .i64 (.conv .i64 (.var 12))), (.int .i64 (.conv .i64 (.var 12)))], 2⟩, ⟨[(.slc 1 0 3 3), (.int .i64 (.conv .i64 (.var 13)))], 31⟩]
 (.ite (.pick (.cmp .eql (.var 19) (.var 36)) (.cmp .eql (.var 17) (.var 39)) (.lit false))
 (.chk (.cmp .geq (.var 7) (.lit 0))
 (.chk (.cmp .geq (.var 10) (.lit 0))
 (.ite (.cmp .leq (.var 19) (.bin .mul .i64 (.conv .i64 (.var 13)) (.bin .add .i64 (.var 7) (.var 10))))
 (.call false 6 [] .bool [⟨[(.sl 6 (.lit 0) (.var 7) (.var 8)), (.sl 9 (.lit 0) (.var 10) (.var 11))], 24⟩, ⟨[(.int .i64 (.conv .i64 (.var 12))), (.int .i64 (.conv .i64 (.var 12))), (.int .i64 (.conv .i64 (.var 12)))], 2⟩, ⟨[(.slc 1 0 3 3), (.int .i64 (.conv .i64 (.var 13)))], 31⟩]
 (.again 0 3 [.bool] [(.bool (.var 40))] [⟨[(.sl 6 (.lit 0) (.var 7) (.var 8)), (.sl 9 (.lit 0) (.var 10) (.var 11))], 24⟩, ⟨[(.int .i64 (.conv .i64 (.var 12))), (.int .i64 (.conv .i64 (.var 12))), (.int .i64 (.conv .i64 (.var 12)))], 2⟩, ⟨[(.slc 1 0 3 3), (.int .i64 (.conv .i64 (.var 13)))], 31⟩]))
 (.again 0 3 [.bool] [(.bool (.lit false))] [⟨[(.sl 6 (.lit 0) (.var 7) (.var 8)), (.sl 9 (.lit 0) (.var 10) (.var 11))], 24⟩, ⟨[(.int .i64 (.conv .i64 (.var 12))), (.int .i64 (.conv .i64 (.var 12))), (.int .i64 (.conv .i64 (.var 12)))], 2⟩, ⟨[(.slc 1 0 3 3), (.int .i64 (.conv .i64 (.var 13)))], 31⟩]))))
 (.again 0 3 [.bool] [(.bool (.lit false))] [⟨[(.sl 6 (.lit 0) (.var 7) (.var 8)), (.sl 9 (.lit 0) (.var 10) (.var 11))], 24⟩, ⟨[(.int .i64 (.conv .i64 (.var 12))), (.int .i64 (.conv .i64 (.var 12))), (.int .i64 (.conv .i64 (.var 12)))], 2⟩, ⟨[(.slc 1 0 3 3), (.int .i64 (.conv .i64 (.var 13)))], 31⟩]))
 (.ret (.bool (.var 40)) [⟨[(.sl 6 (.lit 0) (.var 7) (.var 8)), (.sl 9 (.lit 0) (.var 10) (.var 11))], 24⟩, ⟨[(.int .i64 (.conv .i64 (.var 12))), (.int .i64 (.conv .i64 (.var 12))), (.int .i64 (.conv .i64 (.var 12)))], 2⟩, ⟨[(.slc 1 0 3 3), (.int .i64 (.conv .i64 (.var 13)))], 31⟩]))))))))))))))))))))))
theorem S_law30_AnalogyCost : FnIs Tryd.prog n_law30_AnalogyCost [.sl, .sl, (.agg [.sl, .sl]), (.int .u8), (.int .u8)] T_law30_AnalogyCost := ⟨Tryd.f3, [{ key := 200001, tmps := [(39, .bool)], join := true, dead := 100433627672603688258335547330211909926803164035049859842912 }, { key := 200018, tmps := [], join := true }, { key := 21, tmps := [], join := true }, { key := 200022, tmps := [], join := true }], 4000, Tryd.func3, by kernel_rfl⟩
end Go.Proofs.YtpbbnmjkbfbelabDoor
