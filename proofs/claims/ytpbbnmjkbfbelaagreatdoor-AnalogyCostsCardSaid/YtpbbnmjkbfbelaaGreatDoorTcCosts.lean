/- The trees of this seat's functions, printed by a program of mine (SyGen), checked here by the kernel. -/
import Derived.Test.YtpbbnmjkbfbelaaGreatDoorSyDef
import Derived.Test.YtpbbnmjkbfbelaaGreatDoorProg
import Derived.KernelRfl
set_option maxRecDepth 100000
namespace Go.Proofs.YtpbbnmjkbfbelaaGreatDoor
open Go Go.Sy
abbrev n_law30_AnalogyCosts : FuncId := 3
def T_law30_AnalogyCosts : Tree :=
 (.alloc
 (.join 0 [.bool] [⟨[(.sl 0 (.lit 0) (.var 1) (.var 2)), (.sl 3 (.lit 0) (.var 4) (.var 5)), (.sl 6 (.lit 0) (.var 7) (.var 8)), (.sl 9 (.lit 0) (.var 10) (.var 11)), (.sl 12 (.lit 0) (.var 13) (.var 14)), (.int .i64 (.var 15))], 28⟩]
 (.call false 4 [(.sl 0 (.lit 0) (.var 1) (.var 2))] .bool [⟨[(.sl 0 (.lit 0) (.var 1) (.var 2)), (.sl 3 (.lit 0) (.var 4) (.var 5)), (.sl 6 (.lit 0) (.var 7) (.var 8)), (.sl 9 (.lit 0) (.var 10) (.var 11)), (.sl 12 (.lit 0) (.var 13) (.var 14)), (.int .i64 (.var 15))], 28⟩]
 (.ite (.not (.var 16))
 (.again 0 1 [.bool] [(.bool (.lit true))] [⟨[(.sl 0 (.lit 0) (.var 1) (.var 2)), (.sl 3 (.lit 0) (.var 4) (.var 5)), (.sl 6 (.lit 0) (.var 7) (.var 8)), (.sl 9 (.lit 0) (.var 10) (.var 11)), (.sl 12 (.lit 0) (.var 13) (.var 14)), (.int .i64 (.var 15))], 28⟩])
 (.chk (.cmp .geq (.var 4) (.lit 0))
 (.ite (.cmp .gtr (.var 4) (.lit 100))
 (.again 0 1 [.bool] [(.bool (.lit true))] [⟨[(.sl 0 (.lit 0) (.var 1) (.var 2)), (.sl 3 (.lit 0) (.var 4) (.var 5)), (.sl 6 (.lit 0) (.var 7) (.var 8)), (.sl 9 (.lit 0) (.var 10) (.var 11)), (.sl 12 (.lit 0) (.var 13) (.var 14)), (.int .i64 (.var 15))], 28⟩])
 (.chk (.cmp .geq (.var 7) (.lit 0))
 (.ite (.cmp .gtr (.var 7) (.lit 100))
 (.again 0 1 [.bool] [(.bool (.lit true))] [⟨[(.sl 0 (.lit 0) (.var 1) (.var 2)), (.sl 3 (.lit 0) (.var 4) (.var 5)), (.sl 6 (.lit 0) (.var 7) (.var 8)), (.sl 9 (.lit 0) (.var 10) (.var 11)), (.sl 12 (.lit 0) (.var 13) (.var 14)), (.int .i64 (.var 15))], 28⟩])
 (.chk (.cmp .geq (.var 10) (.lit 0))
 (.again 0 1 [.bool] [(.bool (.cmp .gtr (.var 10) (.lit 100)))] [⟨[(.sl 0 (.lit 0) (.var 1) (.var 2)), (.sl 3 (.lit 0) (.var 4) (.var 5)), (.sl 6 (.lit 0) (.var 7) (.var 8)), (.sl 9 (.lit 0) (.var 10) (.var 11)), (.sl 12 (.lit 0) (.var 13) (.var 14)), (.int .i64 (.var 15))], 28⟩]))))))))
 (.ite (.var 16)
 (.call false 5 [] .bool [⟨[(.sl 0 (.lit 0) (.var 1) (.var 2)), (.sl 3 (.lit 0) (.var 4) (.var 5)), (.sl 6 (.lit 0) (.var 7) (.var 8)), (.sl 9 (.lit 0) (.var 10) (.var 11)), (.sl 12 (.lit 0) (.var 13) (.var 14)), (.int .i64 (.var 15))], 28⟩]
 (.ret (.bool (.var 17)) [⟨[(.sl 0 (.lit 0) (.var 1) (.var 2)), (.sl 3 (.lit 0) (.var 4) (.var 5)), (.sl 6 (.lit 0) (.var 7) (.var 8)), (.sl 9 (.lit 0) (.var 10) (.var 11)), (.sl 12 (.lit 0) (.var 13) (.var 14)), (.int .i64 (.var 15))], 28⟩]))
 (.call false 6 [(.sl 0 (.lit 0) (.var 1) (.var 2)), (.sl 3 (.lit 0) (.var 4) (.var 5)), (.sl 6 (.lit 0) (.var 7) (.var 8)), (.sl 9 (.lit 0) (.var 10) (.var 11)), (.agg [(.sl 12 (.lit 0) (.var 13) (.var 14)), (.int .i64 (.var 15))])] (.tup [(.int .i64), (.int .i64)]) [⟨[(.sl 0 (.lit 0) (.var 1) (.var 2)), (.sl 3 (.lit 0) (.var 4) (.var 5)), (.sl 6 (.lit 0) (.var 7) (.var 8)), (.sl 9 (.lit 0) (.var 10) (.var 11)), (.sl 12 (.lit 0) (.var 13) (.var 14)), (.int .i64 (.var 15))], 28⟩]
 (.call false 7 [(.sl 0 (.lit 0) (.var 1) (.var 2)), (.sl 3 (.lit 0) (.var 4) (.var 5)), (.sl 6 (.lit 0) (.var 7) (.var 8)), (.sl 9 (.lit 0) (.var 10) (.var 11)), (.agg [(.sl 12 (.lit 0) (.var 13) (.var 14)), (.int .i64 (.var 15))])] (.tup [(.int .i64), (.int .i64)]) [⟨[(.sl 0 (.lit 0) (.var 1) (.var 2)), (.sl 3 (.lit 0) (.var 4) (.var 5)), (.sl 6 (.lit 0) (.var 7) (.var 8)), (.sl 9 (.lit 0) (.var 10) (.var 11)), (.sl 12 (.lit 0) (.var 13) (.var 14)), (.int .i64 (.var 15))], 28⟩]
 (.join 0 [.bool] [⟨[(.sl 0 (.lit 0) (.var 1) (.var 2)), (.sl 3 (.lit 0) (.var 4) (.var 5)), (.sl 6 (.lit 0) (.var 7) (.var 8)), (.sl 9 (.lit 0) (.var 10) (.var 11)), (.sl 12 (.lit 0) (.var 13) (.var 14)), (.int .i64 (.var 15))], 28⟩]
 (.ite (.pick (.cmp .eql (.var 17) (.var 19)) (.cmp .eql (.var 18) (.var 20)) (.lit false))
 (.call false 5 [] .bool [⟨[(.sl 0 (.lit 0) (.var 1) (.var 2)), (.sl 3 (.lit 0) (.var 4) (.var 5)), (.sl 6 (.lit 0) (.var 7) (.var 8)), (.sl 9 (.lit 0) (.var 10) (.var 11)), (.sl 12 (.lit 0) (.var 13) (.var 14)), (.int .i64 (.var 15))], 28⟩]
 (.again 0 1 [.bool] [(.bool (.var 21))] [⟨[(.sl 0 (.lit 0) (.var 1) (.var 2)), (.sl 3 (.lit 0) (.var 4) (.var 5)), (.sl 6 (.lit 0) (.var 7) (.var 8)), (.sl 9 (.lit 0) (.var 10) (.var 11)), (.sl 12 (.lit 0) (.var 13) (.var 14)), (.int .i64 (.var 15))], 28⟩]))
 (.again 0 1 [.bool] [(.bool (.lit false))] [⟨[(.sl 0 (.lit 0) (.var 1) (.var 2)), (.sl 3 (.lit 0) (.var 4) (.var 5)), (.sl 6 (.lit 0) (.var 7) (.var 8)), (.sl 9 (.lit 0) (.var 10) (.var 11)), (.sl 12 (.lit 0) (.var 13) (.var 14)), (.int .i64 (.var 15))], 28⟩]))
 (.ret (.bool (.var 21)) [⟨[(.sl 0 (.lit 0) (.var 1) (.var 2)), (.sl 3 (.lit 0) (.var 4) (.var 5)), (.sl 6 (.lit 0) (.var 7) (.var 8)), (.sl 9 (.lit 0) (.var 10) (.var 11)), (.sl 12 (.lit 0) (.var 13) (.var 14)), (.int .i64 (.var 15))], 28⟩])))))))
theorem S_law30_AnalogyCosts : FnIs Tryz.prog n_law30_AnalogyCosts [(.agg [.sl, .sl, .sl, .sl, .sl, (.int .i64)])] T_law30_AnalogyCosts := ⟨Tryz.f3, [{ key := 200001, tmps := [(28, .bool)], join := true, dead := 590295810358437216128 }, { key := 200005, tmps := [], join := true }], 4000, Tryz.func3, by kernel_rfl⟩
end Go.Proofs.YtpbbnmjkbfbelaaGreatDoor
