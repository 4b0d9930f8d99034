/- The trees of this seat's functions, printed by a program of mine (SyGen), checked here by the kernel. -/
import Derived.Test.YtpbbnmjkbfbelaaGreatDoorSyDef
import Derived.Test.YtpbbnmjkbfbelaaGreatDoorProg
import Derived.KernelRfl
set_option maxRecDepth 100000
namespace Go.Proofs.YtpbbnmjkbfbelaaGreatDoor
open Go Go.Sy
abbrev n_ref30_check : FuncId := 27
def T_ref30_check : Tree :=
 (.chk (.cmp .geq (.var 1) (.lit 0))
 (.ite (.cmp .gtr (.var 1) (.lit 256))
 (.ret (.int .i64 (.lit 12)) [])
 (.loop 0 [(.int .i64), (.int .i64)] [(.int .i64 (.lit 0)), (.int .i64 (.lit 0))] [] []
 (.chk (.cmp .geq (.var 1) (.lit 0))
 (.ite (.cmp .lss (.var 7) (.var 1))
 (.chk (.pick (.cmp .geq (.var 7) (.lit 0)) (.pick (.cmp .lss (.var 7) (.var 1)) (.some 0) (.lit false)) (.lit false))
 (.chk (.pick (.cmp .geq (.off (.var 7) 2 (.lit 0)) (.lit 0)) (.some 0) (.lit false))
 (.load 0 (.off (.var 7) 2 (.lit 0)) [.sl] []
 (.chk (.pick (.cmp .geq (.var 7) (.lit 0)) (.pick (.cmp .lss (.var 7) (.var 1)) (.some 0) (.lit false)) (.lit false))
 (.chk (.pick (.cmp .geq (.off (.var 7) 2 (.lit 0)) (.lit 0)) (.some 0) (.lit false))
 (.load 0 (.off (.lit 1) 1 (.off (.var 7) 2 (.lit 0))) [.sl] []
 (.alloc
 (.call false 56 [(.slc 0 0 2 2)] (.int .i64) [⟨[(.sl 8 (.lit 0) (.var 9) (.var 10)), (.sl 11 (.lit 0) (.var 12) (.var 13))], 23⟩]
 (.ite (.cmp .neq (.var 14) (.lit 0))
 (.ret (.int .i64 (.var 14)) [⟨[(.sl 8 (.lit 0) (.var 9) (.var 10)), (.sl 11 (.lit 0) (.var 12) (.var 13))], 23⟩])
 (.again 0 0 [(.int .i64), (.int .i64)] [(.int .i64 (.var 6)), (.int .i64 (.bin .add .i64 (.var 7) (.lit 1)))] [⟨[(.sl 8 (.lit 0) (.var 9) (.var 10)), (.sl 11 (.lit 0) (.var 12) (.var 13))], 23⟩]))))))))))
 (.call false 56 [(.sl 3 (.lit 0) (.var 4) (.var 5))] (.int .i64) []
 (.ret (.int .i64 (.var 8)) [])))))))
theorem S_ref30_check : FnIs Tryz.prog n_ref30_check [.sl, .sl] T_ref30_check := ⟨Tryz.f27, [], 4000, Tryz.func27, by kernel_rfl⟩
abbrev n_ref18_Score : FuncId := 29
def T_ref18_Score : Tree :=
 (.alloc
 (.call false 26 [(.agg [(.sl 6 (.lit 0) (.var 7) (.var 8)), (.int .i64 (.var 9))])] (.int .i64) [⟨[(.sl 6 (.lit 0) (.var 7) (.var 8)), (.int .i64 (.var 9))], 26⟩]
 (.ite (.cmp .eql (.var 10) (.lit 0))
 (.call false 59 [(.sl 0 (.lit 0) (.var 1) (.var 2)), (.sl 3 (.lit 0) (.var 4) (.var 5))] (.int .i64) [⟨[(.sl 6 (.lit 0) (.var 7) (.var 8)), (.int .i64 (.var 9))], 26⟩]
 (.ite (.cmp .neq (.var 11) (.lit 0))
 (.ret (.tup [(.int .i64 (.lit 0)), (.int .i64 (.var 11))]) [⟨[(.sl 6 (.lit 0) (.var 7) (.var 8)), (.int .i64 (.var 9))], 26⟩])
 (.call false 60 [(.sl 0 (.lit 0) (.var 1) (.var 2)), (.sl 3 (.lit 0) (.var 4) (.var 5)), (.agg [(.sl 6 (.lit 0) (.var 7) (.var 8)), (.int .i64 (.var 9))])] (.int .i64) [⟨[(.sl 6 (.lit 0) (.var 7) (.var 8)), (.int .i64 (.var 9))], 26⟩]
 (.ret (.tup [(.int .i64 (.var 12)), (.int .i64 (.lit 0))]) [⟨[(.sl 6 (.lit 0) (.var 7) (.var 8)), (.int .i64 (.var 9))], 26⟩]))))
 (.ite (.cmp .neq (.var 10) (.lit 0))
 (.ret (.tup [(.int .i64 (.lit 0)), (.int .i64 (.var 10))]) [⟨[(.sl 6 (.lit 0) (.var 7) (.var 8)), (.int .i64 (.var 9))], 26⟩])
 (.call false 60 [(.sl 0 (.lit 0) (.var 1) (.var 2)), (.sl 3 (.lit 0) (.var 4) (.var 5)), (.agg [(.sl 6 (.lit 0) (.var 7) (.var 8)), (.int .i64 (.var 9))])] (.int .i64) [⟨[(.sl 6 (.lit 0) (.var 7) (.var 8)), (.int .i64 (.var 9))], 26⟩]
 (.ret (.tup [(.int .i64 (.var 11)), (.int .i64 (.lit 0))]) [⟨[(.sl 6 (.lit 0) (.var 7) (.var 8)), (.int .i64 (.var 9))], 26⟩]))))))
theorem S_ref18_Score : FnIs Tryz.prog n_ref18_Score [.sl, .sl, (.agg [.sl, (.int .i64)])] T_ref18_Score := ⟨Tryz.f29, [], 4000, Tryz.func29, by kernel_rfl⟩
abbrev n_ref30_count : FuncId := 30
def T_ref30_count : Tree :=
 (.loop 0 [(.int .i64), (.int .i64)] [(.int .i64 (.lit 0)), (.int .i64 (.lit 0))] [] []
 (.chk (.cmp .geq (.var 1) (.lit 0))
 (.ite (.cmp .lss (.var 10) (.var 1))
 (.chk (.pick (.cmp .geq (.var 10) (.lit 0)) (.pick (.cmp .lss (.var 10) (.var 1)) (.some 0) (.lit false)) (.lit false))
 (.load 0 (.off (.var 10) 2 (.lit 0)) [.sl, .sl] []
 (.call false 61 [(.agg [(.sl 11 (.lit 0) (.var 12) (.var 13)), (.sl 14 (.lit 0) (.var 15) (.var 16))]), (.sl 3 (.lit 0) (.var 4) (.var 5)), (.sl 6 (.lit 0) (.var 7) (.var 8))] .bool []
 (.join 1 [(.int .i64)] []
 (.ite (.var 17)
 (.again 1 0 [(.int .i64)] [(.int .i64 (.bin .add .i64 (.var 9) (.lit 1)))] [])
 (.again 1 0 [(.int .i64)] [(.int .i64 (.var 9))] []))
 (.again 0 0 [(.int .i64), (.int .i64)] [(.int .i64 (.var 18)), (.int .i64 (.bin .add .i64 (.var 10) (.lit 1)))] [])))))
 (.ret (.int .i64 (.var 9)) []))))
theorem S_ref30_count : FnIs Tryz.prog n_ref30_count [.sl, .sl, .sl] T_ref30_count := ⟨Tryz.f30, [{ key := 6, tmps := [], join := true, dead := 31452728 }], 4000, Tryz.func30, by kernel_rfl⟩
abbrev n_ref30_words : FuncId := 56
def T_ref30_words : Tree :=
 (.loop 0 [(.int .i64), (.int .i64)] [(.int .i64 (.lit 0)), (.int .i64 (.lit 0))] [] []
 (.chk (.cmp .geq (.var 1) (.lit 0))
 (.ite (.cmp .lss (.var 4) (.var 1))
 (.chk (.pick (.cmp .geq (.var 4) (.lit 0)) (.pick (.cmp .lss (.var 4) (.var 1)) (.some 0) (.lit false)) (.lit false))
 (.load 0 (.off (.var 4) 1 (.lit 0)) [.sl] []
 (.call false 74 [(.sl 5 (.lit 0) (.var 6) (.var 7))] (.int .i64) []
 (.ite (.cmp .neq (.var 8) (.lit 0))
 (.ret (.int .i64 (.var 8)) [])
 (.again 0 0 [(.int .i64), (.int .i64)] [(.int .i64 (.var 3)), (.int .i64 (.bin .add .i64 (.var 4) (.lit 1)))] [])))))
 (.ret (.int .i64 (.lit 0)) []))))
theorem S_ref30_words : FnIs Tryz.prog n_ref30_words [.sl] T_ref30_words := ⟨Tryz.f56, [], 4000, Tryz.func56, by kernel_rfl⟩
abbrev n_ref18_words : FuncId := 57
def T_ref18_words : Tree :=
 (.chk (.cmp .geq (.var 1) (.lit 0))
 (.ite (.cmp .gtr (.var 1) (.var 3))
 (.ret (.int .i64 (.lit 12)) [])
 (.loop 0 [(.int .i64), (.int .i64)] [(.int .i64 (.lit 0)), (.int .i64 (.lit 0))] [] []
 (.chk (.cmp .geq (.var 1) (.lit 0))
 (.ite (.cmp .lss (.var 5) (.var 1))
 (.chk (.pick (.cmp .geq (.var 5) (.lit 0)) (.pick (.cmp .lss (.var 5) (.var 1)) (.some 0) (.lit false)) (.lit false))
 (.load 0 (.off (.var 5) 1 (.lit 0)) [.sl] []
 (.call false 74 [(.sl 6 (.lit 0) (.var 7) (.var 8))] (.int .i64) []
 (.ite (.cmp .neq (.var 9) (.lit 0))
 (.ret (.int .i64 (.var 9)) [])
 (.again 0 0 [(.int .i64), (.int .i64)] [(.int .i64 (.var 4)), (.int .i64 (.bin .add .i64 (.var 5) (.lit 1)))] [])))))
 (.ret (.int .i64 (.lit 0)) []))))))
theorem S_ref18_words : FnIs Tryz.prog n_ref18_words [.sl, (.int .i64)] T_ref18_words := ⟨Tryz.f57, [], 4000, Tryz.func57, by kernel_rfl⟩
abbrev n_ref18_check : FuncId := 59
def T_ref18_check : Tree :=
 (.call false 57 [(.sl 0 (.lit 0) (.var 1) (.var 2)), (.int .i64 (.lit 8))] (.int .i64) []
 (.ite (.cmp .eql (.var 6) (.lit 0))
 (.call false 78 [(.sl 0 (.lit 0) (.var 1) (.var 2)), (.sl 3 (.lit 0) (.var 4) (.var 5))] .bool []
 (.ite (.not (.var 7))
 (.ret (.int .i64 (.lit 8)) [])
 (.ret (.int .i64 (.var 6)) [])))
 (.ret (.int .i64 (.var 6)) [])))
theorem S_ref18_check : FnIs Tryz.prog n_ref18_check [.sl, .sl] T_ref18_check := ⟨Tryz.f59, [], 4000, Tryz.func59, by kernel_rfl⟩
abbrev n_ref18_cost : FuncId := 60
def T_ref18_cost : Tree :=
 (.alloc
 (.loop 0 [(.int .i64), (.int .i64)] [(.int .i64 (.lit 0)), (.int .i64 (.lit 0))] [⟨[(.sl 6 (.lit 0) (.var 7) (.var 8)), (.int .i64 (.var 9))], 26⟩] [⟨[(.sl 6 (.lit 0) (.var 7) (.var 8)), (.int .i64 (.var 9))], 26⟩]
 (.chk (.cmp .geq (.var 4) (.lit 0))
 (.ite (.cmp .lss (.var 11) (.var 4))
 (.chk (.pick (.cmp .geq (.var 11) (.lit 0)) (.pick (.cmp .lss (.var 11) (.var 4)) (.some 3) (.lit false)) (.lit false))
 (.load 3 (.off (.var 11) 1 (.lit 0)) [.sl] [⟨[(.sl 6 (.lit 0) (.var 7) (.var 8)), (.int .i64 (.var 9))], 26⟩]
 (.call false 76 [(.sl 0 (.lit 0) (.var 1) (.var 2)), (.sl 12 (.lit 0) (.var 13) (.var 14)), (.agg [(.sl 6 (.lit 0) (.var 7) (.var 8)), (.int .i64 (.var 9))])] (.int .i64) [⟨[(.sl 6 (.lit 0) (.var 7) (.var 8)), (.int .i64 (.var 9))], 26⟩]
 (.again 0 1 [(.int .i64), (.int .i64)] [(.int .i64 (.bin .add .i64 (.var 10) (.var 15))), (.int .i64 (.bin .add .i64 (.var 11) (.lit 1)))] [⟨[(.sl 6 (.lit 0) (.var 7) (.var 8)), (.int .i64 (.var 9))], 26⟩]))))
 (.ret (.int .i64 (.var 10)) [⟨[(.sl 6 (.lit 0) (.var 7) (.var 8)), (.int .i64 (.var 9))], 26⟩])))))
theorem S_ref18_cost : FnIs Tryz.prog n_ref18_cost [.sl, .sl, (.agg [.sl, (.int .i64)])] T_ref18_cost := ⟨Tryz.f60, [], 4000, Tryz.func60, by kernel_rfl⟩
abbrev n_ref30_supports : FuncId := 61
def T_ref30_supports : Tree :=
 (.alloc
 (.call false 79 [(.sl 0 (.lit 0) (.var 1) (.var 2)), (.sl 3 (.lit 0) (.var 4) (.var 5)), (.sl 6 (.lit 0) (.var 7) (.var 8))] (.tup [.sl, .bool]) [⟨[(.sl 0 (.lit 0) (.var 1) (.var 2)), (.sl 3 (.lit 0) (.var 4) (.var 5))], 36⟩]
 (.ite (.var 15)
 (.call false 16 [(.sl 12 (.lit 0) (.var 13) (.var 14)), (.sl 9 (.lit 0) (.var 10) (.var 11))] .bool [⟨[(.sl 0 (.lit 0) (.var 1) (.var 2)), (.sl 3 (.lit 0) (.var 4) (.var 5))], 36⟩]
 (.ite (.var 16)
 (.ret (.bool (.lit true)) [⟨[(.sl 0 (.lit 0) (.var 1) (.var 2)), (.sl 3 (.lit 0) (.var 4) (.var 5))], 36⟩])
 (.call false 80 [(.sl 0 (.lit 0) (.var 1) (.var 2)), (.sl 3 (.lit 0) (.var 4) (.var 5)), (.sl 6 (.lit 0) (.var 7) (.var 8))] (.tup [.sl, .bool]) [⟨[(.sl 0 (.lit 0) (.var 1) (.var 2)), (.sl 3 (.lit 0) (.var 4) (.var 5))], 36⟩]
 (.ite (.var 20)
 (.call false 16 [(.sl 17 (.lit 0) (.var 18) (.var 19)), (.sl 9 (.lit 0) (.var 10) (.var 11))] .bool [⟨[(.sl 0 (.lit 0) (.var 1) (.var 2)), (.sl 3 (.lit 0) (.var 4) (.var 5))], 36⟩]
 (.ret (.bool (.var 21)) [⟨[(.sl 0 (.lit 0) (.var 1) (.var 2)), (.sl 3 (.lit 0) (.var 4) (.var 5))], 36⟩]))
 (.ret (.bool (.lit false)) [⟨[(.sl 0 (.lit 0) (.var 1) (.var 2)), (.sl 3 (.lit 0) (.var 4) (.var 5))], 36⟩])))))
 (.call false 80 [(.sl 0 (.lit 0) (.var 1) (.var 2)), (.sl 3 (.lit 0) (.var 4) (.var 5)), (.sl 6 (.lit 0) (.var 7) (.var 8))] (.tup [.sl, .bool]) [⟨[(.sl 0 (.lit 0) (.var 1) (.var 2)), (.sl 3 (.lit 0) (.var 4) (.var 5))], 36⟩]
 (.ite (.var 19)
 (.call false 16 [(.sl 16 (.lit 0) (.var 17) (.var 18)), (.sl 9 (.lit 0) (.var 10) (.var 11))] .bool [⟨[(.sl 0 (.lit 0) (.var 1) (.var 2)), (.sl 3 (.lit 0) (.var 4) (.var 5))], 36⟩]
 (.ret (.bool (.var 20)) [⟨[(.sl 0 (.lit 0) (.var 1) (.var 2)), (.sl 3 (.lit 0) (.var 4) (.var 5))], 36⟩]))
 (.ret (.bool (.lit false)) [⟨[(.sl 0 (.lit 0) (.var 1) (.var 2)), (.sl 3 (.lit 0) (.var 4) (.var 5))], 36⟩]))))))
theorem S_ref30_supports : FnIs Tryz.prog n_ref30_supports [(.agg [.sl, .sl]), .sl, .sl] T_ref30_supports := ⟨Tryz.f61, [], 4000, Tryz.func61, by kernel_rfl⟩
abbrev n_ref18_column : FuncId := 76
def T_ref18_column : Tree :=
 (.alloc
 (.loop 0 [(.int .i64), (.int .i64)] [(.int .i64 (.lit 0)), (.int .i64 (.lit 0))] [⟨[(.sl 6 (.lit 0) (.var 7) (.var 8)), (.int .i64 (.var 9))], 26⟩] [⟨[(.sl 6 (.lit 0) (.var 7) (.var 8)), (.int .i64 (.var 9))], 26⟩]
 (.chk (.cmp .geq (.var 1) (.lit 0))
 (.ite (.cmp .lss (.var 11) (.var 1))
 (.loop 1 [(.int .i64), (.int .i64)] [(.int .i64 (.var 10)), (.int .i64 (.bin .add .i64 (.var 11) (.lit 1)))] [⟨[(.sl 6 (.lit 0) (.var 7) (.var 8)), (.int .i64 (.var 9))], 26⟩] [⟨[(.sl 6 (.lit 0) (.var 7) (.var 8)), (.int .i64 (.var 9))], 26⟩]
 (.chk (.cmp .geq (.var 1) (.lit 0))
 (.ite (.cmp .lss (.var 13) (.var 1))
 (.chk (.pick (.cmp .geq (.var 11) (.lit 0)) (.pick (.cmp .lss (.var 11) (.var 1)) (.some 0) (.lit false)) (.lit false))
 (.load 0 (.off (.var 11) 1 (.lit 0)) [.sl] [⟨[(.sl 6 (.lit 0) (.var 7) (.var 8)), (.int .i64 (.var 9))], 26⟩]
 (.chk (.pick (.cmp .geq (.var 13) (.lit 0)) (.pick (.cmp .lss (.var 13) (.var 1)) (.some 0) (.lit false)) (.lit false))
 (.load 0 (.off (.var 13) 1 (.lit 0)) [.sl] [⟨[(.sl 6 (.lit 0) (.var 7) (.var 8)), (.int .i64 (.var 9))], 26⟩]
 (.chk (.pick (.cmp .geq (.var 11) (.lit 0)) (.pick (.cmp .lss (.var 11) (.var 4)) (.some 3) (.lit false)) (.lit false))
 (.load 3 (.off (.var 11) 1 (.lit 0)) [(.int .i64)] [⟨[(.sl 6 (.lit 0) (.var 7) (.var 8)), (.int .i64 (.var 9))], 26⟩]
 (.chk (.pick (.cmp .geq (.var 13) (.lit 0)) (.pick (.cmp .lss (.var 13) (.var 4)) (.some 3) (.lit false)) (.lit false))
 (.load 3 (.off (.var 13) 1 (.lit 0)) [(.int .i64)] [⟨[(.sl 6 (.lit 0) (.var 7) (.var 8)), (.int .i64 (.var 9))], 26⟩]
 (.call false 93 [(.sl 14 (.lit 0) (.var 15) (.var 16)), (.sl 17 (.lit 0) (.var 18) (.var 19)), (.int .i64 (.var 20)), (.int .i64 (.var 21)), (.agg [(.sl 6 (.lit 0) (.var 7) (.var 8)), (.int .i64 (.var 9))])] (.int .i64) [⟨[(.sl 6 (.lit 0) (.var 7) (.var 8)), (.int .i64 (.var 9))], 26⟩]
 (.again 1 1 [(.int .i64), (.int .i64)] [(.int .i64 (.bin .add .i64 (.var 12) (.var 22))), (.int .i64 (.bin .add .i64 (.var 13) (.lit 1)))] [⟨[(.sl 6 (.lit 0) (.var 7) (.var 8)), (.int .i64 (.var 9))], 26⟩]))))))))))
 (.again 0 1 [(.int .i64), (.int .i64)] [(.int .i64 (.var 12)), (.int .i64 (.bin .add .i64 (.var 11) (.lit 1)))] [⟨[(.sl 6 (.lit 0) (.var 7) (.var 8)), (.int .i64 (.var 9))], 26⟩]))))
 (.ret (.int .i64 (.var 10)) [⟨[(.sl 6 (.lit 0) (.var 7) (.var 8)), (.int .i64 (.var 9))], 26⟩])))))
theorem S_ref18_column : FnIs Tryz.prog n_ref18_column [.sl, .sl, (.agg [.sl, (.int .i64)])] T_ref18_column := ⟨Tryz.f76, [], 4000, Tryz.func76, by kernel_rfl⟩
abbrev n_ref18_Is : FuncId := 78
def T_ref18_Is : Tree :=
 (.loop 0 [.bool, (.int .i64)] [(.bool (.lit false)), (.int .i64 (.lit 0))] [] []
 (.chk (.cmp .geq (.var 4) (.lit 0))
 (.ite (.cmp .lss (.var 7) (.var 4))
 (.chk (.pick (.cmp .geq (.var 7) (.lit 0)) (.pick (.cmp .lss (.var 7) (.var 4)) (.some 3) (.lit false)) (.lit false))
 (.load 3 (.off (.var 7) 1 (.lit 0)) [.sl] []
 (.chk (.cmp .geq (.var 9) (.lit 0))
 (.chk (.cmp .geq (.var 1) (.lit 0))
 (.ite (.cmp .neq (.var 9) (.var 1))
 (.ret (.bool (.lit false)) [])
 (.loop 1 [(.int .i64), (.int .i64)] [(.int .i64 (.lit 0)), (.int .i64 (.lit 0))] [] []
 (.chk (.cmp .geq (.var 1) (.lit 0))
 (.ite (.cmp .lss (.var 12) (.var 1))
 (.chk (.pick (.cmp .geq (.var 7) (.lit 0)) (.pick (.cmp .lss (.var 7) (.var 4)) (.some 3) (.lit false)) (.lit false))
 (.load 3 (.off (.var 7) 1 (.lit 0)) [.sl] []
 (.chk (.pick (.cmp .geq (.var 12) (.lit 0)) (.pick (.cmp .lss (.var 12) (.var 14)) (.some 13) (.lit false)) (.lit false))
 (.load 13 (.off (.var 12) 1 (.lit 0)) [(.int .i64)] []
 (.ite (.cmp .neq (.var 16) (.lit (-1)))
 (.again 1 0 [(.int .i64), (.int .i64)] [(.int .i64 (.bin .add .i64 (.var 11) (.lit 1))), (.int .i64 (.bin .add .i64 (.var 12) (.lit 1)))] [])
 (.again 1 0 [(.int .i64), (.int .i64)] [(.int .i64 (.var 11)), (.int .i64 (.bin .add .i64 (.var 12) (.lit 1)))] []))))))
 (.ite (.cmp .eql (.var 11) (.lit 0))
 (.ret (.bool (.lit false)) [])
 (.again 0 0 [.bool, (.int .i64)] [(.bool (.var 6)), (.int .i64 (.bin .add .i64 (.var 7) (.lit 1)))] []))))))))))
 (.loop 0 [.bool, (.int .i64)] [(.bool (.var 6)), (.int .i64 (.lit 0))] [] []
 (.chk (.cmp .geq (.var 1) (.lit 0))
 (.ite (.cmp .lss (.var 9) (.var 1))
 (.loop 1 [.bool, (.int .i64), (.int .i64)] [(.bool (.var 8)), (.int .i64 (.lit 0)), (.int .i64 (.lit 0))] [] []
 (.chk (.cmp .geq (.var 4) (.lit 0))
 (.ite (.cmp .lss (.var 12) (.var 4))
 (.chk (.pick (.cmp .geq (.var 12) (.lit 0)) (.pick (.cmp .lss (.var 12) (.var 4)) (.some 3) (.lit false)) (.lit false))
 (.load 3 (.off (.var 12) 1 (.lit 0)) [.sl] []
 (.chk (.pick (.cmp .geq (.var 9) (.lit 0)) (.pick (.cmp .lss (.var 9) (.var 14)) (.some 13) (.lit false)) (.lit false))
 (.load 13 (.off (.var 9) 1 (.lit 0)) [(.int .i64)] []
 (.ite (.cmp .eql (.var 16) (.lit (-1)))
 (.again 1 0 [.bool, (.int .i64), (.int .i64)] [(.bool (.var 10)), (.int .i64 (.var 11)), (.int .i64 (.bin .add .i64 (.var 12) (.lit 1)))] [])
 (.chk (.pick (.cmp .geq (.var 12) (.lit 0)) (.pick (.cmp .lss (.var 12) (.var 4)) (.some 3) (.lit false)) (.lit false))
 (.load 3 (.off (.var 12) 1 (.lit 0)) [.sl] []
 (.chk (.pick (.cmp .geq (.var 9) (.lit 0)) (.pick (.cmp .lss (.var 9) (.var 18)) (.some 17) (.lit false)) (.lit false))
 (.load 17 (.off (.var 9) 1 (.lit 0)) [(.int .i64)] []
 (.ite (.cmp .neq (.var 20) (.var 11))
 (.ret (.bool (.lit false)) [])
 (.again 1 0 [.bool, (.int .i64), (.int .i64)] [(.bool (.var 10)), (.int .i64 (.bin .add .i64 (.var 11) (.lit 1))), (.int .i64 (.bin .add .i64 (.var 12) (.lit 1)))] [])))))))))))
 (.chk (.pick (.cmp .geq (.var 9) (.lit 0)) (.pick (.cmp .lss (.var 9) (.var 1)) (.some 0) (.lit false)) (.lit false))
 (.load 0 (.off (.var 9) 1 (.lit 0)) [.sl] []
 (.chk (.cmp .geq (.var 14) (.lit 0))
 (.ite (.cmp .neq (.var 11) (.var 14))
 (.ret (.bool (.lit false)) [])
 (.again 0 0 [.bool, (.int .i64)] [(.bool (.var 10)), (.int .i64 (.bin .add .i64 (.var 9) (.lit 1)))] []))))))))
 (.ret (.bool (.lit true)) [])))))))
theorem S_ref18_Is : FnIs Tryz.prog n_ref18_Is [.sl, .sl] T_ref18_Is := ⟨Tryz.f78, [], 4000, Tryz.func78, by kernel_rfl⟩
abbrev n_ref30_solve : FuncId := 79
def T_ref30_solve : Tree :=
 (.loop 0 [(.int .i64)] [(.int .i64 (.lit 0))] [] []
 (.join 1 [.bool] []
 (.chk (.cmp .geq (.var 1) (.lit 0))
 (.ite (.cmp .lss (.var 9) (.var 1))
 (.chk (.cmp .geq (.var 4) (.lit 0))
 (.ite (.cmp .lss (.var 9) (.var 4))
 (.chk (.pick (.cmp .geq (.var 9) (.lit 0)) (.pick (.cmp .lss (.var 9) (.var 1)) (.some 0) (.lit false)) (.lit false))
 (.load 0 (.off (.var 9) 2 (.lit 0)) [(.int .u32), (.int .u32)] []
 (.chk (.pick (.cmp .geq (.var 9) (.lit 0)) (.pick (.cmp .lss (.var 9) (.var 4)) (.some 3) (.lit false)) (.lit false))
 (.load 3 (.off (.var 9) 2 (.lit 0)) [(.int .u32), (.int .u32)] []
 (.again 1 0 [.bool] [(.bool (.pick (.cmp .eql (.var 10) (.var 12)) (.cmp .eql (.var 11) (.var 13)) (.lit false)))] [])))))
 (.again 1 0 [.bool] [(.bool (.lit false))] [])))
 (.again 1 0 [.bool] [(.bool (.lit false))] [])))
 (.ite (.var 10)
 (.again 0 0 [(.int .i64)] [(.int .i64 (.bin .add .i64 (.var 9) (.lit 1)))] [])
 (.chk (.pick (.cmp .leq (.lit 0) (.var 9)) (.pick (.cmp .leq (.var 9) (.var 1)) (.cmp .leq (.var 1) (.var 2)) (.lit false)) (.lit false))
 (.chk (.pick (.cmp .leq (.lit 0) (.var 9)) (.pick (.cmp .leq (.var 9) (.var 4)) (.cmp .leq (.var 4) (.var 5)) (.lit false)) (.lit false))
 (.chk (.cmp .geq (.var 7) (.lit 0))
 (.chk (.cmp .geq (.dif (.var 1) (.var 9)) (.lit 0))
 (.join 0 [.bool] []
 (.ite (.cmp .lss (.bin .sub .i64 (.var 7) (.dif (.var 1) (.var 9))) (.lit 0))
 (.again 0 0 [.bool] [(.bool (.lit true))] [])
 (.chk (.pick (.cmp .leq (.lit 0) (.bin .sub .i64 (.var 7) (.dif (.var 1) (.var 9)))) (.pick (.cmp .leq (.bin .sub .i64 (.var 7) (.dif (.var 1) (.var 9))) (.var 7)) (.cmp .leq (.var 7) (.var 8)) (.lit false)) (.lit false))
 (.call false 16 [(.sl 6 (.ifeq (.var 8) (.bin .sub .i64 (.var 7) (.dif (.var 1) (.var 9))) (.lit 0) (.off (.bin .sub .i64 (.var 7) (.dif (.var 1) (.var 9))) 2 (.lit 0))) (.dif (.var 7) (.bin .sub .i64 (.var 7) (.dif (.var 1) (.var 9)))) (.dif (.var 8) (.bin .sub .i64 (.var 7) (.dif (.var 1) (.var 9))))), (.sl 0 (.ifeq (.var 2) (.var 9) (.lit 0) (.off (.var 9) 2 (.lit 0))) (.dif (.var 1) (.var 9)) (.dif (.var 2) (.var 9)))] .bool []
 (.again 0 0 [.bool] [(.bool (.not (.var 11)))] []))))
 (.ite (.var 11)
 (.ret (.tup [(.cst (.slice none 0 0)), (.bool (.lit false))]) [])
 (.alloc
 (.chk (.pick (.cmp .leq (.lit 0) (.bin .sub .i64 (.var 7) (.dif (.var 1) (.var 9)))) (.cmp .leq (.bin .sub .i64 (.var 7) (.dif (.var 1) (.var 9))) (.var 8)) (.lit false))
 (.ext false ⟨(.call ⟨.builtin .append, #[(.tmp 0), (.tmp 0)], #[23, 23]⟩), 23, [(.slc 0 0 0 0), (.sl 6 (.ifeq (.var 8) (.lit 0) (.lit 0) (.lit 0)) (.bin .sub .i64 (.var 7) (.dif (.var 1) (.var 9))) (.var 8))]⟩ .sl [⟨[], 71⟩]
 (.ext false ⟨(.call ⟨.builtin .append, #[(.tmp 0), (.tmp 0)], #[23, 23]⟩), 23, [(.sl 12 (.lit 0) (.var 13) (.var 14)), (.sl 3 (.ifeq (.var 5) (.var 9) (.lit 0) (.off (.var 9) 2 (.lit 0))) (.dif (.var 4) (.var 9)) (.dif (.var 5) (.var 9)))]⟩ .sl [⟨[], 71⟩]
 (.ret (.tup [(.sl 15 (.lit 0) (.var 16) (.var 17)), (.bool (.lit true))]) [⟨[], 71⟩]))))))))))))))
theorem S_ref30_solve : FnIs Tryz.prog n_ref30_solve [.sl, .sl, .sl] T_ref30_solve := ⟨Tryz.f79, [{ key := 200002, tmps := [(32, .bool)], join := true, dead := 9187343235540840504 }, { key := 200006, tmps := [(55, .bool)], join := true }], 4000, Tryz.func79, by kernel_rfl⟩
abbrev n_ref30_front : FuncId := 80
def T_ref30_front : Tree :=
 (.call false 96 [(.sl 0 (.lit 0) (.var 1) (.var 2))] .sl []
 (.call false 96 [(.sl 3 (.lit 0) (.var 4) (.var 5))] .sl []
 (.call false 96 [(.sl 6 (.lit 0) (.var 7) (.var 8))] .sl []
 (.call false 79 [(.sl 9 (.lit 0) (.var 10) (.var 11)), (.sl 12 (.lit 0) (.var 13) (.var 14)), (.sl 15 (.lit 0) (.var 16) (.var 17))] (.tup [.sl, .bool]) []
 (.call false 96 [(.sl 18 (.lit 0) (.var 19) (.var 20))] .sl []
 (.ret (.tup [(.sl 22 (.lit 0) (.var 23) (.var 24)), (.bool (.var 21))]) []))))))
theorem S_ref30_front : FnIs Tryz.prog n_ref30_front [.sl, .sl, .sl] T_ref30_front := ⟨Tryz.f80, [], 4000, Tryz.func80, by kernel_rfl⟩
abbrev n_ref18_two : FuncId := 93
def T_ref18_two : Tree :=
 (.alloc
 (.ite (.pick (.cmp .lss (.var 6) (.lit 0)) (.cmp .lss (.var 7) (.lit 0)) (.lit false))
 (.ret (.int .i64 (.lit 0)) [⟨[(.sl 8 (.lit 0) (.var 9) (.var 10)), (.int .i64 (.var 11))], 26⟩])
 (.ite (.pick (.cmp .lss (.var 6) (.lit 0)) (.lit true) (.cmp .lss (.var 7) (.lit 0)))
 (.ret (.int .i64 (.var 11)) [⟨[(.sl 8 (.lit 0) (.var 9) (.var 10)), (.int .i64 (.var 11))], 26⟩])
 (.chk (.pick (.cmp .geq (.var 6) (.lit 0)) (.pick (.cmp .lss (.var 6) (.var 1)) (.some 0) (.lit false)) (.lit false))
 (.load 0 (.off (.var 6) 2 (.lit 0)) [(.int .u32), (.int .u32)] [⟨[(.sl 8 (.lit 0) (.var 9) (.var 10)), (.int .i64 (.var 11))], 26⟩]
 (.chk (.pick (.cmp .geq (.var 7) (.lit 0)) (.pick (.cmp .lss (.var 7) (.var 4)) (.some 3) (.lit false)) (.lit false))
 (.load 3 (.off (.var 7) 2 (.lit 0)) [(.int .u32), (.int .u32)] [⟨[(.sl 8 (.lit 0) (.var 9) (.var 10)), (.int .i64 (.var 11))], 26⟩]
 (.call false 102 [(.agg [(.int .u32 (.var 12)), (.int .u32 (.var 13))]), (.agg [(.int .u32 (.var 14)), (.int .u32 (.var 15))]), (.agg [(.sl 8 (.lit 0) (.var 9) (.var 10)), (.int .i64 (.var 11))])] (.tup [(.int .i64), (.int .i64)]) [⟨[(.sl 8 (.lit 0) (.var 9) (.var 10)), (.int .i64 (.var 11))], 26⟩]
 (.ret (.int .i64 (.var 16)) [⟨[(.sl 8 (.lit 0) (.var 9) (.var 10)), (.int .i64 (.var 11))], 26⟩])))))))))
theorem S_ref18_two : FnIs Tryz.prog n_ref18_two [.sl, .sl, (.int .i64), (.int .i64), (.agg [.sl, (.int .i64)])] T_ref18_two := ⟨Tryz.f93, [], 4000, Tryz.func93, by kernel_rfl⟩
abbrev n_ref30_backwards : FuncId := 96
def T_ref30_backwards : Tree :=
 (.chk (.cmp .geq (.var 1) (.lit 0))
 (.loop 0 [.sl, (.int .i64)] [(.cst (.slice none 0 0)), (.int .i64 (.bin .sub .i64 (.var 1) (.lit 1)))] [] []
 (.ite (.cmp .geq (.var 6) (.lit 0))
 (.chk (.pick (.cmp .geq (.var 6) (.lit 0)) (.pick (.cmp .lss (.var 6) (.var 1)) (.some 0) (.lit false)) (.lit false))
 (.load 0 (.off (.var 6) 2 (.lit 0)) [(.int .u32), (.int .u32)] []
 (.alloc
 (.ext false ⟨(.call ⟨.builtin .append, #[(.tmp 0), (.tmp 0)], #[23, 23]⟩), 23, [(.sl 3 (.lit 0) (.var 4) (.var 5)), (.slc 0 0 1 1)]⟩ .sl [⟨[(.int .u32 (.var 7)), (.int .u32 (.var 8))], 71⟩]
 (.again 0 0 [.sl, (.int .i64)] [(.sl 9 (.lit 0) (.var 10) (.var 11)), (.int .i64 (.bin .sub .i64 (.var 6) (.lit 1)))] [⟨[(.int .u32 (.var 7)), (.int .u32 (.var 8))], 71⟩])))))
 (.ret (.sl 3 (.lit 0) (.var 4) (.var 5)) []))))
theorem S_ref30_backwards : FnIs Tryz.prog n_ref30_backwards [.sl] T_ref30_backwards := ⟨Tryz.f96, [], 4000, Tryz.func96, by kernel_rfl⟩
end Go.Proofs.YtpbbnmjkbfbelaaGreatDoor
