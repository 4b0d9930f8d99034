/- The trees of this seat's functions, printed by a program of mine (SyGen), checked here by the kernel. -/
import Derived.Test.YtkhcfbdjmpodbaaDoorSyDef
import Derived.Test.YtkhcfbdjmpodbaaDoorProg
import Derived.KernelRfl
set_option maxRecDepth 100000
namespace Go.Proofs.YtkhcfbdjmpodbaaDoor
open Go Go.Sy
abbrev n_sankoff_Cost : FuncId := 21
def T_sankoff_Cost : Tree :=
 (.call false 42 [(.sl 3 (.lit 0) (.var 4) (.var 5))] .bool []
 (.call false 41 [(.sl 0 (.lit 0) (.var 1) (.var 2)), (.sl 6 (.lit 0) (.var 7) (.var 8)), (.bool (.not (.var 9)))] (.int .i64) []
 (.ite (.cmp .neq (.var 10) (.lit 0))
 (.ret (.tup [(.int .i64 (.lit 0)), (.int .i64 (.var 10))]) [])
 (.chk (.cmp .geq (.var 7) (.lit 0))
 (.loop 0 [(.int .i64), (.int .i64), (.int .i64)] [(.int .i64 (.lit 0)), (.int .i64 (.lit 0)), (.int .i64 (.lit 0))] [] []
 (.ite (.cmp .lss (.var 13) (.var 7))
 (.chk (.pick (.cmp .geq (.var 13) (.lit 0)) (.pick (.cmp .lss (.var 13) (.var 7)) (.some 6) (.lit false)) (.lit false))
 (.load 6 (.off (.var 13) 1 (.lit 0)) [(.int .i64)] []
 (.ite (.cmp .lss (.var 14) (.lit 0))
 (.ret (.tup [(.int .i64 (.lit 0)), (.int .i64 (.lit 3))]) [])
 (.chk (.cmp .geq (.var 4) (.lit 0))
 (.ite (.cmp .geq (.var 14) (.var 4))
 (.ret (.tup [(.int .i64 (.lit 0)), (.int .i64 (.lit 3))]) [])
 (.again 0 0 [(.int .i64), (.int .i64), (.int .i64)] [(.int .i64 (.var 11)), (.int .i64 (.var 12)), (.int .i64 (.bin .add .i64 (.var 13) (.lit 1)))] []))))))
 (.loop 0 [(.int .i64), (.int .i64), (.int .i64), (.int .i64)] [(.int .i64 (.var 11)), (.int .i64 (.var 12)), (.int .i64 (.lit 0)), (.int .i64 (.lit 1))] [] []
 (.chk (.cmp .geq (.var 1) (.lit 0))
 (.ite (.cmp .lss (.var 17) (.var 1))
 (.chk (.pick (.cmp .geq (.var 17) (.lit 0)) (.pick (.cmp .lss (.var 17) (.var 1)) (.some 0) (.lit false)) (.lit false))
 (.chk (.pick (.cmp .geq (.off (.var 17) 2 (.lit 0)) (.lit 0)) (.some 0) (.lit false))
 (.load 0 (.off (.var 17) 2 (.lit 0)) [(.int .i64)] []
 (.chk (.pick (.cmp .geq (.var 18) (.lit 0)) (.pick (.cmp .lss (.var 18) (.var 7)) (.some 6) (.lit false)) (.lit false))
 (.load 6 (.off (.var 18) 1 (.lit 0)) [(.int .i64)] []
 (.chk (.pick (.cmp .geq (.var 19) (.lit 0)) (.pick (.cmp .lss (.var 19) (.var 4)) (.some 3) (.lit false)) (.lit false))
 (.load 3 (.off (.var 19) 1 (.lit 0)) [.sl] []
 (.chk (.pick (.cmp .geq (.var 17) (.lit 0)) (.pick (.cmp .lss (.var 17) (.var 7)) (.some 6) (.lit false)) (.lit false))
 (.load 6 (.off (.var 17) 1 (.lit 0)) [(.int .i64)] []
 (.chk (.pick (.cmp .geq (.var 23) (.lit 0)) (.pick (.cmp .lss (.var 23) (.var 21)) (.some 20) (.lit false)) (.lit false))
 (.load 20 (.off (.var 23) 1 (.lit 0)) [(.int .i64)] []
 (.ite (.cmp .eql (.var 24) (.lit (-1)))
 (.ret (.tup [(.int .i64 (.lit 0)), (.int .i64 (.lit 5))]) [])
 (.again 0 0 [(.int .i64), (.int .i64), (.int .i64), (.int .i64)] [(.int .i64 (.var 14)), (.int .i64 (.var 15)), (.int .i64 (.bin .add .i64 (.var 16) (.var 24))), (.int .i64 (.bin .add .i64 (.var 17) (.lit 1)))] [])))))))))))))
 (.ret (.tup [(.int .i64 (.var 16)), (.int .i64 (.lit 0))]) []))))))))))
theorem S_sankoff_Cost : FnIs Tryd.prog n_sankoff_Cost [.sl, .sl, .sl] T_sankoff_Cost := ⟨Tryd.f21, [], 4000, Tryd.func21, by kernel_rfl⟩
abbrev n_sankoff_Roots : FuncId := 36
def T_sankoff_Roots : Tree :=
 (.call false 51 [(.sl 0 (.lit 0) (.var 1) (.var 2)), (.sl 3 (.lit 0) (.var 4) (.var 5)), (.sl 6 (.lit 0) (.var 7) (.var 8))] (.tup [(.agg [.sl, .sl, .sl]), (.int .i64)]) []
 (.alloc
 (.ite (.cmp .neq (.var 18) (.lit 0))
 (.ret (.tup [(.cst (.slice none 0 0)), (.int .i64 (.var 18))]) [⟨[(.sl 9 (.lit 0) (.var 10) (.var 11)), (.sl 12 (.lit 0) (.var 13) (.var 14)), (.sl 15 (.lit 0) (.var 16) (.var 17))], 121⟩])
 (.call false 52 [(.agg [(.sl 9 (.lit 0) (.var 10) (.var 11)), (.sl 12 (.lit 0) (.var 13) (.var 14)), (.sl 15 (.lit 0) (.var 16) (.var 17))])] (.tup [(.int .i64), (.int .i64)]) [⟨[(.sl 9 (.lit 0) (.var 10) (.var 11)), (.sl 12 (.lit 0) (.var 13) (.var 14)), (.sl 15 (.lit 0) (.var 16) (.var 17))], 121⟩]
 (.chk (.cmp .geq (.var 4) (.lit 0))
 (.loop 0 [.sl, (.int .i64)] [(.cst (.slice none 0 0)), (.int .i64 (.lit 0))] [⟨[(.sl 9 (.lit 0) (.var 10) (.var 11)), (.sl 12 (.lit 0) (.var 13) (.var 14)), (.sl 15 (.lit 0) (.var 16) (.var 17))], 121⟩] [⟨[(.sl 9 (.lit 0) (.var 10) (.var 11)), (.sl 12 (.lit 0) (.var 13) (.var 14)), (.sl 15 (.lit 0) (.var 16) (.var 17))], 121⟩]
 (.ite (.cmp .lss (.var 24) (.var 4))
 (.chk (.pick (.cmp .lss (.lit 0) (.var 16)) (.some 15) (.lit false))
 (.chk (.pick (.cmp .geq (.var 24) (.lit 0)) (.pick (.cmp .lss (.var 24) (.lit 12)) (.some 15) (.lit false)) (.lit false))
 (.load 15 (.off (.var 24) 1 (.lit 0)) [(.int .i64)] [⟨[(.sl 9 (.lit 0) (.var 10) (.var 11)), (.sl 12 (.lit 0) (.var 13) (.var 14)), (.sl 15 (.lit 0) (.var 16) (.var 17))], 121⟩]
 (.join 1 [.sl] [⟨[(.sl 9 (.lit 0) (.var 10) (.var 11)), (.sl 12 (.lit 0) (.var 13) (.var 14)), (.sl 15 (.lit 0) (.var 16) (.var 17))], 121⟩]
 (.ite (.cmp .eql (.var 25) (.var 19))
 (.alloc
 (.ext false ⟨(.call ⟨.builtin .append, #[(.tmp 0), (.tmp 0)], #[29, 29]⟩), 29, [(.sl 21 (.lit 0) (.var 22) (.var 23)), (.slc 1 0 1 1)]⟩ .sl [⟨[(.sl 9 (.lit 0) (.var 10) (.var 11)), (.sl 12 (.lit 0) (.var 13) (.var 14)), (.sl 15 (.lit 0) (.var 16) (.var 17))], 121⟩, ⟨[(.int .i64 (.var 24))], 3⟩]
 (.again 1 1 [.sl] [(.sl 26 (.lit 0) (.var 27) (.var 28))] [⟨[(.sl 9 (.lit 0) (.var 10) (.var 11)), (.sl 12 (.lit 0) (.var 13) (.var 14)), (.sl 15 (.lit 0) (.var 16) (.var 17))], 121⟩, ⟨[(.int .i64 (.var 24))], 3⟩])))
 (.again 1 1 [.sl] [(.sl 21 (.lit 0) (.var 22) (.var 23))] [⟨[(.sl 9 (.lit 0) (.var 10) (.var 11)), (.sl 12 (.lit 0) (.var 13) (.var 14)), (.sl 15 (.lit 0) (.var 16) (.var 17))], 121⟩]))
 (.again 0 1 [.sl, (.int .i64)] [(.sl 26 (.lit 0) (.var 27) (.var 28)), (.int .i64 (.bin .add .i64 (.var 24) (.lit 1)))] [⟨[(.sl 9 (.lit 0) (.var 10) (.var 11)), (.sl 12 (.lit 0) (.var 13) (.var 14)), (.sl 15 (.lit 0) (.var 16) (.var 17))], 121⟩])))))
 (.ret (.tup [(.sl 21 (.lit 0) (.var 22) (.var 23)), (.int .i64 (.lit 0))]) [⟨[(.sl 9 (.lit 0) (.var 10) (.var 11)), (.sl 12 (.lit 0) (.var 13) (.var 14)), (.sl 15 (.lit 0) (.var 16) (.var 17))], 121⟩]))))))))
theorem S_sankoff_Roots : FnIs Tryd.prog n_sankoff_Roots [.sl, .sl, .sl] T_sankoff_Roots := ⟨Tryd.f36, [{ key := 10, tmps := [], join := true, dead := 279268433053752 }], 4000, Tryd.func36, by kernel_rfl⟩
abbrev n_sankoff_Min : FuncId := 38
def T_sankoff_Min : Tree :=
 (.call false 51 [(.sl 0 (.lit 0) (.var 1) (.var 2)), (.sl 3 (.lit 0) (.var 4) (.var 5)), (.sl 6 (.lit 0) (.var 7) (.var 8))] (.tup [(.agg [.sl, .sl, .sl]), (.int .i64)]) []
 (.alloc
 (.ite (.cmp .neq (.var 18) (.lit 0))
 (.ret (.tup [(.int .i64 (.lit 0)), (.int .i64 (.var 18))]) [⟨[(.sl 9 (.lit 0) (.var 10) (.var 11)), (.sl 12 (.lit 0) (.var 13) (.var 14)), (.sl 15 (.lit 0) (.var 16) (.var 17))], 121⟩])
 (.call false 52 [(.agg [(.sl 9 (.lit 0) (.var 10) (.var 11)), (.sl 12 (.lit 0) (.var 13) (.var 14)), (.sl 15 (.lit 0) (.var 16) (.var 17))])] (.tup [(.int .i64), (.int .i64)]) [⟨[(.sl 9 (.lit 0) (.var 10) (.var 11)), (.sl 12 (.lit 0) (.var 13) (.var 14)), (.sl 15 (.lit 0) (.var 16) (.var 17))], 121⟩]
 (.ret (.tup [(.int .i64 (.var 19)), (.int .i64 (.lit 0))]) [⟨[(.sl 9 (.lit 0) (.var 10) (.var 11)), (.sl 12 (.lit 0) (.var 13) (.var 14)), (.sl 15 (.lit 0) (.var 16) (.var 17))], 121⟩])))))
theorem S_sankoff_Min : FnIs Tryd.prog n_sankoff_Min [.sl, .sl, .sl] T_sankoff_Min := ⟨Tryd.f38, [], 4000, Tryd.func38, by kernel_rfl⟩
abbrev n_sankoff_checked : FuncId := 41
def T_sankoff_checked : Tree :=
 (.call false 10 [(.sl 0 (.lit 0) (.var 1) (.var 2))] (.int .i64) []
 (.ite (.cmp .neq (.var 7) (.lit 0))
 (.ret (.int .i64 (.lit 16)) [])
 (.ite (.var 6)
 (.ret (.int .i64 (.lit 2)) [])
 (.chk (.cmp .geq (.var 4) (.lit 0))
 (.chk (.cmp .geq (.var 1) (.lit 0))
 (.ite (.cmp .neq (.var 4) (.var 1))
 (.ret (.int .i64 (.lit 2)) [])
 (.ret (.int .i64 (.lit 0)) [])))))))
theorem S_sankoff_checked : FnIs Tryd.prog n_sankoff_checked [.sl, .sl, .bool] T_sankoff_checked := ⟨Tryd.f41, [], 4000, Tryd.func41, by kernel_rfl⟩
abbrev n_sankoff_matrix : FuncId := 42
def T_sankoff_matrix : Tree :=
 (.chk (.cmp .geq (.var 1) (.lit 0))
 (.ite (.cmp .lss (.var 1) (.lit 1))
 (.ret (.bool (.lit false)) [])
 (.chk (.cmp .geq (.var 1) (.lit 0))
 (.ite (.cmp .gtr (.var 1) (.lit 12))
 (.ret (.bool (.lit false)) [])
 (.chk (.cmp .geq (.var 1) (.lit 0))
 (.loop 0 [.bool, (.int .i64)] [(.bool (.lit false)), (.int .i64 (.lit 0))] [] []
 (.ite (.cmp .lss (.var 4) (.var 1))
 (.chk (.pick (.cmp .geq (.var 4) (.lit 0)) (.pick (.cmp .lss (.var 4) (.var 1)) (.some 0) (.lit false)) (.lit false))
 (.load 0 (.off (.var 4) 1 (.lit 0)) [.sl] []
 (.chk (.cmp .geq (.var 6) (.lit 0))
 (.chk (.cmp .geq (.var 1) (.lit 0))
 (.ite (.cmp .neq (.var 6) (.var 1))
 (.ret (.bool (.lit false)) [])
 (.chk (.cmp .geq (.var 6) (.lit 0))
 (.loop 1 [.bool, (.int .i64)] [(.bool (.var 3)), (.int .i64 (.lit 0))] [] []
 (.ite (.cmp .lss (.var 9) (.var 6))
 (.chk (.pick (.cmp .geq (.var 9) (.lit 0)) (.pick (.cmp .lss (.var 9) (.var 6)) (.some 5) (.lit false)) (.lit false))
 (.load 5 (.off (.var 9) 1 (.lit 0)) [(.int .i64)] []
 (.ite (.pick (.cmp .lss (.var 10) (.lit (-1))) (.lit true) (.cmp .gtr (.var 10) (.lit 1073741824)))
 (.ret (.bool (.lit false)) [])
 (.again 1 0 [.bool, (.int .i64)] [(.bool (.var 8)), (.int .i64 (.bin .add .i64 (.var 9) (.lit 1)))] []))))
 (.again 0 0 [.bool, (.int .i64)] [(.bool (.var 8)), (.int .i64 (.bin .add .i64 (.var 4) (.lit 1)))] [])))))))))
 (.ret (.bool (.lit true)) []))))))))
theorem S_sankoff_matrix : FnIs Tryd.prog n_sankoff_matrix [.sl] T_sankoff_matrix := ⟨Tryd.f42, [], 4000, Tryd.func42, by kernel_rfl⟩
abbrev n_sankoff_possible : FuncId := 51
def T_sankoff_possible : Tree :=
 (.alloc
 (.call false 59 [(.sl 0 (.lit 0) (.var 1) (.var 2)), (.sl 3 (.lit 0) (.var 4) (.var 5)), (.sl 6 (.lit 0) (.var 7) (.var 8))] (.tup [(.agg [.sl, .sl, .sl]), (.int .i64)]) [⟨[(.cst (.slice none 0 0)), (.cst (.slice none 0 0)), (.cst (.slice none 0 0))], 121⟩]
 (.alloc
 (.ite (.cmp .neq (.var 18) (.lit 0))
 (.ret (.tup [(.agg [(.cst (.slice none 0 0)), (.cst (.slice none 0 0)), (.cst (.slice none 0 0))]), (.int .i64 (.var 18))]) [⟨[(.cst (.slice none 0 0)), (.cst (.slice none 0 0)), (.cst (.slice none 0 0))], 121⟩, ⟨[(.sl 9 (.lit 0) (.var 10) (.var 11)), (.sl 12 (.lit 0) (.var 13) (.var 14)), (.sl 15 (.lit 0) (.var 16) (.var 17))], 121⟩])
 (.call false 52 [(.agg [(.sl 9 (.lit 0) (.var 10) (.var 11)), (.sl 12 (.lit 0) (.var 13) (.var 14)), (.sl 15 (.lit 0) (.var 16) (.var 17))])] (.tup [(.int .i64), (.int .i64)]) [⟨[(.cst (.slice none 0 0)), (.cst (.slice none 0 0)), (.cst (.slice none 0 0))], 121⟩, ⟨[(.sl 9 (.lit 0) (.var 10) (.var 11)), (.sl 12 (.lit 0) (.var 13) (.var 14)), (.sl 15 (.lit 0) (.var 16) (.var 17))], 121⟩]
 (.ite (.cmp .eql (.var 19) (.lit (-1)))
 (.ret (.tup [(.agg [(.cst (.slice none 0 0)), (.cst (.slice none 0 0)), (.cst (.slice none 0 0))]), (.int .i64 (.lit 5))]) [⟨[(.cst (.slice none 0 0)), (.cst (.slice none 0 0)), (.cst (.slice none 0 0))], 121⟩, ⟨[(.sl 9 (.lit 0) (.var 10) (.var 11)), (.sl 12 (.lit 0) (.var 13) (.var 14)), (.sl 15 (.lit 0) (.var 16) (.var 17))], 121⟩])
 (.ret (.tup [(.agg [(.sl 9 (.lit 0) (.var 10) (.var 11)), (.sl 12 (.lit 0) (.var 13) (.var 14)), (.sl 15 (.lit 0) (.var 16) (.var 17))]), (.int .i64 (.lit 0))]) [⟨[(.sl 9 (.lit 0) (.var 10) (.var 11)), (.sl 12 (.lit 0) (.var 13) (.var 14)), (.sl 15 (.lit 0) (.var 16) (.var 17))], 121⟩, ⟨[(.sl 9 (.lit 0) (.var 10) (.var 11)), (.sl 12 (.lit 0) (.var 13) (.var 14)), (.sl 15 (.lit 0) (.var 16) (.var 17))], 121⟩])))))))
theorem S_sankoff_possible : FnIs Tryd.prog n_sankoff_possible [.sl, .sl, .sl] T_sankoff_possible := ⟨Tryd.f51, [], 4000, Tryd.func51, by kernel_rfl⟩
abbrev n__sankoff_problem__root : FuncId := 52
def T__sankoff_problem__root : Tree :=
 (.alloc
 (.call false 60 [(.agg [(.sl 0 (.lit 0) (.var 1) (.var 2)), (.sl 3 (.lit 0) (.var 4) (.var 5)), (.sl 6 (.lit 0) (.var 7) (.var 8))]), (.fn (.func 61) [] [(.loc 0 0)])] (.tup [(.int .i64), (.int .i64)]) [⟨[(.sl 0 (.lit 0) (.var 1) (.var 2)), (.sl 3 (.lit 0) (.var 4) (.var 5)), (.sl 6 (.lit 0) (.var 7) (.var 8))], 121⟩]
 (.ret (.tup [(.int .i64 (.var 9)), (.int .i64 (.var 10))]) [⟨[(.sl 0 (.lit 0) (.var 1) (.var 2)), (.sl 3 (.lit 0) (.var 4) (.var 5)), (.sl 6 (.lit 0) (.var 7) (.var 8))], 121⟩])))
theorem S__sankoff_problem__root : FnIs Tryd.prog n__sankoff_problem__root [(.agg [.sl, .sl, .sl])] T__sankoff_problem__root := ⟨Tryd.f52, [], 4000, Tryd.func52, by kernel_rfl⟩
abbrev n_sankoff_solved : FuncId := 59
def T_sankoff_solved : Tree :=
 (.alloc
 (.alloc
 (.alloc
 (.call false 72 [(.sl 0 (.lit 0) (.var 1) (.var 2)), (.sl 3 (.lit 0) (.var 4) (.var 5)), (.sl 6 (.lit 0) (.var 7) (.var 8))] (.int .i64) [⟨[(.sl 0 (.lit 0) (.var 1) (.var 2))], 22⟩, ⟨[(.sl 3 (.lit 0) (.var 4) (.var 5))], 75⟩, ⟨[(.cst (.slice none 0 0)), (.cst (.slice none 0 0)), (.cst (.slice none 0 0))], 121⟩]
 (.ite (.cmp .neq (.var 9) (.lit 0))
 (.ret (.tup [(.agg [(.cst (.slice none 0 0)), (.cst (.slice none 0 0)), (.cst (.slice none 0 0))]), (.int .i64 (.var 9))]) [⟨[(.sl 0 (.lit 0) (.var 1) (.var 2))], 22⟩, ⟨[(.sl 3 (.lit 0) (.var 4) (.var 5))], 75⟩, ⟨[(.cst (.slice none 0 0)), (.cst (.slice none 0 0)), (.cst (.slice none 0 0))], 121⟩])
 (.chk (.cmp .geq (.var 1) (.lit 0))
 (.makev 127 96 (.var 1) (.var 1)
 (.alloc
 (.call false 4 [(.sl 0 (.lit 0) (.var 1) (.var 2))] (.tup [.sl, (.int .i64)]) [⟨[(.sl 0 (.lit 0) (.var 1) (.var 2))], 22⟩, ⟨[(.sl 3 (.lit 0) (.var 4) (.var 5))], 75⟩, ⟨[(.cst (.slice none 0 0)), (.cst (.slice none 0 0)), (.cst (.slice none 0 0))], 121⟩, ⟨[(.sl 0 (.lit 0) (.var 1) (.var 2)), (.sl 3 (.lit 0) (.var 4) (.var 5)), (.sl 10 (.lit 0) (.var 11) (.var 12))], 121⟩]
 (.chk (.cmp .geq (.var 14) (.lit 0))
 (.loop 0 [(.int .i64)] [(.int .i64 (.lit 0))] [⟨[(.sl 0 (.lit 0) (.var 1) (.var 2))], 22⟩, ⟨[(.sl 3 (.lit 0) (.var 4) (.var 5))], 75⟩, ⟨[(.cst (.slice none 0 0)), (.cst (.slice none 0 0)), (.cst (.slice none 0 0))], 121⟩, ⟨[(.sl 0 (.lit 0) (.var 1) (.var 2)), (.sl 3 (.lit 0) (.var 4) (.var 5)), (.sl 10 (.lit 0) (.var 11) (.var 12))], 121⟩] [⟨[(.sl 0 (.lit 0) (.var 1) (.var 2))], 22⟩, ⟨[(.sl 3 (.lit 0) (.var 4) (.var 5))], 75⟩, ⟨[(.cst (.slice none 0 0)), (.cst (.slice none 0 0)), (.cst (.slice none 0 0))], 121⟩, ⟨[(.sl 0 (.lit 0) (.var 1) (.var 2)), (.sl 3 (.lit 0) (.var 4) (.var 5)), (.sl 10 (.lit 0) (.var 11) (.var 12))], 121⟩]
 (.ite (.cmp .lss (.var 17) (.var 14))
 (.chk (.pick (.cmp .geq (.var 17) (.lit 0)) (.pick (.cmp .lss (.var 17) (.var 14)) (.some 13) (.lit false)) (.lit false))
 (.load 13 (.off (.var 17) 1 (.lit 0)) [(.int .i64)] [⟨[(.sl 0 (.lit 0) (.var 1) (.var 2))], 22⟩, ⟨[(.sl 3 (.lit 0) (.var 4) (.var 5))], 75⟩, ⟨[(.cst (.slice none 0 0)), (.cst (.slice none 0 0)), (.cst (.slice none 0 0))], 121⟩, ⟨[(.sl 0 (.lit 0) (.var 1) (.var 2)), (.sl 3 (.lit 0) (.var 4) (.var 5)), (.sl 10 (.lit 0) (.var 11) (.var 12))], 121⟩]
 (.chk (.cmp .geq (.var 4) (.lit 0))
 (.loop 1 [(.int .i64)] [(.int .i64 (.lit 0))] [⟨[(.sl 0 (.lit 0) (.var 1) (.var 2))], 22⟩, ⟨[(.sl 3 (.lit 0) (.var 4) (.var 5))], 75⟩, ⟨[(.cst (.slice none 0 0)), (.cst (.slice none 0 0)), (.cst (.slice none 0 0))], 121⟩, ⟨[(.sl 0 (.lit 0) (.var 1) (.var 2)), (.sl 3 (.lit 0) (.var 4) (.var 5)), (.sl 10 (.lit 0) (.var 11) (.var 12))], 121⟩] [⟨[(.sl 0 (.lit 0) (.var 1) (.var 2))], 22⟩, ⟨[(.sl 3 (.lit 0) (.var 4) (.var 5))], 75⟩, ⟨[(.cst (.slice none 0 0)), (.cst (.slice none 0 0)), (.cst (.slice none 0 0))], 121⟩, ⟨[(.sl 0 (.lit 0) (.var 1) (.var 2)), (.sl 3 (.lit 0) (.var 4) (.var 5)), (.sl 10 (.lit 0) (.var 11) (.var 12))], 121⟩]
 (.ite (.cmp .lss (.var 19) (.var 4))
 (.join 2 [.bool] [⟨[(.sl 0 (.lit 0) (.var 1) (.var 2))], 22⟩, ⟨[(.sl 3 (.lit 0) (.var 4) (.var 5))], 75⟩, ⟨[(.cst (.slice none 0 0)), (.cst (.slice none 0 0)), (.cst (.slice none 0 0))], 121⟩, ⟨[(.sl 0 (.lit 0) (.var 1) (.var 2)), (.sl 3 (.lit 0) (.var 4) (.var 5)), (.sl 10 (.lit 0) (.var 11) (.var 12))], 121⟩]
 (.chk (.pick (.cmp .geq (.var 17) (.lit 0)) (.pick (.cmp .lss (.var 17) (.var 7)) (.some 6) (.lit false)) (.lit false))
 (.load 6 (.off (.var 17) 1 (.lit 0)) [(.int .i64)] [⟨[(.sl 0 (.lit 0) (.var 1) (.var 2))], 22⟩, ⟨[(.sl 3 (.lit 0) (.var 4) (.var 5))], 75⟩, ⟨[(.cst (.slice none 0 0)), (.cst (.slice none 0 0)), (.cst (.slice none 0 0))], 121⟩, ⟨[(.sl 0 (.lit 0) (.var 1) (.var 2)), (.sl 3 (.lit 0) (.var 4) (.var 5)), (.sl 10 (.lit 0) (.var 11) (.var 12))], 121⟩]
 (.ite (.cmp .neq (.var 20) (.lit (-1)))
 (.chk (.pick (.cmp .geq (.var 17) (.lit 0)) (.pick (.cmp .lss (.var 17) (.var 7)) (.some 6) (.lit false)) (.lit false))
 (.load 6 (.off (.var 17) 1 (.lit 0)) [(.int .i64)] [⟨[(.sl 0 (.lit 0) (.var 1) (.var 2))], 22⟩, ⟨[(.sl 3 (.lit 0) (.var 4) (.var 5))], 75⟩, ⟨[(.cst (.slice none 0 0)), (.cst (.slice none 0 0)), (.cst (.slice none 0 0))], 121⟩, ⟨[(.sl 0 (.lit 0) (.var 1) (.var 2)), (.sl 3 (.lit 0) (.var 4) (.var 5)), (.sl 10 (.lit 0) (.var 11) (.var 12))], 121⟩]
 (.again 2 4 [.bool] [(.bool (.cmp .neq (.var 21) (.var 19)))] [⟨[(.sl 0 (.lit 0) (.var 1) (.var 2))], 22⟩, ⟨[(.sl 3 (.lit 0) (.var 4) (.var 5))], 75⟩, ⟨[(.cst (.slice none 0 0)), (.cst (.slice none 0 0)), (.cst (.slice none 0 0))], 121⟩, ⟨[(.sl 0 (.lit 0) (.var 1) (.var 2)), (.sl 3 (.lit 0) (.var 4) (.var 5)), (.sl 10 (.lit 0) (.var 11) (.var 12))], 121⟩])))
 (.again 2 4 [.bool] [(.bool (.lit false))] [⟨[(.sl 0 (.lit 0) (.var 1) (.var 2))], 22⟩, ⟨[(.sl 3 (.lit 0) (.var 4) (.var 5))], 75⟩, ⟨[(.cst (.slice none 0 0)), (.cst (.slice none 0 0)), (.cst (.slice none 0 0))], 121⟩, ⟨[(.sl 0 (.lit 0) (.var 1) (.var 2)), (.sl 3 (.lit 0) (.var 4) (.var 5)), (.sl 10 (.lit 0) (.var 11) (.var 12))], 121⟩]))))
 (.join 2 [] [⟨[(.sl 0 (.lit 0) (.var 1) (.var 2))], 22⟩, ⟨[(.sl 3 (.lit 0) (.var 4) (.var 5))], 75⟩, ⟨[(.cst (.slice none 0 0)), (.cst (.slice none 0 0)), (.cst (.slice none 0 0))], 121⟩, ⟨[(.sl 0 (.lit 0) (.var 1) (.var 2)), (.sl 3 (.lit 0) (.var 4) (.var 5)), (.sl 10 (.lit 0) (.var 11) (.var 12))], 121⟩]
 (.ite (.var 20)
 (.chk (.pick (.cmp .geq (.var 18) (.lit 0)) (.pick (.cmp .lss (.var 18) (.var 11)) (.some 10) (.lit false)) (.lit false))
 (.chk (.pick (.cmp .geq (.off (.var 18) 12 (.lit 0)) (.lit 0)) (.pick (.cmp .geq (.var 19) (.lit 0)) (.pick (.cmp .lss (.var 19) (.lit 12)) (.some 10) (.lit false)) (.lit false)) (.lit false))
 (.store false 10 (.off (.var 19) 1 (.off (.var 18) 12 (.lit 0))) [(.int .i64 (.lit (-1)))] [⟨[(.sl 0 (.lit 0) (.var 1) (.var 2))], 22⟩, ⟨[(.sl 3 (.lit 0) (.var 4) (.var 5))], 75⟩, ⟨[(.cst (.slice none 0 0)), (.cst (.slice none 0 0)), (.cst (.slice none 0 0))], 121⟩, ⟨[(.sl 0 (.lit 0) (.var 1) (.var 2)), (.sl 3 (.lit 0) (.var 4) (.var 5)), (.sl 10 (.lit 0) (.var 11) (.var 12))], 121⟩]
 (.again 2 4 [] [] [⟨[(.sl 0 (.lit 0) (.var 1) (.var 2))], 22⟩, ⟨[(.sl 3 (.lit 0) (.var 4) (.var 5))], 75⟩, ⟨[(.cst (.slice none 0 0)), (.cst (.slice none 0 0)), (.cst (.slice none 0 0))], 121⟩, ⟨[(.sl 0 (.lit 0) (.var 1) (.var 2)), (.sl 3 (.lit 0) (.var 4) (.var 5)), (.sl 10 (.lit 0) (.var 11) (.var 12))], 121⟩]))))
 (.again 2 4 [] [] [⟨[(.sl 0 (.lit 0) (.var 1) (.var 2))], 22⟩, ⟨[(.sl 3 (.lit 0) (.var 4) (.var 5))], 75⟩, ⟨[(.cst (.slice none 0 0)), (.cst (.slice none 0 0)), (.cst (.slice none 0 0))], 121⟩, ⟨[(.sl 0 (.lit 0) (.var 1) (.var 2)), (.sl 3 (.lit 0) (.var 4) (.var 5)), (.sl 10 (.lit 0) (.var 11) (.var 12))], 121⟩]))
 (.again 1 4 [(.int .i64)] [(.int .i64 (.bin .add .i64 (.var 19) (.lit 1)))] [⟨[(.sl 0 (.lit 0) (.var 1) (.var 2))], 22⟩, ⟨[(.sl 3 (.lit 0) (.var 4) (.var 5))], 75⟩, ⟨[(.cst (.slice none 0 0)), (.cst (.slice none 0 0)), (.cst (.slice none 0 0))], 121⟩, ⟨[(.sl 0 (.lit 0) (.var 1) (.var 2)), (.sl 3 (.lit 0) (.var 4) (.var 5)), (.sl 10 (.lit 0) (.var 11) (.var 12))], 121⟩])))
 (.again 0 4 [(.int .i64)] [(.int .i64 (.bin .add .i64 (.var 17) (.lit 1)))] [⟨[(.sl 0 (.lit 0) (.var 1) (.var 2))], 22⟩, ⟨[(.sl 3 (.lit 0) (.var 4) (.var 5))], 75⟩, ⟨[(.cst (.slice none 0 0)), (.cst (.slice none 0 0)), (.cst (.slice none 0 0))], 121⟩, ⟨[(.sl 0 (.lit 0) (.var 1) (.var 2)), (.sl 3 (.lit 0) (.var 4) (.var 5)), (.sl 10 (.lit 0) (.var 11) (.var 12))], 121⟩]))))))
 (.call false 73 [(.sl 0 (.lit 0) (.var 1) (.var 2))] .val [⟨[(.sl 0 (.lit 0) (.var 1) (.var 2))], 22⟩, ⟨[(.sl 3 (.lit 0) (.var 4) (.var 5))], 75⟩, ⟨[(.cst (.slice none 0 0)), (.cst (.slice none 0 0)), (.cst (.slice none 0 0))], 121⟩, ⟨[(.sl 0 (.lit 0) (.var 1) (.var 2)), (.sl 3 (.lit 0) (.var 4) (.var 5)), (.sl 10 (.lit 0) (.var 11) (.var 12))], 121⟩]
 (.join 0 [] [⟨[(.sl 0 (.lit 0) (.var 1) (.var 2))], 22⟩, ⟨[(.sl 3 (.lit 0) (.var 4) (.var 5))], 75⟩, ⟨[(.cst (.slice none 0 0)), (.cst (.slice none 0 0)), (.cst (.slice none 0 0))], 121⟩, ⟨[(.sl 0 (.lit 0) (.var 1) (.var 2)), (.sl 3 (.lit 0) (.var 4) (.var 5)), (.sl 10 (.lit 0) (.var 11) (.var 12))], 121⟩]
 (.range (.val 18) [(.int .i64)] [] [] [⟨[(.sl 0 (.lit 0) (.var 1) (.var 2))], 22⟩, ⟨[(.sl 3 (.lit 0) (.var 4) (.var 5))], 75⟩, ⟨[(.cst (.slice none 0 0)), (.cst (.slice none 0 0)), (.cst (.slice none 0 0))], 121⟩, ⟨[(.sl 0 (.lit 0) (.var 1) (.var 2)), (.sl 3 (.lit 0) (.var 4) (.var 5)), (.sl 10 (.lit 0) (.var 11) (.var 12))], 121⟩] [⟨[(.sl 0 (.lit 0) (.var 1) (.var 2))], 22⟩, ⟨[(.sl 3 (.lit 0) (.var 4) (.var 5))], 75⟩, ⟨[(.cst (.slice none 0 0)), (.cst (.slice none 0 0)), (.cst (.slice none 0 0))], 121⟩, ⟨[(.sl 0 (.lit 0) (.var 1) (.var 2)), (.sl 3 (.lit 0) (.var 4) (.var 5)), (.sl 10 (.lit 0) (.var 11) (.var 12))], 121⟩]
 (.ite (.cmp .eql (.var 19) (.lit 0))
 (.leave 6 4 [] [] [⟨[(.sl 0 (.lit 0) (.var 1) (.var 2))], 22⟩, ⟨[(.sl 3 (.lit 0) (.var 4) (.var 5))], 75⟩, ⟨[(.cst (.slice none 0 0)), (.cst (.slice none 0 0)), (.cst (.slice none 0 0))], 121⟩, ⟨[(.sl 0 (.lit 0) (.var 1) (.var 2)), (.sl 3 (.lit 0) (.var 4) (.var 5)), (.sl 10 (.lit 0) (.var 11) (.var 12))], 121⟩])
 (.chk (.pick (.cmp .geq (.var 19) (.lit 0)) (.pick (.cmp .lss (.var 19) (.var 1)) (.some 0) (.lit false)) (.lit false))
 (.chk (.pick (.cmp .geq (.off (.var 19) 2 (.lit 0)) (.lit 0)) (.some 0) (.lit false))
 (.load 0 (.off (.var 19) 2 (.lit 0)) [(.int .i64)] [⟨[(.sl 0 (.lit 0) (.var 1) (.var 2))], 22⟩, ⟨[(.sl 3 (.lit 0) (.var 4) (.var 5))], 75⟩, ⟨[(.cst (.slice none 0 0)), (.cst (.slice none 0 0)), (.cst (.slice none 0 0))], 121⟩, ⟨[(.sl 0 (.lit 0) (.var 1) (.var 2)), (.sl 3 (.lit 0) (.var 4) (.var 5)), (.sl 10 (.lit 0) (.var 11) (.var 12))], 121⟩]
 (.chk (.cmp .geq (.var 4) (.lit 0))
 (.loop 0 [(.int .i64)] [(.int .i64 (.lit 0))] [⟨[(.sl 0 (.lit 0) (.var 1) (.var 2))], 22⟩, ⟨[(.sl 3 (.lit 0) (.var 4) (.var 5))], 75⟩, ⟨[(.cst (.slice none 0 0)), (.cst (.slice none 0 0)), (.cst (.slice none 0 0))], 121⟩, ⟨[(.sl 0 (.lit 0) (.var 1) (.var 2)), (.sl 3 (.lit 0) (.var 4) (.var 5)), (.sl 10 (.lit 0) (.var 11) (.var 12))], 121⟩] [⟨[(.sl 0 (.lit 0) (.var 1) (.var 2))], 22⟩, ⟨[(.sl 3 (.lit 0) (.var 4) (.var 5))], 75⟩, ⟨[(.cst (.slice none 0 0)), (.cst (.slice none 0 0)), (.cst (.slice none 0 0))], 121⟩, ⟨[(.sl 0 (.lit 0) (.var 1) (.var 2)), (.sl 3 (.lit 0) (.var 4) (.var 5)), (.sl 10 (.lit 0) (.var 11) (.var 12))], 121⟩]
 (.ite (.cmp .lss (.var 21) (.var 4))
 (.call false 74 [(.agg [(.sl 0 (.lit 0) (.var 1) (.var 2)), (.sl 3 (.lit 0) (.var 4) (.var 5)), (.sl 10 (.lit 0) (.var 11) (.var 12))]), (.int .i64 (.var 19)), (.int .i64 (.var 21))] (.tup [(.int .i64), (.int .i64)]) [⟨[(.sl 0 (.lit 0) (.var 1) (.var 2))], 22⟩, ⟨[(.sl 3 (.lit 0) (.var 4) (.var 5))], 75⟩, ⟨[(.cst (.slice none 0 0)), (.cst (.slice none 0 0)), (.cst (.slice none 0 0))], 121⟩, ⟨[(.sl 0 (.lit 0) (.var 1) (.var 2)), (.sl 3 (.lit 0) (.var 4) (.var 5)), (.sl 10 (.lit 0) (.var 11) (.var 12))], 121⟩]
 (.join 1 [.bool] [⟨[(.sl 0 (.lit 0) (.var 1) (.var 2))], 22⟩, ⟨[(.sl 3 (.lit 0) (.var 4) (.var 5))], 75⟩, ⟨[(.cst (.slice none 0 0)), (.cst (.slice none 0 0)), (.cst (.slice none 0 0))], 121⟩, ⟨[(.sl 0 (.lit 0) (.var 1) (.var 2)), (.sl 3 (.lit 0) (.var 4) (.var 5)), (.sl 10 (.lit 0) (.var 11) (.var 12))], 121⟩]
 (.ite (.cmp .eql (.var 22) (.lit (-1)))
 (.again 1 4 [.bool] [(.bool (.lit true))] [⟨[(.sl 0 (.lit 0) (.var 1) (.var 2))], 22⟩, ⟨[(.sl 3 (.lit 0) (.var 4) (.var 5))], 75⟩, ⟨[(.cst (.slice none 0 0)), (.cst (.slice none 0 0)), (.cst (.slice none 0 0))], 121⟩, ⟨[(.sl 0 (.lit 0) (.var 1) (.var 2)), (.sl 3 (.lit 0) (.var 4) (.var 5)), (.sl 10 (.lit 0) (.var 11) (.var 12))], 121⟩])
 (.chk (.pick (.cmp .geq (.var 20) (.lit 0)) (.pick (.cmp .lss (.var 20) (.var 11)) (.some 10) (.lit false)) (.lit false))
 (.chk (.pick (.cmp .geq (.off (.var 20) 12 (.lit 0)) (.lit 0)) (.pick (.cmp .geq (.var 21) (.lit 0)) (.pick (.cmp .lss (.var 21) (.lit 12)) (.some 10) (.lit false)) (.lit false)) (.lit false))
 (.load 10 (.off (.var 21) 1 (.off (.var 20) 12 (.lit 0))) [(.int .i64)] [⟨[(.sl 0 (.lit 0) (.var 1) (.var 2))], 22⟩, ⟨[(.sl 3 (.lit 0) (.var 4) (.var 5))], 75⟩, ⟨[(.cst (.slice none 0 0)), (.cst (.slice none 0 0)), (.cst (.slice none 0 0))], 121⟩, ⟨[(.sl 0 (.lit 0) (.var 1) (.var 2)), (.sl 3 (.lit 0) (.var 4) (.var 5)), (.sl 10 (.lit 0) (.var 11) (.var 12))], 121⟩]
 (.again 1 4 [.bool] [(.bool (.cmp .eql (.var 24) (.lit (-1))))] [⟨[(.sl 0 (.lit 0) (.var 1) (.var 2))], 22⟩, ⟨[(.sl 3 (.lit 0) (.var 4) (.var 5))], 75⟩, ⟨[(.cst (.slice none 0 0)), (.cst (.slice none 0 0)), (.cst (.slice none 0 0))], 121⟩, ⟨[(.sl 0 (.lit 0) (.var 1) (.var 2)), (.sl 3 (.lit 0) (.var 4) (.var 5)), (.sl 10 (.lit 0) (.var 11) (.var 12))], 121⟩])))))
 (.join 1 [] [⟨[(.sl 0 (.lit 0) (.var 1) (.var 2))], 22⟩, ⟨[(.sl 3 (.lit 0) (.var 4) (.var 5))], 75⟩, ⟨[(.cst (.slice none 0 0)), (.cst (.slice none 0 0)), (.cst (.slice none 0 0))], 121⟩, ⟨[(.sl 0 (.lit 0) (.var 1) (.var 2)), (.sl 3 (.lit 0) (.var 4) (.var 5)), (.sl 10 (.lit 0) (.var 11) (.var 12))], 121⟩]
 (.ite (.var 24)
 (.chk (.pick (.cmp .geq (.var 20) (.lit 0)) (.pick (.cmp .lss (.var 20) (.var 11)) (.some 10) (.lit false)) (.lit false))
 (.chk (.pick (.cmp .geq (.off (.var 20) 12 (.lit 0)) (.lit 0)) (.pick (.cmp .geq (.var 21) (.lit 0)) (.pick (.cmp .lss (.var 21) (.lit 12)) (.some 10) (.lit false)) (.lit false)) (.lit false))
 (.store false 10 (.off (.var 21) 1 (.off (.var 20) 12 (.lit 0))) [(.int .i64 (.lit (-1)))] [⟨[(.sl 0 (.lit 0) (.var 1) (.var 2))], 22⟩, ⟨[(.sl 3 (.lit 0) (.var 4) (.var 5))], 75⟩, ⟨[(.cst (.slice none 0 0)), (.cst (.slice none 0 0)), (.cst (.slice none 0 0))], 121⟩, ⟨[(.sl 0 (.lit 0) (.var 1) (.var 2)), (.sl 3 (.lit 0) (.var 4) (.var 5)), (.sl 10 (.lit 0) (.var 11) (.var 12))], 121⟩]
 (.again 1 4 [] [] [⟨[(.sl 0 (.lit 0) (.var 1) (.var 2))], 22⟩, ⟨[(.sl 3 (.lit 0) (.var 4) (.var 5))], 75⟩, ⟨[(.cst (.slice none 0 0)), (.cst (.slice none 0 0)), (.cst (.slice none 0 0))], 121⟩, ⟨[(.sl 0 (.lit 0) (.var 1) (.var 2)), (.sl 3 (.lit 0) (.var 4) (.var 5)), (.sl 10 (.lit 0) (.var 11) (.var 12))], 121⟩]))))
 (.chk (.pick (.cmp .geq (.var 20) (.lit 0)) (.pick (.cmp .lss (.var 20) (.var 11)) (.some 10) (.lit false)) (.lit false))
 (.chk (.pick (.cmp .geq (.off (.var 20) 12 (.lit 0)) (.lit 0)) (.pick (.cmp .geq (.var 21) (.lit 0)) (.pick (.cmp .lss (.var 21) (.lit 12)) (.some 10) (.lit false)) (.lit false)) (.lit false))
 (.load 10 (.off (.var 21) 1 (.off (.var 20) 12 (.lit 0))) [(.int .i64)] [⟨[(.sl 0 (.lit 0) (.var 1) (.var 2))], 22⟩, ⟨[(.sl 3 (.lit 0) (.var 4) (.var 5))], 75⟩, ⟨[(.cst (.slice none 0 0)), (.cst (.slice none 0 0)), (.cst (.slice none 0 0))], 121⟩, ⟨[(.sl 0 (.lit 0) (.var 1) (.var 2)), (.sl 3 (.lit 0) (.var 4) (.var 5)), (.sl 10 (.lit 0) (.var 11) (.var 12))], 121⟩]
 (.chk (.pick (.cmp .geq (.var 20) (.lit 0)) (.pick (.cmp .lss (.var 20) (.var 11)) (.some 10) (.lit false)) (.lit false))
 (.chk (.pick (.cmp .geq (.off (.var 20) 12 (.lit 0)) (.lit 0)) (.pick (.cmp .geq (.var 21) (.lit 0)) (.pick (.cmp .lss (.var 21) (.lit 12)) (.some 10) (.lit false)) (.lit false)) (.lit false))
 (.store false 10 (.off (.var 21) 1 (.off (.var 20) 12 (.lit 0))) [(.int .i64 (.bin .add .i64 (.var 25) (.var 22)))] [⟨[(.sl 0 (.lit 0) (.var 1) (.var 2))], 22⟩, ⟨[(.sl 3 (.lit 0) (.var 4) (.var 5))], 75⟩, ⟨[(.cst (.slice none 0 0)), (.cst (.slice none 0 0)), (.cst (.slice none 0 0))], 121⟩, ⟨[(.sl 0 (.lit 0) (.var 1) (.var 2)), (.sl 3 (.lit 0) (.var 4) (.var 5)), (.sl 10 (.lit 0) (.var 11) (.var 12))], 121⟩]
 (.again 1 4 [] [] [⟨[(.sl 0 (.lit 0) (.var 1) (.var 2))], 22⟩, ⟨[(.sl 3 (.lit 0) (.var 4) (.var 5))], 75⟩, ⟨[(.cst (.slice none 0 0)), (.cst (.slice none 0 0)), (.cst (.slice none 0 0))], 121⟩, ⟨[(.sl 0 (.lit 0) (.var 1) (.var 2)), (.sl 3 (.lit 0) (.var 4) (.var 5)), (.sl 10 (.lit 0) (.var 11) (.var 12))], 121⟩]))))))))
 (.again 0 4 [(.int .i64)] [(.int .i64 (.bin .add .i64 (.var 21) (.lit 1)))] [⟨[(.sl 0 (.lit 0) (.var 1) (.var 2))], 22⟩, ⟨[(.sl 3 (.lit 0) (.var 4) (.var 5))], 75⟩, ⟨[(.cst (.slice none 0 0)), (.cst (.slice none 0 0)), (.cst (.slice none 0 0))], 121⟩, ⟨[(.sl 0 (.lit 0) (.var 1) (.var 2)), (.sl 3 (.lit 0) (.var 4) (.var 5)), (.sl 10 (.lit 0) (.var 11) (.var 12))], 121⟩]))))
 (.leave 0 4 [] [] [⟨[(.sl 0 (.lit 0) (.var 1) (.var 2))], 22⟩, ⟨[(.sl 3 (.lit 0) (.var 4) (.var 5))], 75⟩, ⟨[(.cst (.slice none 0 0)), (.cst (.slice none 0 0)), (.cst (.slice none 0 0))], 121⟩, ⟨[(.sl 0 (.lit 0) (.var 1) (.var 2)), (.sl 3 (.lit 0) (.var 4) (.var 5)), (.sl 10 (.lit 0) (.var 11) (.var 12))], 121⟩]))))))))
 (.ite (.cmp .eql (.var 19) (.lit 6))
 (.again 0 4 [] [] [⟨[(.sl 0 (.lit 0) (.var 1) (.var 2))], 22⟩, ⟨[(.sl 3 (.lit 0) (.var 4) (.var 5))], 75⟩, ⟨[(.cst (.slice none 0 0)), (.cst (.slice none 0 0)), (.cst (.slice none 0 0))], 121⟩, ⟨[(.sl 0 (.lit 0) (.var 1) (.var 2)), (.sl 3 (.lit 0) (.var 4) (.var 5)), (.sl 10 (.lit 0) (.var 11) (.var 12))], 121⟩])
 (.again 0 4 [] [] [⟨[(.sl 0 (.lit 0) (.var 1) (.var 2))], 22⟩, ⟨[(.sl 3 (.lit 0) (.var 4) (.var 5))], 75⟩, ⟨[(.cst (.slice none 0 0)), (.cst (.slice none 0 0)), (.cst (.slice none 0 0))], 121⟩, ⟨[(.sl 0 (.lit 0) (.var 1) (.var 2)), (.sl 3 (.lit 0) (.var 4) (.var 5)), (.sl 10 (.lit 0) (.var 11) (.var 12))], 121⟩])))
 (.ret (.tup [(.agg [(.sl 0 (.lit 0) (.var 1) (.var 2)), (.sl 3 (.lit 0) (.var 4) (.var 5)), (.sl 10 (.lit 0) (.var 11) (.var 12))]), (.int .i64 (.lit 0))]) [⟨[(.sl 0 (.lit 0) (.var 1) (.var 2))], 22⟩, ⟨[(.sl 3 (.lit 0) (.var 4) (.var 5))], 75⟩, ⟨[(.sl 0 (.lit 0) (.var 1) (.var 2)), (.sl 3 (.lit 0) (.var 4) (.var 5)), (.sl 10 (.lit 0) (.var 11) (.var 12))], 121⟩, ⟨[(.sl 0 (.lit 0) (.var 1) (.var 2)), (.sl 3 (.lit 0) (.var 4) (.var 5)), (.sl 10 (.lit 0) (.var 11) (.var 12))], 121⟩])))))))))))))))
theorem S_sankoff_solved : FnIs Tryd.prog n_sankoff_solved [.sl, .sl, .sl] T_sankoff_solved := ⟨Tryd.f59, [{ key := 200012, tmps := [(63, .bool)], join := true, dead := 42535255300230296882395570222845659168 }, { key := 13, tmps := [], join := true }, { key := 100004, tmps := [], join := true }, { key := 200024, tmps := [(105, .bool)], join := true }, { key := 25, tmps := [], join := true }], 4000, Tryd.func59, by kernel_rfl⟩
abbrev n__sankoff_problem__best : FuncId := 60
def T__sankoff_problem__best : Tree :=
 (.alloc
 (.chk (.cmp .geq (.var 4) (.lit 0))
 (.loop 0 [(.int .i64), (.int .i64), (.int .i64)] [(.int .i64 (.lit (-1))), (.int .i64 (.lit (-1))), (.int .i64 (.lit 0))] [⟨[(.sl 0 (.lit 0) (.var 1) (.var 2)), (.sl 3 (.lit 0) (.var 4) (.var 5)), (.sl 6 (.lit 0) (.var 7) (.var 8))], 121⟩] [⟨[(.sl 0 (.lit 0) (.var 1) (.var 2)), (.sl 3 (.lit 0) (.var 4) (.var 5)), (.sl 6 (.lit 0) (.var 7) (.var 8))], 121⟩]
 (.ite (.cmp .lss (.var 12) (.var 4))
 (.callv false (.val 9) [(.int .i64 (.var 12))] (.int .i64) [⟨[(.sl 0 (.lit 0) (.var 1) (.var 2)), (.sl 3 (.lit 0) (.var 4) (.var 5)), (.sl 6 (.lit 0) (.var 7) (.var 8))], 121⟩]
 (.ite (.cmp .eql (.var 10) (.lit (-1)))
 (.join 1 [(.int .i64), (.int .i64)] [⟨[(.sl 0 (.lit 0) (.var 1) (.var 2)), (.sl 3 (.lit 0) (.var 4) (.var 5)), (.sl 6 (.lit 0) (.var 7) (.var 8))], 121⟩]
 (.ite (.pick (.cmp .neq (.var 13) (.lit (-1))) (.lit true) (.lit false))
 (.again 1 1 [(.int .i64), (.int .i64)] [(.int .i64 (.var 13)), (.int .i64 (.var 12))] [⟨[(.sl 0 (.lit 0) (.var 1) (.var 2)), (.sl 3 (.lit 0) (.var 4) (.var 5)), (.sl 6 (.lit 0) (.var 7) (.var 8))], 121⟩])
 (.again 1 1 [(.int .i64), (.int .i64)] [(.int .i64 (.var 10)), (.int .i64 (.var 11))] [⟨[(.sl 0 (.lit 0) (.var 1) (.var 2)), (.sl 3 (.lit 0) (.var 4) (.var 5)), (.sl 6 (.lit 0) (.var 7) (.var 8))], 121⟩]))
 (.again 0 1 [(.int .i64), (.int .i64), (.int .i64)] [(.int .i64 (.var 14)), (.int .i64 (.var 15)), (.int .i64 (.bin .add .i64 (.var 12) (.lit 1)))] [⟨[(.sl 0 (.lit 0) (.var 1) (.var 2)), (.sl 3 (.lit 0) (.var 4) (.var 5)), (.sl 6 (.lit 0) (.var 7) (.var 8))], 121⟩]))
 (.ite (.cmp .neq (.var 13) (.lit (-1)))
 (.join 1 [(.int .i64), (.int .i64)] [⟨[(.sl 0 (.lit 0) (.var 1) (.var 2)), (.sl 3 (.lit 0) (.var 4) (.var 5)), (.sl 6 (.lit 0) (.var 7) (.var 8))], 121⟩]
 (.ite (.cmp .lss (.var 13) (.var 10))
 (.again 1 1 [(.int .i64), (.int .i64)] [(.int .i64 (.var 13)), (.int .i64 (.var 12))] [⟨[(.sl 0 (.lit 0) (.var 1) (.var 2)), (.sl 3 (.lit 0) (.var 4) (.var 5)), (.sl 6 (.lit 0) (.var 7) (.var 8))], 121⟩])
 (.again 1 1 [(.int .i64), (.int .i64)] [(.int .i64 (.var 10)), (.int .i64 (.var 11))] [⟨[(.sl 0 (.lit 0) (.var 1) (.var 2)), (.sl 3 (.lit 0) (.var 4) (.var 5)), (.sl 6 (.lit 0) (.var 7) (.var 8))], 121⟩]))
 (.again 0 1 [(.int .i64), (.int .i64), (.int .i64)] [(.int .i64 (.var 14)), (.int .i64 (.var 15)), (.int .i64 (.bin .add .i64 (.var 12) (.lit 1)))] [⟨[(.sl 0 (.lit 0) (.var 1) (.var 2)), (.sl 3 (.lit 0) (.var 4) (.var 5)), (.sl 6 (.lit 0) (.var 7) (.var 8))], 121⟩]))
 (.again 0 1 [(.int .i64), (.int .i64), (.int .i64)] [(.int .i64 (.var 10)), (.int .i64 (.var 11)), (.int .i64 (.bin .add .i64 (.var 12) (.lit 1)))] [⟨[(.sl 0 (.lit 0) (.var 1) (.var 2)), (.sl 3 (.lit 0) (.var 4) (.var 5)), (.sl 6 (.lit 0) (.var 7) (.var 8))], 121⟩]))))
 (.ret (.tup [(.int .i64 (.var 10)), (.int .i64 (.var 11))]) [⟨[(.sl 0 (.lit 0) (.var 1) (.var 2)), (.sl 3 (.lit 0) (.var 4) (.var 5)), (.sl 6 (.lit 0) (.var 7) (.var 8))], 121⟩])))))
theorem S__sankoff_problem__best : FnIs Tryd.prog n__sankoff_problem__best [(.agg [.sl, .sl, .sl]), .val] T__sankoff_problem__best := ⟨Tryd.f60, [{ key := 7, tmps := [], join := true, dead := 33822837768 }], 4000, Tryd.func60, by kernel_rfl⟩
abbrev n__sankoff_problem__root_1 : FuncId := 61
def T__sankoff_problem__root_1 : Tree :=
 (.chk (.some 1)
 (.load 1 (.lit 2) [.sl] []
 (.chk (.pick (.cmp .lss (.lit 0) (.var 3)) (.some 2) (.lit false))
 (.chk (.pick (.cmp .geq (.var 0) (.lit 0)) (.pick (.cmp .lss (.var 0) (.lit 12)) (.some 2) (.lit false)) (.lit false))
 (.load 2 (.off (.var 0) 1 (.lit 0)) [(.int .i64)] []
 (.ret (.int .i64 (.var 5)) []))))))
theorem S__sankoff_problem__root_1 : FnIs Tryd.prog n__sankoff_problem__root_1 [(.int .i64), .ptr] T__sankoff_problem__root_1 := ⟨Tryd.f61, [], 4000, Tryd.func61, by kernel_rfl⟩
abbrev n_sankoff_Check : FuncId := 72
def T_sankoff_Check : Tree :=
 (.call false 4 [(.sl 0 (.lit 0) (.var 1) (.var 2))] (.tup [.sl, (.int .i64)]) []
 (.ite (.cmp .neq (.var 12) (.lit 0))
 (.ret (.int .i64 (.lit 16)) [])
 (.call false 42 [(.sl 3 (.lit 0) (.var 4) (.var 5))] .bool []
 (.ite (.not (.var 13))
 (.ret (.int .i64 (.lit 2)) [])
 (.chk (.cmp .geq (.var 7) (.lit 0))
 (.chk (.cmp .geq (.var 10) (.lit 0))
 (.ite (.cmp .neq (.var 7) (.var 10))
 (.ret (.int .i64 (.lit 2)) [])
 (.chk (.cmp .geq (.var 7) (.lit 0))
 (.loop 0 [(.int .i64), (.int .i64)] [(.int .i64 (.lit 0)), (.int .i64 (.lit 0))] [] []
 (.ite (.cmp .lss (.var 15) (.var 7))
 (.chk (.pick (.cmp .geq (.var 15) (.lit 0)) (.pick (.cmp .lss (.var 15) (.var 7)) (.some 6) (.lit false)) (.lit false))
 (.load 6 (.off (.var 15) 1 (.lit 0)) [(.int .i64)] []
 (.ite (.cmp .lss (.var 16) (.lit (-1)))
 (.ret (.int .i64 (.lit 3)) [])
 (.chk (.cmp .geq (.var 4) (.lit 0))
 (.ite (.cmp .geq (.var 16) (.var 4))
 (.ret (.int .i64 (.lit 3)) [])
 (.again 0 0 [(.int .i64), (.int .i64)] [(.int .i64 (.var 14)), (.int .i64 (.bin .add .i64 (.var 15) (.lit 1)))] []))))))
 (.ret (.int .i64 (.lit 0)) [])))))))))))
theorem S_sankoff_Check : FnIs Tryd.prog n_sankoff_Check [.sl, .sl, .sl] T_sankoff_Check := ⟨Tryd.f72, [], 4000, Tryd.func72, by kernel_rfl⟩
abbrev n_sankoff_backwards : FuncId := 73
def T_sankoff_backwards : Tree :=
 (.alloc
 (.ret (.fn (.func 77) [] [(.loc 0 0)]) [⟨[(.sl 0 (.lit 0) (.var 1) (.var 2))], 22⟩]))
theorem S_sankoff_backwards : FnIs Tryd.prog n_sankoff_backwards [.sl] T_sankoff_backwards := ⟨Tryd.f73, [], 4000, Tryd.func73, by kernel_rfl⟩
abbrev n__sankoff_problem__least : FuncId := 74
def T__sankoff_problem__least : Tree :=
 (.alloc
 (.alloc
 (.alloc
 (.call false 60 [(.agg [(.sl 0 (.lit 0) (.var 1) (.var 2)), (.sl 3 (.lit 0) (.var 4) (.var 5)), (.sl 6 (.lit 0) (.var 7) (.var 8))]), (.fn (.func 78) [] [(.loc 0 0), (.loc 1 0), (.loc 2 0)])] (.tup [(.int .i64), (.int .i64)]) [⟨[(.sl 0 (.lit 0) (.var 1) (.var 2)), (.sl 3 (.lit 0) (.var 4) (.var 5)), (.sl 6 (.lit 0) (.var 7) (.var 8))], 121⟩, ⟨[(.int .i64 (.var 9))], 3⟩, ⟨[(.int .i64 (.var 10))], 3⟩]
 (.ret (.tup [(.int .i64 (.var 11)), (.int .i64 (.var 12))]) [⟨[(.sl 0 (.lit 0) (.var 1) (.var 2)), (.sl 3 (.lit 0) (.var 4) (.var 5)), (.sl 6 (.lit 0) (.var 7) (.var 8))], 121⟩, ⟨[(.int .i64 (.var 9))], 3⟩, ⟨[(.int .i64 (.var 10))], 3⟩])))))
theorem S__sankoff_problem__least : FnIs Tryd.prog n__sankoff_problem__least [(.agg [.sl, .sl, .sl]), (.int .i64), (.int .i64)] T__sankoff_problem__least := ⟨Tryd.f74, [], 4000, Tryd.func74, by kernel_rfl⟩
abbrev n_sankoff_backwards_1 : FuncId := 77
def T_sankoff_backwards_1 : Tree :=
 (.load 1 (.lit 0) [.sl] []
 (.chk (.cmp .geq (.var 3) (.lit 0))
 (.loop 0 [(.int .i64)] [(.int .i64 (.lit 0))] [] []
 (.ite (.cmp .lss (.var 5) (.var 3))
 (.load 1 (.lit 0) [.sl] []
 (.chk (.cmp .geq (.var 7) (.lit 0))
 (.callv false (.val 0) [(.int .i64 (.bin .sub .i64 (.bin .sub .i64 (.var 7) (.lit 1)) (.var 5)))] .bool []
 (.ite (.not (.var 9))
 (.ret (.tup []) [])
 (.again 0 0 [(.int .i64)] [(.int .i64 (.bin .add .i64 (.var 5) (.lit 1)))] [])))))
 (.ret (.tup []) [])))))
theorem S_sankoff_backwards_1 : FnIs Tryd.prog n_sankoff_backwards_1 [.val, .ptr] T_sankoff_backwards_1 := ⟨Tryd.f77, [], 4000, Tryd.func77, by kernel_rfl⟩
abbrev n__sankoff_problem__least_1 : FuncId := 78
def T__sankoff_problem__least_1 : Tree :=
 (.load 1 (.lit 0) [.sl, .sl, .sl] []
 (.load 2 (.lit 0) [(.int .i64)] []
 (.load 3 (.lit 0) [(.int .i64)] []
 (.call false 79 [(.agg [(.sl 4 (.lit 0) (.var 5) (.var 6)), (.sl 7 (.lit 0) (.var 8) (.var 9)), (.sl 10 (.lit 0) (.var 11) (.var 12))]), (.int .i64 (.var 13)), (.int .i64 (.var 14)), (.int .i64 (.var 0))] (.int .i64) []
 (.ret (.int .i64 (.var 15)) [])))))
theorem S__sankoff_problem__least_1 : FnIs Tryd.prog n__sankoff_problem__least_1 [(.int .i64), .ptr, .ptr, .ptr] T__sankoff_problem__least_1 := ⟨Tryd.f78, [], 4000, Tryd.func78, by kernel_rfl⟩
abbrev n__sankoff_problem__step : FuncId := 79
def T__sankoff_problem__step : Tree :=
 (.alloc
 (.chk (.pick (.cmp .geq (.var 10) (.lit 0)) (.pick (.cmp .lss (.var 10) (.var 4)) (.some 3) (.lit false)) (.lit false))
 (.load 3 (.off (.var 10) 1 (.lit 0)) [.sl] [⟨[(.sl 0 (.lit 0) (.var 1) (.var 2)), (.sl 3 (.lit 0) (.var 4) (.var 5)), (.sl 6 (.lit 0) (.var 7) (.var 8))], 121⟩]
 (.chk (.pick (.cmp .geq (.var 11) (.lit 0)) (.pick (.cmp .lss (.var 11) (.var 13)) (.some 12) (.lit false)) (.lit false))
 (.load 12 (.off (.var 11) 1 (.lit 0)) [(.int .i64)] [⟨[(.sl 0 (.lit 0) (.var 1) (.var 2)), (.sl 3 (.lit 0) (.var 4) (.var 5)), (.sl 6 (.lit 0) (.var 7) (.var 8))], 121⟩]
 (.ite (.cmp .eql (.var 15) (.lit (-1)))
 (.ret (.int .i64 (.lit (-1))) [⟨[(.sl 0 (.lit 0) (.var 1) (.var 2)), (.sl 3 (.lit 0) (.var 4) (.var 5)), (.sl 6 (.lit 0) (.var 7) (.var 8))], 121⟩])
 (.chk (.pick (.cmp .geq (.var 9) (.lit 0)) (.pick (.cmp .lss (.var 9) (.var 7)) (.some 6) (.lit false)) (.lit false))
 (.chk (.pick (.cmp .geq (.off (.var 9) 12 (.lit 0)) (.lit 0)) (.pick (.cmp .geq (.var 11) (.lit 0)) (.pick (.cmp .lss (.var 11) (.lit 12)) (.some 6) (.lit false)) (.lit false)) (.lit false))
 (.load 6 (.off (.var 11) 1 (.off (.var 9) 12 (.lit 0))) [(.int .i64)] [⟨[(.sl 0 (.lit 0) (.var 1) (.var 2)), (.sl 3 (.lit 0) (.var 4) (.var 5)), (.sl 6 (.lit 0) (.var 7) (.var 8))], 121⟩]
 (.ite (.cmp .eql (.var 16) (.lit (-1)))
 (.ret (.int .i64 (.lit (-1))) [⟨[(.sl 0 (.lit 0) (.var 1) (.var 2)), (.sl 3 (.lit 0) (.var 4) (.var 5)), (.sl 6 (.lit 0) (.var 7) (.var 8))], 121⟩])
 (.chk (.pick (.cmp .geq (.var 10) (.lit 0)) (.pick (.cmp .lss (.var 10) (.var 4)) (.some 3) (.lit false)) (.lit false))
 (.load 3 (.off (.var 10) 1 (.lit 0)) [.sl] [⟨[(.sl 0 (.lit 0) (.var 1) (.var 2)), (.sl 3 (.lit 0) (.var 4) (.var 5)), (.sl 6 (.lit 0) (.var 7) (.var 8))], 121⟩]
 (.chk (.pick (.cmp .geq (.var 11) (.lit 0)) (.pick (.cmp .lss (.var 11) (.var 18)) (.some 17) (.lit false)) (.lit false))
 (.load 17 (.off (.var 11) 1 (.lit 0)) [(.int .i64)] [⟨[(.sl 0 (.lit 0) (.var 1) (.var 2)), (.sl 3 (.lit 0) (.var 4) (.var 5)), (.sl 6 (.lit 0) (.var 7) (.var 8))], 121⟩]
 (.chk (.pick (.cmp .geq (.var 9) (.lit 0)) (.pick (.cmp .lss (.var 9) (.var 7)) (.some 6) (.lit false)) (.lit false))
 (.chk (.pick (.cmp .geq (.off (.var 9) 12 (.lit 0)) (.lit 0)) (.pick (.cmp .geq (.var 11) (.lit 0)) (.pick (.cmp .lss (.var 11) (.lit 12)) (.some 6) (.lit false)) (.lit false)) (.lit false))
 (.load 6 (.off (.var 11) 1 (.off (.var 9) 12 (.lit 0))) [(.int .i64)] [⟨[(.sl 0 (.lit 0) (.var 1) (.var 2)), (.sl 3 (.lit 0) (.var 4) (.var 5)), (.sl 6 (.lit 0) (.var 7) (.var 8))], 121⟩]
 (.ret (.int .i64 (.bin .add .i64 (.var 20) (.var 21))) [⟨[(.sl 0 (.lit 0) (.var 1) (.var 2)), (.sl 3 (.lit 0) (.var 4) (.var 5)), (.sl 6 (.lit 0) (.var 7) (.var 8))], 121⟩]))))))))))))))))))
theorem S__sankoff_problem__step : FnIs Tryd.prog n__sankoff_problem__step [(.agg [.sl, .sl, .sl]), (.int .i64), (.int .i64), (.int .i64)] T__sankoff_problem__step := ⟨Tryd.f79, [], 4000, Tryd.func79, by kernel_rfl⟩
end Go.Proofs.YtkhcfbdjmpodbaaDoor
