/- The trees of this seat's functions, printed by a program of mine (SyGen), checked here by the kernel. -/
import Derived.Test.YtkhcfbdjmpodbaaDoorSyDef
import Derived.Test.YtkhcfbdjmpodbaaDoorProg
import Derived.KernelRfl
set_option maxRecDepth 100000
namespace Go.Proofs.YtkhcfbdjmpodbaaDoor
open Go Go.Sy
abbrev n_corr_Cells : FuncId := 15
def T_corr_Cells : Tree :=
 (.alloc
 (.chk (.cmp .geq (.var 2) (.lit 0))
 (.ite (.cmp .gtr (.var 2) (.lit 64))
 (.ret (.tup [(.cst (.slice none 0 0)), (.int .i64 (.lit 12))]) [⟨[(.val 0), (.sl 1 (.lit 0) (.var 2) (.var 3))], 25⟩])
 (.chk (.cmp .geq (.var 2) (.lit 0))
 (.loop 0 [.sl, (.int .i64), .sl, .sl, (.int .i64)] [(.cst (.slice none 0 0)), (.int .i64 (.lit 0)), (.cst (.slice none 0 0)), (.cst (.slice none 0 0)), (.int .i64 (.lit 0))] [⟨[(.val 0), (.sl 1 (.lit 0) (.var 2) (.var 3))], 25⟩] [⟨[(.val 0), (.sl 1 (.lit 0) (.var 2) (.var 3))], 25⟩]
 (.ite (.cmp .lss (.var 17) (.var 2))
 (.chk (.pick (.cmp .geq (.var 17) (.lit 0)) (.pick (.cmp .lss (.var 17) (.var 2)) (.some 1) (.lit false)) (.lit false))
 (.load 1 (.off (.var 17) 2 (.lit 0)) [.bool, .sl] [⟨[(.val 0), (.sl 1 (.lit 0) (.var 2) (.var 3))], 25⟩]
 (.alloc
 (.join 1 [.sl, (.int .i64), .sl, .sl] [⟨[(.val 0), (.sl 1 (.lit 0) (.var 2) (.var 3))], 25⟩, ⟨[(.bool (.var 18)), (.sl 19 (.lit 0) (.var 20) (.var 21))], 47⟩]
 (.ite (.var 18)
 (.alloc
 (.ext false ⟨(.call ⟨.builtin .append, #[(.tmp 0), (.tmp 0)], #[57, 57]⟩), 57, [(.sl 11 (.lit 0) (.var 12) (.var 13)), (.slc 2 0 1 1)]⟩ .sl [⟨[(.val 0), (.sl 1 (.lit 0) (.var 2) (.var 3))], 25⟩, ⟨[(.bool (.var 18)), (.sl 19 (.lit 0) (.var 20) (.var 21))], 47⟩, ⟨[(.sl 19 (.lit 0) (.var 20) (.var 21))], 37⟩]
 (.alloc
 (.ext false ⟨(.call ⟨.builtin .append, #[(.tmp 0), (.tmp 0)], #[29, 29]⟩), 29, [(.sl 14 (.lit 0) (.var 15) (.var 16)), (.slc 3 0 1 1)]⟩ .sl [⟨[(.val 0), (.sl 1 (.lit 0) (.var 2) (.var 3))], 25⟩, ⟨[(.bool (.var 18)), (.sl 19 (.lit 0) (.var 20) (.var 21))], 47⟩, ⟨[(.sl 19 (.lit 0) (.var 20) (.var 21))], 37⟩, ⟨[(.int .i64 (.var 17))], 3⟩]
 (.again 1 2 [.sl, (.int .i64), .sl, .sl] [(.sl 7 (.lit 0) (.var 8) (.var 9)), (.int .i64 (.var 10)), (.sl 22 (.lit 0) (.var 23) (.var 24)), (.sl 25 (.lit 0) (.var 26) (.var 27))] [⟨[(.val 0), (.sl 1 (.lit 0) (.var 2) (.var 3))], 25⟩, ⟨[(.bool (.var 18)), (.sl 19 (.lit 0) (.var 20) (.var 21))], 47⟩, ⟨[(.sl 19 (.lit 0) (.var 20) (.var 21))], 37⟩, ⟨[(.int .i64 (.var 17))], 3⟩])))))
 (.chk (.cmp .geq (.var 20) (.lit 0))
 (.ite (.cmp .gtr (.var 20) (.lit 0))
 (.ret (.tup [(.cst (.slice none 0 0)), (.int .i64 (.lit 2))]) [⟨[(.val 0), (.sl 1 (.lit 0) (.var 2) (.var 3))], 25⟩, ⟨[(.bool (.var 18)), (.sl 19 (.lit 0) (.var 20) (.var 21))], 47⟩])
 (.again 1 2 [.sl, (.int .i64), .sl, .sl] [(.sl 7 (.lit 0) (.var 8) (.var 9)), (.int .i64 (.var 10)), (.sl 11 (.lit 0) (.var 12) (.var 13)), (.sl 14 (.lit 0) (.var 15) (.var 16))] [⟨[(.val 0), (.sl 1 (.lit 0) (.var 2) (.var 3))], 25⟩, ⟨[(.bool (.var 18)), (.sl 19 (.lit 0) (.var 20) (.var 21))], 47⟩]))))
 (.again 0 1 [.sl, (.int .i64), .sl, .sl, (.int .i64)] [(.sl 22 (.lit 0) (.var 23) (.var 24)), (.int .i64 (.var 25)), (.sl 26 (.lit 0) (.var 27) (.var 28)), (.sl 29 (.lit 0) (.var 30) (.var 31)), (.int .i64 (.bin .add .i64 (.var 17) (.lit 1)))] [⟨[(.val 0), (.sl 1 (.lit 0) (.var 2) (.var 3))], 25⟩, ⟨[(.bool (.var 18)), (.sl 19 (.lit 0) (.var 20) (.var 21))], 47⟩])))))
 (.call false 32 [(.sl 11 (.lit 0) (.var 12) (.var 13)), (.sl 4 (.lit 0) (.var 5) (.var 6))] (.tup [.sl, (.int .i64)]) [⟨[(.val 0), (.sl 1 (.lit 0) (.var 2) (.var 3))], 25⟩]
 (.ite (.cmp .neq (.var 21) (.lit 0))
 (.ret (.tup [(.cst (.slice none 0 0)), (.int .i64 (.var 21))]) [⟨[(.val 0), (.sl 1 (.lit 0) (.var 2) (.var 3))], 25⟩])
 (.chk (.cmp .geq (.var 19) (.lit 0))
 (.loop 0 [.sl, (.int .i64)] [(.cst (.slice none 0 0)), (.int .i64 (.lit 0))] [⟨[(.val 0), (.sl 1 (.lit 0) (.var 2) (.var 3))], 25⟩] [⟨[(.val 0), (.sl 1 (.lit 0) (.var 2) (.var 3))], 25⟩]
 (.ite (.cmp .lss (.var 25) (.var 19))
 (.chk (.pick (.cmp .geq (.var 25) (.lit 0)) (.pick (.cmp .lss (.var 25) (.var 19)) (.some 18) (.lit false)) (.lit false))
 (.load 18 (.off (.var 25) 1 (.lit 0)) [.sl] [⟨[(.val 0), (.sl 1 (.lit 0) (.var 2) (.var 3))], 25⟩]
 (.chk (.cmp .geq (.var 2) (.lit 0))
 (.makev 43 16 (.var 2) (.var 2)
 (.chk (.cmp .geq (.var 15) (.lit 0))
 (.loop 1 [(.int .i64)] [(.int .i64 (.lit 0))] [⟨[(.val 0), (.sl 1 (.lit 0) (.var 2) (.var 3))], 25⟩] [⟨[(.val 0), (.sl 1 (.lit 0) (.var 2) (.var 3))], 25⟩]
 (.ite (.cmp .lss (.var 32) (.var 15))
 (.chk (.pick (.cmp .geq (.var 32) (.lit 0)) (.pick (.cmp .lss (.var 32) (.var 15)) (.some 14) (.lit false)) (.lit false))
 (.load 14 (.off (.var 32) 1 (.lit 0)) [(.int .i64)] [⟨[(.val 0), (.sl 1 (.lit 0) (.var 2) (.var 3))], 25⟩]
 (.chk (.pick (.cmp .geq (.var 32) (.lit 0)) (.pick (.cmp .lss (.var 32) (.var 27)) (.some 26) (.lit false)) (.lit false))
 (.load 26 (.off (.var 32) 3 (.lit 0)) [(.int .i64), (.int .u32), (.int .u32)] [⟨[(.val 0), (.sl 1 (.lit 0) (.var 2) (.var 3))], 25⟩]
 (.chk (.pick (.cmp .geq (.var 33) (.lit 0)) (.pick (.cmp .lss (.var 33) (.var 30)) (.some 29) (.lit false)) (.lit false))
 (.store false 29 (.off (.var 33) 3 (.lit 0)) [(.int .i64 (.var 34)), (.int .u32 (.var 35)), (.int .u32 (.var 36))] [⟨[(.val 0), (.sl 1 (.lit 0) (.var 2) (.var 3))], 25⟩]
 (.again 1 1 [(.int .i64)] [(.int .i64 (.bin .add .i64 (.var 32) (.lit 1)))] [⟨[(.val 0), (.sl 1 (.lit 0) (.var 2) (.var 3))], 25⟩])))))))
 (.alloc
 (.ext false ⟨(.call ⟨.builtin .append, #[(.tmp 0), (.tmp 0)], #[34, 34]⟩), 34, [(.sl 22 (.lit 0) (.var 23) (.var 24)), (.slc 1 0 1 1)]⟩ .sl [⟨[(.val 0), (.sl 1 (.lit 0) (.var 2) (.var 3))], 25⟩, ⟨[(.sl 29 (.lit 0) (.var 30) (.var 31))], 38⟩]
 (.again 0 1 [.sl, (.int .i64)] [(.sl 33 (.lit 0) (.var 34) (.var 35)), (.int .i64 (.bin .add .i64 (.var 25) (.lit 1)))] [⟨[(.val 0), (.sl 1 (.lit 0) (.var 2) (.var 3))], 25⟩, ⟨[(.sl 29 (.lit 0) (.var 30) (.var 31))], 38⟩]))))))))))
 (.ret (.tup [(.sl 22 (.lit 0) (.var 23) (.var 24)), (.int .i64 (.lit 0))]) [⟨[(.val 0), (.sl 1 (.lit 0) (.var 2) (.var 3))], 25⟩]))))))))))))
theorem S_corr_Cells : FnIs Tryd.prog n_corr_Cells [(.agg [.val, .sl]), .sl] T_corr_Cells := ⟨Tryd.f15, [{ key := 9, tmps := [], join := true, dead := 309482794014295206173351944 }], 4000, Tryd.func15, by kernel_rfl⟩
abbrev n_corr_Total : FuncId := 39
def T_corr_Total : Tree :=
 (.alloc
 (.call false 53 [(.slc 0 0 1 1)] (.int .i64) [⟨[(.sl 0 (.lit 0) (.var 1) (.var 2))], 98⟩]
 (.ite (.cmp .neq (.var 3) (.lit 0))
 (.ret (.tup [(.int .i64 (.lit 0)), (.int .i64 (.var 3))]) [⟨[(.sl 0 (.lit 0) (.var 1) (.var 2))], 98⟩])
 (.alloc
 (.alloc
 (.call false 54 [(.slc 2 0 1 1)] .val [⟨[(.sl 0 (.lit 0) (.var 1) (.var 2))], 98⟩, ⟨[(.int .i64 (.lit 0))], 2⟩, ⟨[(.sl 0 (.lit 0) (.var 1) (.var 2))], 98⟩]
 (.range (.val 4) [(.agg [.sl, (.int .i64)])] [(.int .i64)] [(.int .i64 (.lit 0))] [⟨[(.sl 0 (.lit 0) (.var 1) (.var 2))], 98⟩, ⟨[(.int .i64 (.lit 0))], 2⟩, ⟨[(.sl 0 (.lit 0) (.var 1) (.var 2))], 98⟩] [⟨[(.sl 0 (.lit 0) (.var 1) (.var 2))], 98⟩, ⟨[(.int .i64 (.var 5))], 2⟩, ⟨[(.sl 0 (.lit 0) (.var 1) (.var 2))], 98⟩]
 (.alloc
 (.leave 0 3 [(.int .i64)] [(.int .i64 (.bin .add .i64 (.var 5) (.var 9)))] [⟨[(.sl 0 (.lit 0) (.var 1) (.var 2))], 98⟩, ⟨[(.int .i64 (.bin .add .i64 (.var 5) (.var 9)))], 2⟩, ⟨[(.sl 0 (.lit 0) (.var 1) (.var 2))], 98⟩, ⟨[(.sl 6 (.lit 0) (.var 7) (.var 8)), (.int .i64 (.var 9))], 97⟩]))
 (.ret (.tup [(.int .i64 (.var 5)), (.int .i64 (.lit 0))]) [⟨[(.sl 0 (.lit 0) (.var 1) (.var 2))], 98⟩, ⟨[(.int .i64 (.var 5))], 2⟩, ⟨[(.sl 0 (.lit 0) (.var 1) (.var 2))], 98⟩]))))))))
theorem S_corr_Total : FnIs Tryd.prog n_corr_Total [.sl] T_corr_Total := ⟨Tryd.f39, [], 4000, Tryd.func39, by kernel_rfl⟩
abbrev n_corr_check : FuncId := 53
def T_corr_check : Tree :=
 (.chk (.cmp .geq (.var 1) (.lit 0))
 (.loop 0 [(.int .i64), (.int .i64)] [(.int .i64 (.lit 0)), (.int .i64 (.lit 0))] [] []
 (.ite (.cmp .lss (.var 4) (.var 1))
 (.chk (.pick (.cmp .geq (.var 4) (.lit 0)) (.pick (.cmp .lss (.var 4) (.var 1)) (.some 0) (.lit false)) (.lit false))
 (.load 0 (.off (.var 4) 1 (.lit 0)) [.sl] []
 (.chk (.cmp .geq (.var 6) (.lit 0))
 (.ite (.cmp .gtr (.var 6) (.lit 4096))
 (.ret (.int .i64 (.lit 12)) [])
 (.call false 62 [(.sl 5 (.lit 0) (.var 6) (.var 7)), (.cst (.func (.func 63) #[] #[]))] .bool []
 (.ite (.var 8)
 (.ret (.int .i64 (.lit 12)) [])
 (.again 0 0 [(.int .i64), (.int .i64)] [(.int .i64 (.var 3)), (.int .i64 (.bin .add .i64 (.var 4) (.lit 1)))] [])))))))
 (.chk (.cmp .geq (.var 1) (.lit 0))
 (.loop 0 [(.int .i64), (.int .i64), (.int .i64)] [(.int .i64 (.var 3)), (.int .i64 (.lit (-1))), (.int .i64 (.lit 0))] [] []
 (.ite (.cmp .lss (.var 7) (.var 1))
 (.chk (.pick (.cmp .geq (.var 7) (.lit 0)) (.pick (.cmp .lss (.var 7) (.var 1)) (.some 0) (.lit false)) (.lit false))
 (.load 0 (.off (.var 7) 1 (.lit 0)) [.sl] []
 (.chk (.cmp .geq (.var 9) (.lit 0))
 (.loop 1 [(.int .i64), (.int .i64), (.int .i64)] [(.int .i64 (.var 5)), (.int .i64 (.var 6)), (.int .i64 (.lit 0))] [] []
 (.ite (.cmp .lss (.var 13) (.var 9))
 (.chk (.pick (.cmp .geq (.var 13) (.lit 0)) (.pick (.cmp .lss (.var 13) (.var 9)) (.some 8) (.lit false)) (.lit false))
 (.load 8 (.off (.var 13) 2 (.lit 0)) [.sl, (.int .i64)] []
 (.alloc
 (.ite (.cmp .lss (.var 12) (.lit 0))
 (.chk (.cmp .geq (.var 15) (.lit 0))
 (.chk (.cmp .geq (.var 15) (.lit 0))
 (.ite (.pick (.pick (.cmp .neq (.var 15) (.var 15)) (.lit true) (.cmp .lss (.var 17) (.lit 1))) (.lit true) (.cmp .gtr (.var 17) (.lit 2147483647)))
 (.ret (.int .i64 (.lit 2)) [⟨[(.sl 14 (.lit 0) (.var 15) (.var 16)), (.int .i64 (.var 17))], 97⟩])
 (.call false 64 [(.sl 14 (.lit 0) (.var 15) (.var 16)), (.cst (.func (.func 65) #[] #[]))] .bool [⟨[(.sl 14 (.lit 0) (.var 15) (.var 16)), (.int .i64 (.var 17))], 97⟩]
 (.ite (.var 18)
 (.ret (.int .i64 (.lit 2)) [⟨[(.sl 14 (.lit 0) (.var 15) (.var 16)), (.int .i64 (.var 17))], 97⟩])
 (.again 1 0 [(.int .i64), (.int .i64), (.int .i64)] [(.int .i64 (.var 11)), (.int .i64 (.var 15)), (.int .i64 (.bin .add .i64 (.var 13) (.lit 1)))] [⟨[(.sl 14 (.lit 0) (.var 15) (.var 16)), (.int .i64 (.var 17))], 97⟩]))))))
 (.chk (.cmp .geq (.var 15) (.lit 0))
 (.ite (.pick (.pick (.cmp .neq (.var 15) (.var 12)) (.lit true) (.cmp .lss (.var 17) (.lit 1))) (.lit true) (.cmp .gtr (.var 17) (.lit 2147483647)))
 (.ret (.int .i64 (.lit 2)) [⟨[(.sl 14 (.lit 0) (.var 15) (.var 16)), (.int .i64 (.var 17))], 97⟩])
 (.call false 64 [(.sl 14 (.lit 0) (.var 15) (.var 16)), (.cst (.func (.func 65) #[] #[]))] .bool [⟨[(.sl 14 (.lit 0) (.var 15) (.var 16)), (.int .i64 (.var 17))], 97⟩]
 (.ite (.var 18)
 (.ret (.int .i64 (.lit 2)) [⟨[(.sl 14 (.lit 0) (.var 15) (.var 16)), (.int .i64 (.var 17))], 97⟩])
 (.again 1 0 [(.int .i64), (.int .i64), (.int .i64)] [(.int .i64 (.var 11)), (.int .i64 (.var 12)), (.int .i64 (.bin .add .i64 (.var 13) (.lit 1)))] [⟨[(.sl 14 (.lit 0) (.var 15) (.var 16)), (.int .i64 (.var 17))], 97⟩])))))))))
 (.again 0 0 [(.int .i64), (.int .i64), (.int .i64)] [(.int .i64 (.var 11)), (.int .i64 (.var 12)), (.int .i64 (.bin .add .i64 (.var 7) (.lit 1)))] []))))))
 (.ret (.int .i64 (.lit 0)) [])))))))
theorem S_corr_check : FnIs Tryd.prog n_corr_check [.sl] T_corr_check := ⟨Tryd.f53, [], 4000, Tryd.func53, by kernel_rfl⟩
abbrev n_corr_all : FuncId := 54
def T_corr_all : Tree :=
 (.alloc
 (.ret (.fn (.func 67) [] [(.loc 0 0)]) [⟨[(.sl 0 (.lit 0) (.var 1) (.var 2))], 140⟩]))
theorem S_corr_all : FnIs Tryd.prog n_corr_all [.sl] T_corr_all := ⟨Tryd.f54, [], 4000, Tryd.func54, by kernel_rfl⟩
abbrev n_slices_ContainsFunc___api_Corr_api_Corr_ : FuncId := 62
def T_slices_ContainsFunc___api_Corr_api_Corr_ : Tree :=
 (.call false 75 [(.sl 0 (.lit 0) (.var 1) (.var 2)), (.val 3)] (.int .i64) []
 (.ret (.bool (.cmp .geq (.var 4) (.lit 0))) []))
theorem S_slices_ContainsFunc___api_Corr_api_Corr_ : FnIs Tryd.prog n_slices_ContainsFunc___api_Corr_api_Corr_ [.sl, .val] T_slices_ContainsFunc___api_Corr_api_Corr_ := ⟨Tryd.f62, [], 4000, Tryd.func62, by kernel_rfl⟩
abbrev n_corr_check_1 : FuncId := 63
def T_corr_check_1 : Tree :=
 (.alloc
 (.chk (.cmp .geq (.var 1) (.lit 0))
 (.ret (.bool (.cmp .gtr (.var 1) (.lit 64))) [⟨[(.sl 0 (.lit 0) (.var 1) (.var 2)), (.int .i64 (.var 3))], 97⟩])))
theorem S_corr_check_1 : FnIs Tryd.prog n_corr_check_1 [(.agg [.sl, (.int .i64)])] T_corr_check_1 := ⟨Tryd.f63, [], 4000, Tryd.func63, by kernel_rfl⟩
abbrev n_slices_ContainsFunc___api_Cell_api_Cell_ : FuncId := 64
def T_slices_ContainsFunc___api_Cell_api_Cell_ : Tree :=
 (.call false 76 [(.sl 0 (.lit 0) (.var 1) (.var 2)), (.val 3)] (.int .i64) []
 (.ret (.bool (.cmp .geq (.var 4) (.lit 0))) []))
theorem S_slices_ContainsFunc___api_Cell_api_Cell_ : FnIs Tryd.prog n_slices_ContainsFunc___api_Cell_api_Cell_ [.sl, .val] T_slices_ContainsFunc___api_Cell_api_Cell_ := ⟨Tryd.f64, [], 4000, Tryd.func64, by kernel_rfl⟩
abbrev n_corr_check_2 : FuncId := 65
def T_corr_check_2 : Tree :=
 (.alloc
 (.call false 66 [(.agg [(.int .i64 (.var 0)), (.int .u32 (.var 1)), (.int .u32 (.var 2))])] .bool [⟨[(.int .i64 (.var 0)), (.int .u32 (.var 1)), (.int .u32 (.var 2))], 43⟩]
 (.ret (.bool (.not (.var 3))) [⟨[(.int .i64 (.var 0)), (.int .u32 (.var 1)), (.int .u32 (.var 2))], 43⟩])))
theorem S_corr_check_2 : FnIs Tryd.prog n_corr_check_2 [(.agg [(.int .i64), (.int .u32), (.int .u32)])] T_corr_check_2 := ⟨Tryd.f65, [], 4000, Tryd.func65, by kernel_rfl⟩
abbrev n_corr_valid : FuncId := 66
def T_corr_valid : Tree :=
 (.alloc
 (.ite (.cmp .eql (.var 0) (.lit 0))
 (.ret (.bool (.pick (.cmp .eql (.var 1) (.lit 0)) (.cmp .eql (.var 2) (.lit 0)) (.lit false))) [⟨[(.int .i64 (.var 0)), (.int .u32 (.var 1)), (.int .u32 (.var 2))], 43⟩])
 (.ite (.cmp .eql (.var 0) (.lit 1))
 (.ret (.bool (.pick (.cmp .eql (.var 1) (.lit 0)) (.cmp .eql (.var 2) (.lit 0)) (.lit false))) [⟨[(.int .i64 (.var 0)), (.int .u32 (.var 1)), (.int .u32 (.var 2))], 43⟩])
 (.ite (.cmp .eql (.var 0) (.lit 2))
 (.call false 49 [(.agg [(.int .u32 (.var 1)), (.int .u32 (.var 2))])] .bool [⟨[(.int .i64 (.var 0)), (.int .u32 (.var 1)), (.int .u32 (.var 2))], 43⟩]
 (.ret (.bool (.var 3)) [⟨[(.int .i64 (.var 0)), (.int .u32 (.var 1)), (.int .u32 (.var 2))], 43⟩]))
 (.ret (.bool (.lit false)) [⟨[(.int .i64 (.var 0)), (.int .u32 (.var 1)), (.int .u32 (.var 2))], 43⟩])))))
theorem S_corr_valid : FnIs Tryd.prog n_corr_valid [(.agg [(.int .i64), (.int .u32), (.int .u32)])] T_corr_valid := ⟨Tryd.f66, [], 4000, Tryd.func66, by kernel_rfl⟩
abbrev n_corr_all_1 : FuncId := 67
def T_corr_all_1 : Tree :=
 (.load 1 (.lit 0) [.sl] []
 (.chk (.cmp .geq (.var 3) (.lit 0))
 (.loop 0 [(.int .i64)] [(.int .i64 (.lit 0))] [] []
 (.ite (.cmp .lss (.var 5) (.var 3))
 (.chk (.pick (.cmp .geq (.var 5) (.lit 0)) (.pick (.cmp .lss (.var 5) (.var 3)) (.some 2) (.lit false)) (.lit false))
 (.load 2 (.off (.var 5) 1 (.lit 0)) [.sl] []
 (.chk (.cmp .geq (.var 7) (.lit 0))
 (.loop 1 [(.int .i64)] [(.int .i64 (.lit 0))] [] []
 (.ite (.cmp .lss (.var 9) (.var 7))
 (.chk (.pick (.cmp .geq (.var 9) (.lit 0)) (.pick (.cmp .lss (.var 9) (.var 7)) (.some 6) (.lit false)) (.lit false))
 (.load 6 (.off (.var 9) 2 (.lit 0)) [.sl, (.int .i64)] []
 (.alloc
 (.callv false (.val 0) [(.agg [(.sl 10 (.lit 0) (.var 11) (.var 12)), (.int .i64 (.var 13))])] .bool [⟨[(.sl 10 (.lit 0) (.var 11) (.var 12)), (.int .i64 (.var 13))], 97⟩]
 (.ite (.not (.var 14))
 (.ret (.tup []) [⟨[(.sl 10 (.lit 0) (.var 11) (.var 12)), (.int .i64 (.var 13))], 97⟩])
 (.again 1 0 [(.int .i64)] [(.int .i64 (.bin .add .i64 (.var 9) (.lit 1)))] [⟨[(.sl 10 (.lit 0) (.var 11) (.var 12)), (.int .i64 (.var 13))], 97⟩]))))))
 (.again 0 0 [(.int .i64)] [(.int .i64 (.bin .add .i64 (.var 5) (.lit 1)))] []))))))
 (.ret (.tup []) [])))))
theorem S_corr_all_1 : FnIs Tryd.prog n_corr_all_1 [.val, .ptr] T_corr_all_1 := ⟨Tryd.f67, [], 4000, Tryd.func67, by kernel_rfl⟩
abbrev n_slices_IndexFunc___api_Corr_api_Corr_ : FuncId := 75
def T_slices_IndexFunc___api_Corr_api_Corr_ : Tree :=
 (.chk (.cmp .geq (.var 1) (.lit 0))
 (.loop 0 [(.int .i64), (.int .i64)] [(.int .i64 (.lit 0)), (.int .i64 (.lit 0))] [] []
 (.ite (.cmp .lss (.var 5) (.var 1))
 (.chk (.pick (.cmp .geq (.var 5) (.lit 0)) (.pick (.cmp .lss (.var 5) (.var 1)) (.some 0) (.lit false)) (.lit false))
 (.load 0 (.off (.var 5) 2 (.lit 0)) [.sl, (.int .i64)] []
 (.callv false (.val 3) [(.agg [(.sl 6 (.lit 0) (.var 7) (.var 8)), (.int .i64 (.var 9))])] .bool []
 (.ite (.var 10)
 (.ret (.int .i64 (.var 5)) [])
 (.again 0 0 [(.int .i64), (.int .i64)] [(.int .i64 (.var 4)), (.int .i64 (.bin .add .i64 (.var 5) (.lit 1)))] [])))))
 (.ret (.int .i64 (.lit (-1))) []))))
theorem S_slices_IndexFunc___api_Corr_api_Corr_ : FnIs Tryd.prog n_slices_IndexFunc___api_Corr_api_Corr_ [.sl, .val] T_slices_IndexFunc___api_Corr_api_Corr_ := ⟨Tryd.f75, [], 4000, Tryd.func75, by kernel_rfl⟩
abbrev n_slices_IndexFunc___api_Cell_api_Cell_ : FuncId := 76
def T_slices_IndexFunc___api_Cell_api_Cell_ : Tree :=
 (.chk (.cmp .geq (.var 1) (.lit 0))
 (.loop 0 [(.int .i64), (.int .i64)] [(.int .i64 (.lit 0)), (.int .i64 (.lit 0))] [] []
 (.ite (.cmp .lss (.var 5) (.var 1))
 (.chk (.pick (.cmp .geq (.var 5) (.lit 0)) (.pick (.cmp .lss (.var 5) (.var 1)) (.some 0) (.lit false)) (.lit false))
 (.load 0 (.off (.var 5) 3 (.lit 0)) [(.int .i64), (.int .u32), (.int .u32)] []
 (.callv false (.val 3) [(.agg [(.int .i64 (.var 6)), (.int .u32 (.var 7)), (.int .u32 (.var 8))])] .bool []
 (.ite (.var 9)
 (.ret (.int .i64 (.var 5)) [])
 (.again 0 0 [(.int .i64), (.int .i64)] [(.int .i64 (.var 4)), (.int .i64 (.bin .add .i64 (.var 5) (.lit 1)))] [])))))
 (.ret (.int .i64 (.lit (-1))) []))))
theorem S_slices_IndexFunc___api_Cell_api_Cell_ : FnIs Tryd.prog n_slices_IndexFunc___api_Cell_api_Cell_ [.sl, .val] T_slices_IndexFunc___api_Cell_api_Cell_ := ⟨Tryd.f76, [], 4000, Tryd.func76, by kernel_rfl⟩
end Go.Proofs.YtkhcfbdjmpodbaaDoor
