/- The trees of this seat's functions, printed by a program of mine (SyGen), checked here by the kernel. -/
import Derived.Test.YtkhcfbdjmpodbaaDoorSyDef
import Derived.Test.YtkhcfbdjmpodbaaDoorProg
import Derived.KernelRfl
set_option maxRecDepth 100000
namespace Go.Proofs.YtkhcfbdjmpodbaaDoor
open Go Go.Sy
abbrev n_multi_first : FuncId := 26
def T_multi_first : Tree :=
 (.chk (.cmp .geq (.var 1) (.lit 0))
 (.loop 0 [(.int .i64), (.int .i64)] [(.int .i64 (.lit 0)), (.int .i64 (.lit 0))] [] []
 (.ite (.cmp .lss (.var 4) (.var 1))
 (.chk (.pick (.cmp .geq (.var 4) (.lit 0)) (.pick (.cmp .lss (.var 4) (.var 1)) (.some 0) (.lit false)) (.lit false))
 (.load 0 (.off (.var 4) 1 (.lit 0)) [.val] []
 (.callv false (.val 5) [] (.int .i64) []
 (.ite (.cmp .neq (.var 6) (.lit 0))
 (.ret (.int .i64 (.var 6)) [])
 (.again 0 0 [(.int .i64), (.int .i64)] [(.int .i64 (.var 3)), (.int .i64 (.bin .add .i64 (.var 4) (.lit 1)))] [])))))
 (.ret (.int .i64 (.lit 0)) []))))
theorem S_multi_first : FnIs Tryd.prog n_multi_first [.sl] T_multi_first := ⟨Tryd.f26, [], 4000, Tryd.func26, by kernel_rfl⟩
abbrev n_multi_words : FuncId := 29
def T_multi_words : Tree :=
 (.chk (.cmp .geq (.var 2) (.lit 0))
 (.ite (.cmp .gtr (.var 2) (.var 0))
 (.ret (.int .i64 (.lit 12)) [])
 (.chk (.cmp .geq (.var 2) (.lit 0))
 (.loop 0 [(.int .i64), (.int .i64)] [(.int .i64 (.lit 0)), (.int .i64 (.lit 0))] [] []
 (.ite (.cmp .lss (.var 5) (.var 2))
 (.chk (.pick (.cmp .geq (.var 5) (.lit 0)) (.pick (.cmp .lss (.var 5) (.var 2)) (.some 1) (.lit false)) (.lit false))
 (.load 1 (.off (.var 5) 1 (.lit 0)) [.sl] []
 (.call false 13 [(.sl 6 (.lit 0) (.var 7) (.var 8))] (.int .i64) []
 (.ite (.cmp .neq (.var 9) (.lit 0))
 (.ret (.int .i64 (.var 9)) [])
 (.again 0 0 [(.int .i64), (.int .i64)] [(.int .i64 (.var 4)), (.int .i64 (.bin .add .i64 (.var 5) (.lit 1)))] [])))))
 (.ret (.int .i64 (.lit 0)) []))))))
theorem S_multi_words : FnIs Tryd.prog n_multi_words [(.int .i64), .sl] T_multi_words := ⟨Tryd.f29, [], 4000, Tryd.func29, by kernel_rfl⟩
abbrev n_multi_pricer : FuncId := 30
def T_multi_pricer : Tree :=
 (.alloc
 (.alloc
 (.ret (.fn (.func 44) [] [(.loc 1 0), (.loc 0 0)]) [⟨[(.sl 0 (.lit 0) (.var 1) (.var 2))], 57⟩, ⟨[(.sl 3 (.lit 0) (.var 4) (.var 5)), (.int .i64 (.var 6))], 28⟩])))
theorem S_multi_pricer : FnIs Tryd.prog n_multi_pricer [.sl, (.agg [.sl, (.int .i64)])] T_multi_pricer := ⟨Tryd.f30, [], 4000, Tryd.func30, by kernel_rfl⟩
abbrev n_multi_Cells : FuncId := 32
def T_multi_Cells : Tree :=
 (.call false 47 [(.sl 0 (.lit 0) (.var 1) (.var 2)), (.sl 3 (.lit 0) (.var 4) (.var 5))] (.int .i64) []
 (.ite (.cmp .neq (.var 6) (.lit 0))
 (.ret (.tup [(.cst (.slice none 0 0)), (.int .i64 (.var 6))]) [])
 (.chk (.cmp .geq (.var 4) (.lit 0))
 (.loop 0 [.sl, (.int .i64)] [(.cst (.slice none 0 0)), (.int .i64 (.lit 0))] [] []
 (.ite (.cmp .lss (.var 10) (.var 4))
 (.chk (.pick (.cmp .geq (.var 10) (.lit 0)) (.pick (.cmp .lss (.var 10) (.var 4)) (.some 3) (.lit false)) (.lit false))
 (.load 3 (.off (.var 10) 1 (.lit 0)) [.sl] []
 (.chk (.cmp .geq (.var 12) (.lit 0))
 (.loop 1 [.sl, (.int .i64)] [(.cst (.slice none 0 0)), (.int .i64 (.lit 0))] [] []
 (.ite (.cmp .lss (.var 17) (.var 12))
 (.chk (.pick (.cmp .geq (.var 17) (.lit 0)) (.pick (.cmp .lss (.var 17) (.var 12)) (.some 11) (.lit false)) (.lit false))
 (.load 11 (.off (.var 17) 1 (.lit 0)) [(.int .i64)] []
 (.chk (.pick (.cmp .geq (.var 17) (.lit 0)) (.pick (.cmp .lss (.var 17) (.var 1)) (.some 0) (.lit false)) (.lit false))
 (.load 0 (.off (.var 17) 1 (.lit 0)) [.sl] []
 (.call false 48 [(.sl 19 (.lit 0) (.var 20) (.var 21)), (.int .i64 (.var 18))] (.agg [(.int .i64), (.int .u32), (.int .u32)]) []
 (.alloc
 (.ext false ⟨(.call ⟨.builtin .append, #[(.tmp 0), (.tmp 0)], #[38, 38]⟩), 38, [(.sl 14 (.lit 0) (.var 15) (.var 16)), (.slc 0 0 1 1)]⟩ .sl [⟨[(.int .i64 (.var 22)), (.int .u32 (.var 23)), (.int .u32 (.var 24))], 43⟩]
 (.again 1 0 [.sl, (.int .i64)] [(.sl 25 (.lit 0) (.var 26) (.var 27)), (.int .i64 (.bin .add .i64 (.var 17) (.lit 1)))] [⟨[(.int .i64 (.var 22)), (.int .u32 (.var 23)), (.int .u32 (.var 24))], 43⟩]))))))))
 (.alloc
 (.ext false ⟨(.call ⟨.builtin .append, #[(.tmp 0), (.tmp 0)], #[34, 34]⟩), 34, [(.sl 7 (.lit 0) (.var 8) (.var 9)), (.slc 0 0 1 1)]⟩ .sl [⟨[(.sl 14 (.lit 0) (.var 15) (.var 16))], 38⟩]
 (.again 0 0 [.sl, (.int .i64)] [(.sl 18 (.lit 0) (.var 19) (.var 20)), (.int .i64 (.bin .add .i64 (.var 10) (.lit 1)))] [⟨[(.sl 14 (.lit 0) (.var 15) (.var 16))], 38⟩]))))))))
 (.ret (.tup [(.sl 7 (.lit 0) (.var 8) (.var 9)), (.int .i64 (.lit 0))]) []))))))
theorem S_multi_Cells : FnIs Tryd.prog n_multi_Cells [.sl, .sl] T_multi_Cells := ⟨Tryd.f32, [], 4000, Tryd.func32, by kernel_rfl⟩
abbrev n_multi_pricer_1 : FuncId := 44
def T_multi_pricer_1 : Tree :=
 (.chk (.cmp .geq (.var 1) (.lit 0))
 (.loop 0 [(.int .i64), (.int .i64)] [(.int .i64 (.lit 0)), (.int .i64 (.lit 0))] [] []
 (.ite (.cmp .lss (.var 6) (.var 1))
 (.chk (.pick (.cmp .geq (.var 6) (.lit 0)) (.pick (.cmp .lss (.var 6) (.var 1)) (.some 0) (.lit false)) (.lit false))
 (.load 0 (.off (.var 6) 1 (.lit 0)) [(.int .i64)] []
 (.chk (.pick (.cmp .leq (.lit 0) (.var 6)) (.cmp .leq (.var 6) (.var 2)) (.lit false))
 (.chk (.cmp .geq (.var 6) (.lit 0))
 (.loop 1 [(.int .i64), (.int .i64)] [(.int .i64 (.var 5)), (.int .i64 (.lit 0))] [] []
 (.ite (.cmp .lss (.var 9) (.var 6))
 (.chk (.pick (.cmp .geq (.ifeq (.var 2) (.lit 0) (.lit 0) (.lit 0)) (.lit 0)) (.pick (.cmp .geq (.var 9) (.lit 0)) (.pick (.cmp .lss (.var 9) (.var 6)) (.some 0) (.lit false)) (.lit false)) (.lit false))
 (.load 0 (.off (.var 9) 1 (.ifeq (.var 2) (.lit 0) (.lit 0) (.lit 0))) [(.int .i64)] []
 (.ite (.pick (.cmp .eql (.var 7) (.lit (-1))) (.cmp .eql (.var 10) (.lit (-1))) (.lit false))
 (.again 1 0 [(.int .i64), (.int .i64)] [(.int .i64 (.var 8)), (.int .i64 (.bin .add .i64 (.var 9) (.lit 1)))] [])
 (.ite (.pick (.cmp .eql (.var 7) (.lit (-1))) (.lit true) (.cmp .eql (.var 10) (.lit (-1))))
 (.chk (.some 3)
 (.load 3 (.lit 1) [(.int .i64)] []
 (.again 1 0 [(.int .i64), (.int .i64)] [(.int .i64 (.bin .add .i64 (.var 8) (.var 11))), (.int .i64 (.bin .add .i64 (.var 9) (.lit 1)))] [])))
 (.load 4 (.lit 0) [.sl] []
 (.chk (.pick (.cmp .geq (.var 6) (.lit 0)) (.pick (.cmp .lss (.var 6) (.var 12)) (.some 11) (.lit false)) (.lit false))
 (.load 11 (.off (.var 6) 1 (.lit 0)) [.sl] []
 (.chk (.pick (.cmp .geq (.var 7) (.lit 0)) (.pick (.cmp .lss (.var 7) (.var 15)) (.some 14) (.lit false)) (.lit false))
 (.load 14 (.off (.var 7) 2 (.lit 0)) [(.int .u32), (.int .u32)] []
 (.load 4 (.lit 0) [.sl] []
 (.chk (.pick (.cmp .geq (.var 9) (.lit 0)) (.pick (.cmp .lss (.var 9) (.var 20)) (.some 19) (.lit false)) (.lit false))
 (.load 19 (.off (.var 9) 1 (.lit 0)) [.sl] []
 (.chk (.pick (.cmp .geq (.var 10) (.lit 0)) (.pick (.cmp .lss (.var 10) (.var 23)) (.some 22) (.lit false)) (.lit false))
 (.load 22 (.off (.var 10) 2 (.lit 0)) [(.int .u32), (.int .u32)] []
 (.load 3 (.lit 0) [.sl, (.int .i64)] []
 (.call false 45 [(.agg [(.int .u32 (.var 17)), (.int .u32 (.var 18))]), (.agg [(.int .u32 (.var 25)), (.int .u32 (.var 26))]), (.agg [(.sl 27 (.lit 0) (.var 28) (.var 29)), (.int .i64 (.var 30))])] (.tup [(.int .i64), (.int .i64)]) []
 (.again 1 0 [(.int .i64), (.int .i64)] [(.int .i64 (.bin .add .i64 (.var 8) (.var 31))), (.int .i64 (.bin .add .i64 (.var 9) (.lit 1)))] [])))))))))))))))))
 (.again 0 0 [(.int .i64), (.int .i64)] [(.int .i64 (.var 8)), (.int .i64 (.bin .add .i64 (.var 6) (.lit 1)))] [])))))))
 (.ret (.int .i64 (.var 5)) []))))
theorem S_multi_pricer_1 : FnIs Tryd.prog n_multi_pricer_1 [.sl, .ptr, .ptr] T_multi_pricer_1 := ⟨Tryd.f44, [], 4000, Tryd.func44, by kernel_rfl⟩
abbrev n_multi_Check : FuncId := 47
def T_multi_Check : Tree :=
 (.call false 29 [(.int .i64 (.lit 8)), (.sl 0 (.lit 0) (.var 1) (.var 2))] (.int .i64) []
 (.ite (.cmp .neq (.var 6) (.lit 0))
 (.ret (.int .i64 (.var 6)) [])
 (.call false 57 [(.sl 0 (.lit 0) (.var 1) (.var 2)), (.sl 3 (.lit 0) (.var 4) (.var 5))] .bool []
 (.ite (.not (.var 7))
 (.ret (.int .i64 (.lit 8)) [])
 (.ret (.int .i64 (.lit 0)) [])))))
theorem S_multi_Check : FnIs Tryd.prog n_multi_Check [.sl, .sl] T_multi_Check := ⟨Tryd.f47, [], 4000, Tryd.func47, by kernel_rfl⟩
abbrev n_multi_cell : FuncId := 48
def T_multi_cell : Tree :=
 (.alloc
 (.ite (.cmp .eql (.var 3) (.lit (-1)))
 (.ret (.agg [(.int .i64 (.lit 1)), (.int .u32 (.lit 0)), (.int .u32 (.lit 0))]) [⟨[(.int .i64 (.lit 1)), (.int .u32 (.lit 0)), (.int .u32 (.lit 0))], 43⟩])
 (.chk (.pick (.cmp .geq (.var 3) (.lit 0)) (.pick (.cmp .lss (.var 3) (.var 1)) (.some 0) (.lit false)) (.lit false))
 (.load 0 (.off (.var 3) 2 (.lit 0)) [(.int .u32), (.int .u32)] [⟨[(.int .i64 (.lit 0)), (.int .u32 (.lit 0)), (.int .u32 (.lit 0))], 43⟩]
 (.ret (.agg [(.int .i64 (.lit 2)), (.int .u32 (.var 4)), (.int .u32 (.var 5))]) [⟨[(.int .i64 (.lit 2)), (.int .u32 (.var 4)), (.int .u32 (.var 5))], 43⟩])))))
theorem S_multi_cell : FnIs Tryd.prog n_multi_cell [.sl, (.int .i64)] T_multi_cell := ⟨Tryd.f48, [], 4000, Tryd.func48, by kernel_rfl⟩
abbrev n_multi_aligned : FuncId := 57
def T_multi_aligned : Tree :=
 (.chk (.cmp .geq (.var 1) (.lit 0))
 (.makev 3 8 (.var 1) (.var 1)
 (.chk (.cmp .geq (.var 4) (.lit 0))
 (.loop 0 [.bool, (.int .i64)] [(.bool (.lit false)), (.int .i64 (.lit 0))] [] []
 (.ite (.cmp .lss (.var 10) (.var 4))
 (.chk (.pick (.cmp .geq (.var 10) (.lit 0)) (.pick (.cmp .lss (.var 10) (.var 4)) (.some 3) (.lit false)) (.lit false))
 (.load 3 (.off (.var 10) 1 (.lit 0)) [.sl] []
 (.chk (.cmp .geq (.var 12) (.lit 0))
 (.chk (.cmp .geq (.var 1) (.lit 0))
 (.ite (.cmp .neq (.var 12) (.var 1))
 (.ret (.bool (.lit false)) [])
 (.chk (.cmp .geq (.var 12) (.lit 0))
 (.loop 1 [.bool, .bool, (.int .i64)] [(.bool (.var 9)), (.bool (.lit true)), (.int .i64 (.lit 0))] [] []
 (.ite (.cmp .lss (.var 16) (.var 12))
 (.chk (.pick (.cmp .geq (.var 16) (.lit 0)) (.pick (.cmp .lss (.var 16) (.var 12)) (.some 11) (.lit false)) (.lit false))
 (.load 11 (.off (.var 16) 1 (.lit 0)) [(.int .i64)] []
 (.ite (.cmp .eql (.var 17) (.lit (-1)))
 (.again 1 0 [.bool, .bool, (.int .i64)] [(.bool (.var 14)), (.bool (.var 15)), (.int .i64 (.bin .add .i64 (.var 16) (.lit 1)))] [])
 (.chk (.pick (.cmp .geq (.var 16) (.lit 0)) (.pick (.cmp .lss (.var 16) (.var 7)) (.some 6) (.lit false)) (.lit false))
 (.load 6 (.off (.var 16) 1 (.lit 0)) [(.int .i64)] []
 (.ite (.cmp .eql (.var 17) (.var 18))
 (.chk (.pick (.cmp .geq (.var 16) (.lit 0)) (.pick (.cmp .lss (.var 16) (.var 7)) (.some 6) (.lit false)) (.lit false))
 (.load 6 (.off (.var 16) 1 (.lit 0)) [(.int .i64)] []
 (.chk (.pick (.cmp .geq (.var 16) (.lit 0)) (.pick (.cmp .lss (.var 16) (.var 7)) (.some 6) (.lit false)) (.lit false))
 (.store false 6 (.off (.var 16) 1 (.lit 0)) [(.int .i64 (.bin .add .i64 (.var 19) (.lit 1)))] []
 (.again 1 0 [.bool, .bool, (.int .i64)] [(.bool (.var 14)), (.bool (.lit false)), (.int .i64 (.bin .add .i64 (.var 16) (.lit 1)))] [])))))
 (.ret (.bool (.lit false)) [])))))))
 (.ite (.var 15)
 (.ret (.bool (.lit false)) [])
 (.again 0 0 [.bool, (.int .i64)] [(.bool (.var 14)), (.int .i64 (.bin .add .i64 (.var 10) (.lit 1)))] []))))))))))
 (.call false 70 [(.sl 0 (.lit 0) (.var 1) (.var 2)), (.sl 6 (.lit 0) (.var 7) (.var 8)), (.cst (.func (.func 71) #[] #[]))] .bool []
 (.ret (.bool (.var 11)) [])))))))
theorem S_multi_aligned : FnIs Tryd.prog n_multi_aligned [.sl, .sl] T_multi_aligned := ⟨Tryd.f57, [], 4000, Tryd.func57, by kernel_rfl⟩
abbrev n_slices_EqualFunc_____api_Sound___int___api_Sound_int_ : FuncId := 70
def T_slices_EqualFunc_____api_Sound___int___api_Sound_int_ : Tree :=
 (.chk (.cmp .geq (.var 1) (.lit 0))
 (.chk (.cmp .geq (.var 4) (.lit 0))
 (.ite (.cmp .neq (.var 1) (.var 4))
 (.ret (.bool (.lit false)) [])
 (.chk (.cmp .geq (.var 1) (.lit 0))
 (.loop 0 [.bool, (.int .i64)] [(.bool (.lit false)), (.int .i64 (.lit 0))] [] []
 (.ite (.cmp .lss (.var 8) (.var 1))
 (.chk (.pick (.cmp .geq (.var 8) (.lit 0)) (.pick (.cmp .lss (.var 8) (.var 1)) (.some 0) (.lit false)) (.lit false))
 (.load 0 (.off (.var 8) 1 (.lit 0)) [.sl] []
 (.chk (.pick (.cmp .geq (.var 8) (.lit 0)) (.pick (.cmp .lss (.var 8) (.var 4)) (.some 3) (.lit false)) (.lit false))
 (.load 3 (.off (.var 8) 1 (.lit 0)) [(.int .i64)] []
 (.callv false (.val 6) [(.sl 9 (.lit 0) (.var 10) (.var 11)), (.int .i64 (.var 12))] .bool []
 (.ite (.not (.var 13))
 (.ret (.bool (.lit false)) [])
 (.again 0 0 [.bool, (.int .i64)] [(.bool (.var 7)), (.int .i64 (.bin .add .i64 (.var 8) (.lit 1)))] [])))))))
 (.ret (.bool (.lit true)) [])))))))
theorem S_slices_EqualFunc_____api_Sound___int___api_Sound_int_ : FnIs Tryd.prog n_slices_EqualFunc_____api_Sound___int___api_Sound_int_ [.sl, .sl, .val] T_slices_EqualFunc_____api_Sound___int___api_Sound_int_ := ⟨Tryd.f70, [], 4000, Tryd.func70, by kernel_rfl⟩
abbrev n_multi_aligned_1 : FuncId := 71
def T_multi_aligned_1 : Tree :=
 (.chk (.cmp .geq (.var 1) (.lit 0))
 (.ret (.bool (.cmp .eql (.var 1) (.var 3))) []))
theorem S_multi_aligned_1 : FnIs Tryd.prog n_multi_aligned_1 [.sl, (.int .i64)] T_multi_aligned_1 := ⟨Tryd.f71, [], 4000, Tryd.func71, by kernel_rfl⟩
abbrev n_slices_Clone___int_int_ : FuncId := 98
def T_slices_Clone___int_int_ : Tree :=
 (.extp ⟨(.binOp .eql 29 (.tmp 0) (.const (.bool true)) 29), 4, [(.sl 0 (.lit 0) (.var 1) (.var 2)), (.cst (.slice none 0 0))]⟩ .bool []
 (.ite (.var 3)
 (.ret (.cst (.slice none 0 0)) [])
 (.alloc
 (.ext false ⟨(.call ⟨.builtin .append, #[(.tmp 0), (.tmp 0)], #[29, 29]⟩), 29, [(.slc 0 0 0 0), (.sl 0 (.lit 0) (.var 1) (.var 2))]⟩ .sl [⟨[], 3⟩]
 (.ret (.sl 4 (.lit 0) (.var 5) (.var 6)) [⟨[], 3⟩])))))
theorem S_slices_Clone___int_int_ : FnIs Tryd.prog n_slices_Clone___int_int_ [.sl] T_slices_Clone___int_int_ := ⟨Tryd.f98, [], 4000, Tryd.func98, by kernel_rfl⟩
end Go.Proofs.YtkhcfbdjmpodbaaDoor
