/- The trees of this seat's functions, printed by a program of mine (SyGen), checked here by the kernel. -/
import Derived.Test.YthabfpagilbplaaDoorSyDef
import Derived.Test.YthabfpagilbplaaDoorProg
import Derived.KernelRfl
set_option maxRecDepth 100000
namespace Go.Proofs.YthabfpagilbplaaDoor
open Go Go.Sy
abbrev n_slices_Repeat_____int___int_ : FuncId := 48
def T_slices_Repeat_____int___int_ : Tree :=
 (.ite (.cmp .lss (.var 3) (.lit 0))
 (.bad "ext slices.go:516")
 (.chk (.cmp .geq (.var 1) (.lit 0))
 (.call false 76 [(.int .u64 (.conv .u64 (.var 1))), (.int .u64 (.conv .u64 (.var 3)))] (.tup [(.int .u64), (.int .u64)]) []
 (.ite (.pick (.cmp .gtr (.var 4) (.lit 0)) (.lit true) (.cmp .gtr (.var 5) (.lit 9223372036854775807)))
 (.bad "ext slices.go:522")
 (.makev 30 24 (.conv .i64 (.var 5)) (.conv .i64 (.var 5))
 (.ext false ⟨(.call ⟨.builtin .copy, #[(.tmp 0), (.tmp 0)], #[60, 60]⟩), 3, [(.sl 6 (.lit 0) (.var 7) (.var 8)), (.sl 0 (.lit 0) (.var 1) (.var 2))]⟩ (.int .i64) []
 (.loop 0 [(.int .i64)] [(.int .i64 (.var 9))] [] []
 (.chk (.cmp .geq (.var 7) (.lit 0))
 (.ite (.cmp .lss (.var 10) (.var 7))
 (.chk (.pick (.cmp .leq (.lit 0) (.var 10)) (.pick (.cmp .leq (.var 10) (.var 7)) (.cmp .leq (.var 7) (.var 8)) (.lit false)) (.lit false))
 (.chk (.pick (.cmp .leq (.lit 0) (.var 10)) (.cmp .leq (.var 10) (.var 8)) (.lit false))
 (.ext false ⟨(.call ⟨.builtin .copy, #[(.tmp 0), (.tmp 0)], #[60, 60]⟩), 3, [(.sl 6 (.ifeq (.var 8) (.var 10) (.lit 0) (.off (.var 10) 1 (.lit 0))) (.dif (.var 7) (.var 10)) (.dif (.var 8) (.var 10))), (.sl 6 (.ifeq (.var 8) (.lit 0) (.lit 0) (.lit 0)) (.var 10) (.var 8))]⟩ (.int .i64) []
 (.again 0 0 [(.int .i64)] [(.int .i64 (.bin .add .i64 (.var 10) (.var 11)))] []))))
 (.ret (.sl 6 (.lit 0) (.var 7) (.var 8)) []))))))))))
theorem S_slices_Repeat_____int___int_ : FnIs Tryd.prog n_slices_Repeat_____int___int_ [.sl, (.int .i64)] T_slices_Repeat_____int___int_ := ⟨Tryd.f48, [], 4000, Tryd.func48, by kernel_rfl⟩
abbrev n_slices_Repeat___api_Form_api_Form_ : FuncId := 49
def T_slices_Repeat___api_Form_api_Form_ : Tree :=
 (.ite (.cmp .lss (.var 3) (.lit 0))
 (.bad "ext slices.go:516")
 (.chk (.cmp .geq (.var 1) (.lit 0))
 (.call false 76 [(.int .u64 (.conv .u64 (.var 1))), (.int .u64 (.conv .u64 (.var 3)))] (.tup [(.int .u64), (.int .u64)]) []
 (.ite (.pick (.cmp .gtr (.var 4) (.lit 0)) (.lit true) (.cmp .gtr (.var 5) (.lit 9223372036854775807)))
 (.bad "ext slices.go:522")
 (.makev 50 32 (.conv .i64 (.var 5)) (.conv .i64 (.var 5))
 (.ext false ⟨(.call ⟨.builtin .copy, #[(.tmp 0), (.tmp 0)], #[22, 22]⟩), 3, [(.sl 6 (.lit 0) (.var 7) (.var 8)), (.sl 0 (.lit 0) (.var 1) (.var 2))]⟩ (.int .i64) []
 (.loop 0 [(.int .i64)] [(.int .i64 (.var 9))] [] []
 (.chk (.cmp .geq (.var 7) (.lit 0))
 (.ite (.cmp .lss (.var 10) (.var 7))
 (.chk (.pick (.cmp .leq (.lit 0) (.var 10)) (.pick (.cmp .leq (.var 10) (.var 7)) (.cmp .leq (.var 7) (.var 8)) (.lit false)) (.lit false))
 (.chk (.pick (.cmp .leq (.lit 0) (.var 10)) (.cmp .leq (.var 10) (.var 8)) (.lit false))
 (.ext false ⟨(.call ⟨.builtin .copy, #[(.tmp 0), (.tmp 0)], #[22, 22]⟩), 3, [(.sl 6 (.ifeq (.var 8) (.var 10) (.lit 0) (.off (.var 10) 2 (.lit 0))) (.dif (.var 7) (.var 10)) (.dif (.var 8) (.var 10))), (.sl 6 (.ifeq (.var 8) (.lit 0) (.lit 0) (.lit 0)) (.var 10) (.var 8))]⟩ (.int .i64) []
 (.again 0 0 [(.int .i64)] [(.int .i64 (.bin .add .i64 (.var 10) (.var 11)))] []))))
 (.ret (.sl 6 (.lit 0) (.var 7) (.var 8)) []))))))))))
theorem S_slices_Repeat___api_Form_api_Form_ : FnIs Tryd.prog n_slices_Repeat___api_Form_api_Form_ [.sl, (.int .i64)] T_slices_Repeat___api_Form_api_Form_ := ⟨Tryd.f49, [], 4000, Tryd.func49, by kernel_rfl⟩
abbrev n_math_bits_Mul : FuncId := 76
def T_math_bits_Mul : Tree :=
 (.call false 90 [(.int .u64 (.var 0)), (.int .u64 (.var 1))] (.tup [(.int .u64), (.int .u64)]) []
 (.ret (.tup [(.int .u64 (.var 2)), (.int .u64 (.var 3))]) []))
theorem S_math_bits_Mul : FnIs Tryd.prog n_math_bits_Mul [(.int .u64), (.int .u64)] T_math_bits_Mul := ⟨Tryd.f76, [], 4000, Tryd.func76, by kernel_rfl⟩
end Go.Proofs.YthabfpagilbplaaDoor
