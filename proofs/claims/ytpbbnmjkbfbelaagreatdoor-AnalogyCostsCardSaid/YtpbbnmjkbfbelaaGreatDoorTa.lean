/- The trees of this seat's functions, printed by a program of mine (SyGen), checked here by the kernel. -/
import Derived.Test.YtpbbnmjkbfbelaaGreatDoorSyDef
import Derived.Test.YtpbbnmjkbfbelaaGreatDoorProg
import Derived.KernelRfl
set_option maxRecDepth 100000
namespace Go.Proofs.YtpbbnmjkbfbelaaGreatDoor
open Go Go.Sy
abbrev n_ref02_Equal : FuncId := 16
def T_ref02_Equal : Tree :=
 (.chk (.cmp .geq (.var 1) (.lit 0))
 (.chk (.cmp .geq (.var 4) (.lit 0))
 (.ite (.cmp .neq (.var 1) (.var 4))
 (.ret (.bool (.lit false)) [])
 (.loop 0 [.bool, (.int .i64)] [(.bool (.lit false)), (.int .i64 (.lit 0))] [] []
 (.chk (.cmp .geq (.var 1) (.lit 0))
 (.ite (.cmp .lss (.var 7) (.var 1))
 (.chk (.pick (.cmp .geq (.var 7) (.lit 0)) (.pick (.cmp .lss (.var 7) (.var 1)) (.some 0) (.lit false)) (.lit false))
 (.load 0 (.off (.var 7) 2 (.lit 0)) [(.int .u32), (.int .u32)] []
 (.chk (.pick (.cmp .geq (.var 7) (.lit 0)) (.pick (.cmp .lss (.var 7) (.var 4)) (.some 3) (.lit false)) (.lit false))
 (.load 3 (.off (.var 7) 2 (.lit 0)) [(.int .u32), (.int .u32)] []
 (.ite (.not (.pick (.cmp .eql (.var 8) (.var 10)) (.cmp .eql (.var 9) (.var 11)) (.lit false)))
 (.ret (.bool (.lit false)) [])
 (.again 0 0 [.bool, (.int .i64)] [(.bool (.var 6)), (.int .i64 (.bin .add .i64 (.var 7) (.lit 1)))] []))))))
 (.ret (.bool (.lit true)) [])))))))
theorem S_ref02_Equal : FnIs Tryz.prog n_ref02_Equal [.sl, .sl] T_ref02_Equal := ⟨Tryz.f16, [], 4000, Tryz.func16, by kernel_rfl⟩
abbrev n_feats_CheckCosts : FuncId := 18
def T_feats_CheckCosts : Tree :=
 (.alloc
 (.chk (.cmp .geq (.var 1) (.lit 0))
 (.ite (.pick (.pick (.cmp .gtr (.var 1) (.lit 24)) (.lit true) (.cmp .lss (.var 3) (.lit 0))) (.lit true) (.cmp .gtr (.var 3) (.lit 1073741824)))
 (.ret (.int .i64 (.lit 2)) [⟨[(.sl 0 (.lit 0) (.var 1) (.var 2)), (.int .i64 (.var 3))], 26⟩])
 (.chk (.cmp .geq (.var 1) (.lit 0))
 (.loop 0 [(.int .i64), (.int .i64)] [(.int .i64 (.lit 0)), (.int .i64 (.lit 0))] [⟨[(.sl 0 (.lit 0) (.var 1) (.var 2)), (.int .i64 (.var 3))], 26⟩] [⟨[(.sl 0 (.lit 0) (.var 1) (.var 2)), (.int .i64 (.var 3))], 26⟩]
 (.ite (.cmp .lss (.var 5) (.var 1))
 (.chk (.pick (.cmp .geq (.var 5) (.lit 0)) (.pick (.cmp .lss (.var 5) (.var 1)) (.some 0) (.lit false)) (.lit false))
 (.load 0 (.off (.var 5) 1 (.lit 0)) [(.int .i64)] [⟨[(.sl 0 (.lit 0) (.var 1) (.var 2)), (.int .i64 (.var 3))], 26⟩]
 (.ite (.pick (.cmp .lss (.var 6) (.lit 0)) (.lit true) (.cmp .gtr (.var 6) (.lit 1073741824)))
 (.ret (.int .i64 (.lit 2)) [⟨[(.sl 0 (.lit 0) (.var 1) (.var 2)), (.int .i64 (.var 3))], 26⟩])
 (.again 0 1 [(.int .i64), (.int .i64)] [(.int .i64 (.var 4)), (.int .i64 (.bin .add .i64 (.var 5) (.lit 1)))] [⟨[(.sl 0 (.lit 0) (.var 1) (.var 2)), (.int .i64 (.var 3))], 26⟩]))))
 (.ret (.int .i64 (.lit 0)) [⟨[(.sl 0 (.lit 0) (.var 1) (.var 2)), (.int .i64 (.var 3))], 26⟩])))))))
theorem S_feats_CheckCosts : FnIs Tryz.prog n_feats_CheckCosts [(.agg [.sl, (.int .i64)])] T_feats_CheckCosts := ⟨Tryz.f18, [], 4000, Tryz.func18, by kernel_rfl⟩
abbrev n_word_Equal : FuncId := 20
def T_word_Equal : Tree :=
 (.call false 45 [(.sl 0 (.lit 0) (.var 1) (.var 2)), (.sl 3 (.lit 0) (.var 4) (.var 5))] .bool []
 (.ret (.bool (.var 6)) []))
theorem S_word_Equal : FnIs Tryz.prog n_word_Equal [.sl, .sl] T_word_Equal := ⟨Tryz.f20, [], 4000, Tryz.func20, by kernel_rfl⟩
abbrev n_ref01_CheckCosts : FuncId := 26
def T_ref01_CheckCosts : Tree :=
 (.alloc
 (.chk (.cmp .geq (.var 1) (.lit 0))
 (.ite (.pick (.pick (.cmp .gtr (.var 1) (.lit 24)) (.lit true) (.cmp .lss (.var 3) (.lit 0))) (.lit true) (.cmp .gtr (.var 3) (.lit 1073741824)))
 (.ret (.int .i64 (.lit 2)) [⟨[(.sl 0 (.lit 0) (.var 1) (.var 2)), (.int .i64 (.var 3))], 26⟩])
 (.loop 0 [(.int .i64), (.int .i64)] [(.int .i64 (.lit 0)), (.int .i64 (.lit 0))] [⟨[(.sl 0 (.lit 0) (.var 1) (.var 2)), (.int .i64 (.var 3))], 26⟩] [⟨[(.sl 0 (.lit 0) (.var 1) (.var 2)), (.int .i64 (.var 3))], 26⟩]
 (.chk (.cmp .geq (.var 1) (.lit 0))
 (.ite (.cmp .lss (.var 5) (.var 1))
 (.chk (.pick (.cmp .geq (.var 5) (.lit 0)) (.pick (.cmp .lss (.var 5) (.var 1)) (.some 0) (.lit false)) (.lit false))
 (.load 0 (.off (.var 5) 1 (.lit 0)) [(.int .i64)] [⟨[(.sl 0 (.lit 0) (.var 1) (.var 2)), (.int .i64 (.var 3))], 26⟩]
 (.ite (.cmp .lss (.var 6) (.lit 0))
 (.ret (.int .i64 (.lit 2)) [⟨[(.sl 0 (.lit 0) (.var 1) (.var 2)), (.int .i64 (.var 3))], 26⟩])
 (.chk (.pick (.cmp .geq (.var 5) (.lit 0)) (.pick (.cmp .lss (.var 5) (.var 1)) (.some 0) (.lit false)) (.lit false))
 (.load 0 (.off (.var 5) 1 (.lit 0)) [(.int .i64)] [⟨[(.sl 0 (.lit 0) (.var 1) (.var 2)), (.int .i64 (.var 3))], 26⟩]
 (.ite (.cmp .gtr (.var 7) (.lit 1073741824))
 (.ret (.int .i64 (.lit 2)) [⟨[(.sl 0 (.lit 0) (.var 1) (.var 2)), (.int .i64 (.var 3))], 26⟩])
 (.again 0 1 [(.int .i64), (.int .i64)] [(.int .i64 (.var 4)), (.int .i64 (.bin .add .i64 (.var 5) (.lit 1)))] [⟨[(.sl 0 (.lit 0) (.var 1) (.var 2)), (.int .i64 (.var 3))], 26⟩])))))))
 (.ret (.int .i64 (.lit 0)) [⟨[(.sl 0 (.lit 0) (.var 1) (.var 2)), (.int .i64 (.var 3))], 26⟩])))))))
theorem S_ref01_CheckCosts : FnIs Tryz.prog n_ref01_CheckCosts [(.agg [.sl, (.int .i64)])] T_ref01_CheckCosts := ⟨Tryz.f26, [], 4000, Tryz.func26, by kernel_rfl⟩
abbrev n_word_Order : FuncId := 38
def T_word_Order : Tree :=
 (.call false 64 [(.sl 0 (.lit 0) (.var 1) (.var 2)), (.sl 3 (.lit 0) (.var 4) (.var 5)), (.cst (.func (.func 65) #[] #[]))] (.int .i64) []
 (.ret (.int .i64 (.var 6)) []))
theorem S_word_Order : FnIs Tryz.prog n_word_Order [.sl, .sl] T_word_Order := ⟨Tryz.f38, [], 4000, Tryz.func38, by kernel_rfl⟩
abbrev n_slices_Clone___api_Sound_api_Sound_ : FuncId := 42
def T_slices_Clone___api_Sound_api_Sound_ : Tree :=
 (.extp ⟨(.binOp .eql 23 (.tmp 0) (.const (.bool true)) 23), 4, [(.sl 0 (.lit 0) (.var 1) (.var 2)), (.cst (.slice none 0 0))]⟩ .bool []
 (.ite (.var 3)
 (.ret (.cst (.slice none 0 0)) [])
 (.alloc
 (.ext false ⟨(.call ⟨.builtin .append, #[(.tmp 0), (.tmp 0)], #[23, 23]⟩), 23, [(.slc 0 0 0 0), (.sl 0 (.lit 0) (.var 1) (.var 2))]⟩ .sl [⟨[], 71⟩]
 (.ret (.sl 4 (.lit 0) (.var 5) (.var 6)) [⟨[], 71⟩])))))
theorem S_slices_Clone___api_Sound_api_Sound_ : FnIs Tryz.prog n_slices_Clone___api_Sound_api_Sound_ [.sl] T_slices_Clone___api_Sound_api_Sound_ := ⟨Tryz.f42, [], 4000, Tryz.func42, by kernel_rfl⟩
abbrev n_slices_Concat___api_Sound_api_Sound_ : FuncId := 43
def T_slices_Concat___api_Sound_api_Sound_ : Tree :=
 (.chk (.cmp .geq (.var 1) (.lit 0))
 (.loop 0 [(.int .i64), (.int .i64)] [(.int .i64 (.lit 0)), (.int .i64 (.lit 0))] [] []
 (.ite (.cmp .lss (.var 4) (.var 1))
 (.chk (.pick (.cmp .geq (.var 4) (.lit 0)) (.pick (.cmp .lss (.var 4) (.var 1)) (.some 0) (.lit false)) (.lit false))
 (.load 0 (.off (.var 4) 1 (.lit 0)) [.sl] []
 (.chk (.cmp .geq (.var 6) (.lit 0))
 (.join 1 [] []
 (.ite (.cmp .lss (.bin .add .i64 (.var 3) (.var 6)) (.lit 0))
 (.bad "ext slices.go:496")
 (.again 1 0 [] [] []))
 (.again 0 0 [(.int .i64), (.int .i64)] [(.int .i64 (.bin .add .i64 (.var 3) (.var 6))), (.int .i64 (.bin .add .i64 (.var 4) (.lit 1)))] [])))))
 (.call false 68 [(.cst (.slice none 0 0)), (.int .i64 (.var 3))] .sl []
 (.chk (.cmp .geq (.var 1) (.lit 0))
 (.loop 0 [.sl, (.int .i64)] [(.sl 5 (.lit 0) (.var 6) (.var 7)), (.int .i64 (.lit 0))] [] []
 (.ite (.cmp .lss (.var 11) (.var 1))
 (.chk (.pick (.cmp .geq (.var 11) (.lit 0)) (.pick (.cmp .lss (.var 11) (.var 1)) (.some 0) (.lit false)) (.lit false))
 (.load 0 (.off (.var 11) 1 (.lit 0)) [.sl] []
 (.ext false ⟨(.call ⟨.builtin .append, #[(.tmp 0), (.tmp 0)], #[23, 23]⟩), 23, [(.sl 8 (.lit 0) (.var 9) (.var 10)), (.sl 12 (.lit 0) (.var 13) (.var 14))]⟩ .sl []
 (.again 0 0 [.sl, (.int .i64)] [(.sl 15 (.lit 0) (.var 16) (.var 17)), (.int .i64 (.bin .add .i64 (.var 11) (.lit 1)))] []))))
 (.ret (.sl 8 (.lit 0) (.var 9) (.var 10)) []))))))))
theorem S_slices_Concat___api_Sound_api_Sound_ : FnIs Tryz.prog n_slices_Concat___api_Sound_api_Sound_ [.sl] T_slices_Concat___api_Sound_api_Sound_ := ⟨Tryz.f43, [{ key := 7, tmps := [], join := true, dead := 68215103634 }], 4000, Tryz.func43, by kernel_rfl⟩
abbrev n_word_Check : FuncId := 44
def T_word_Check : Tree :=
 (.chk (.cmp .geq (.var 1) (.lit 0))
 (.ite (.cmp .gtr (.var 1) (.lit 32))
 (.ret (.int .i64 (.lit 11)) [])
 (.chk (.cmp .geq (.var 1) (.lit 0))
 (.loop 0 [(.int .i64), (.int .i64)] [(.int .i64 (.lit 0)), (.int .i64 (.lit 0))] [] []
 (.ite (.cmp .lss (.var 4) (.var 1))
 (.chk (.pick (.cmp .geq (.var 4) (.lit 0)) (.pick (.cmp .lss (.var 4) (.var 1)) (.some 0) (.lit false)) (.lit false))
 (.load 0 (.off (.var 4) 2 (.lit 0)) [(.int .u32), (.int .u32)] []
 (.alloc
 (.call false 69 [(.agg [(.int .u32 (.var 5)), (.int .u32 (.var 6))])] .bool [⟨[(.int .u32 (.var 5)), (.int .u32 (.var 6))], 71⟩]
 (.ite (.not (.var 7))
 (.ret (.int .i64 (.lit 14)) [⟨[(.int .u32 (.var 5)), (.int .u32 (.var 6))], 71⟩])
 (.again 0 0 [(.int .i64), (.int .i64)] [(.int .i64 (.var 3)), (.int .i64 (.bin .add .i64 (.var 4) (.lit 1)))] [⟨[(.int .u32 (.var 5)), (.int .u32 (.var 6))], 71⟩]))))))
 (.ret (.int .i64 (.lit 0)) []))))))
theorem S_word_Check : FnIs Tryz.prog n_word_Check [.sl] T_word_Check := ⟨Tryz.f44, [], 4000, Tryz.func44, by kernel_rfl⟩
abbrev n_slices_Equal___api_Sound_api_Sound_ : FuncId := 45
def T_slices_Equal___api_Sound_api_Sound_ : Tree :=
 (.chk (.cmp .geq (.var 1) (.lit 0))
 (.chk (.cmp .geq (.var 4) (.lit 0))
 (.ite (.cmp .neq (.var 1) (.var 4))
 (.ret (.bool (.lit false)) [])
 (.chk (.cmp .geq (.var 1) (.lit 0))
 (.loop 0 [.bool, (.int .i64)] [(.bool (.lit false)), (.int .i64 (.lit 0))] [] []
 (.ite (.cmp .lss (.var 7) (.var 1))
 (.chk (.pick (.cmp .geq (.var 7) (.lit 0)) (.pick (.cmp .lss (.var 7) (.var 1)) (.some 0) (.lit false)) (.lit false))
 (.load 0 (.off (.var 7) 2 (.lit 0)) [(.int .u32), (.int .u32)] []
 (.chk (.pick (.cmp .geq (.var 7) (.lit 0)) (.pick (.cmp .lss (.var 7) (.var 4)) (.some 3) (.lit false)) (.lit false))
 (.load 3 (.off (.var 7) 2 (.lit 0)) [(.int .u32), (.int .u32)] []
 (.ite (.not (.pick (.cmp .eql (.var 8) (.var 10)) (.cmp .eql (.var 9) (.var 11)) (.lit false)))
 (.ret (.bool (.lit false)) [])
 (.again 0 0 [.bool, (.int .i64)] [(.bool (.var 6)), (.int .i64 (.bin .add .i64 (.var 7) (.lit 1)))] []))))))
 (.ret (.bool (.lit true)) [])))))))
theorem S_slices_Equal___api_Sound_api_Sound_ : FnIs Tryz.prog n_slices_Equal___api_Sound_api_Sound_ [.sl, .sl] T_slices_Equal___api_Sound_api_Sound_ := ⟨Tryz.f45, [], 4000, Tryz.func45, by kernel_rfl⟩
abbrev n_slices_CompareFunc___api_Sound___api_Sound_api_Sound_api_Sound_ : FuncId := 64
def T_slices_CompareFunc___api_Sound___api_Sound_api_Sound_api_Sound_ : Tree :=
 (.chk (.cmp .geq (.var 1) (.lit 0))
 (.loop 0 [(.int .i64), (.int .i64)] [(.int .i64 (.lit 0)), (.int .i64 (.lit 0))] [] []
 (.ite (.cmp .lss (.var 8) (.var 1))
 (.chk (.pick (.cmp .geq (.var 8) (.lit 0)) (.pick (.cmp .lss (.var 8) (.var 1)) (.some 0) (.lit false)) (.lit false))
 (.load 0 (.off (.var 8) 2 (.lit 0)) [(.int .u32), (.int .u32)] []
 (.alloc
 (.chk (.cmp .geq (.var 4) (.lit 0))
 (.ite (.cmp .geq (.var 8) (.var 4))
 (.ret (.int .i64 (.lit 1)) [⟨[(.int .u32 (.var 9)), (.int .u32 (.var 10))], 71⟩])
 (.chk (.pick (.cmp .geq (.var 8) (.lit 0)) (.pick (.cmp .lss (.var 8) (.var 4)) (.some 3) (.lit false)) (.lit false))
 (.load 3 (.off (.var 8) 2 (.lit 0)) [(.int .u32), (.int .u32)] [⟨[(.int .u32 (.var 9)), (.int .u32 (.var 10))], 71⟩]
 (.alloc
 (.callv false (.val 6) [(.agg [(.int .u32 (.var 9)), (.int .u32 (.var 10))]), (.agg [(.int .u32 (.var 11)), (.int .u32 (.var 12))])] (.int .i64) [⟨[(.int .u32 (.var 9)), (.int .u32 (.var 10))], 71⟩, ⟨[(.int .u32 (.var 11)), (.int .u32 (.var 12))], 71⟩]
 (.ite (.cmp .neq (.var 13) (.lit 0))
 (.ret (.int .i64 (.var 13)) [⟨[(.int .u32 (.var 9)), (.int .u32 (.var 10))], 71⟩, ⟨[(.int .u32 (.var 11)), (.int .u32 (.var 12))], 71⟩])
 (.again 0 0 [(.int .i64), (.int .i64)] [(.int .i64 (.var 7)), (.int .i64 (.bin .add .i64 (.var 8) (.lit 1)))] [⟨[(.int .u32 (.var 9)), (.int .u32 (.var 10))], 71⟩, ⟨[(.int .u32 (.var 11)), (.int .u32 (.var 12))], 71⟩])))))))))))
 (.chk (.cmp .geq (.var 1) (.lit 0))
 (.chk (.cmp .geq (.var 4) (.lit 0))
 (.ite (.cmp .lss (.var 1) (.var 4))
 (.ret (.int .i64 (.lit (-1))) [])
 (.ret (.int .i64 (.lit 0)) [])))))))
theorem S_slices_CompareFunc___api_Sound___api_Sound_api_Sound_api_Sound_ : FnIs Tryz.prog n_slices_CompareFunc___api_Sound___api_Sound_api_Sound_api_Sound_ [.sl, .sl, .val] T_slices_CompareFunc___api_Sound___api_Sound_api_Sound_api_Sound_ := ⟨Tryz.f64, [], 4000, Tryz.func64, by kernel_rfl⟩
abbrev n_word_order : FuncId := 65
def T_word_order : Tree :=
 (.alloc
 (.alloc
 (.call false 82 [(.int .u32 (.var 0)), (.int .u32 (.var 2))] (.int .i64) [⟨[(.int .u32 (.var 0)), (.int .u32 (.var 1))], 71⟩, ⟨[(.int .u32 (.var 2)), (.int .u32 (.var 3))], 71⟩]
 (.call false 82 [(.int .u32 (.var 1)), (.int .u32 (.var 3))] (.int .i64) [⟨[(.int .u32 (.var 0)), (.int .u32 (.var 1))], 71⟩, ⟨[(.int .u32 (.var 2)), (.int .u32 (.var 3))], 71⟩]
 (.alloc
 (.call false 81 [(.slc 2 0 2 2)] (.int .i64) [⟨[(.int .u32 (.var 0)), (.int .u32 (.var 1))], 71⟩, ⟨[(.int .u32 (.var 2)), (.int .u32 (.var 3))], 71⟩, ⟨[(.int .i64 (.var 4)), (.int .i64 (.var 5))], 3⟩]
 (.ret (.int .i64 (.var 6)) [⟨[(.int .u32 (.var 0)), (.int .u32 (.var 1))], 71⟩, ⟨[(.int .u32 (.var 2)), (.int .u32 (.var 3))], 71⟩, ⟨[(.int .i64 (.var 4)), (.int .i64 (.var 5))], 3⟩])))))))
theorem S_word_order : FnIs Tryz.prog n_word_order [(.agg [(.int .u32), (.int .u32)]), (.agg [(.int .u32), (.int .u32)])] T_word_order := ⟨Tryz.f65, [], 4000, Tryz.func65, by kernel_rfl⟩
abbrev n_slices_Grow___api_Sound_api_Sound_ : FuncId := 68
def T_slices_Grow___api_Sound_api_Sound_ : Tree :=
 (.join 0 [] []
 (.ite (.cmp .lss (.var 3) (.lit 0))
 (.bad "ext slices.go:424")
 (.again 0 0 [] [] []))
 (.ext false ⟨(.call ⟨.builtin .cap, #[(.tmp 0)], #[23]⟩), 3, [(.sl 0 (.lit 0) (.var 1) (.var 2))]⟩ (.int .i64) []
 (.chk (.cmp .geq (.var 1) (.lit 0))
 (.join 0 [.sl] []
 (.ite (.cmp .gtr (.bin .sub .i64 (.var 3) (.bin .sub .i64 (.var 4) (.var 1))) (.lit 0))
 (.ext false ⟨(.call ⟨.builtin .cap, #[(.tmp 0)], #[23]⟩), 3, [(.sl 0 (.lit 0) (.var 1) (.var 2))]⟩ (.int .i64) []
 (.chk (.pick (.cmp .leq (.lit 0) (.var 5)) (.cmp .leq (.var 5) (.var 2)) (.lit false))
 (.ext false ⟨(.call ⟨.builtin .append, #[(.tmp 0), (.tmp 0)], #[23, 3]⟩), 23, [(.sl 0 (.ifeq (.var 2) (.lit 0) (.lit 0) (.lit 0)) (.var 5) (.var 2)), (.int .i64 (.bin .sub .i64 (.var 3) (.bin .sub .i64 (.var 4) (.var 1))))]⟩ .sl []
 (.chk (.cmp .geq (.var 1) (.lit 0))
 (.chk (.pick (.cmp .leq (.lit 0) (.var 1)) (.cmp .leq (.var 1) (.var 8)) (.lit false))
 (.again 0 0 [.sl] [(.sl 6 (.ifeq (.var 8) (.lit 0) (.lit 0) (.lit 0)) (.var 1) (.var 8))] []))))))
 (.again 0 0 [.sl] [(.sl 0 (.lit 0) (.var 1) (.var 2))] []))
 (.ret (.sl 5 (.lit 0) (.var 6) (.var 7)) [])))))
theorem S_slices_Grow___api_Sound_api_Sound_ : FnIs Tryz.prog n_slices_Grow___api_Sound_api_Sound_ [.sl, (.int .i64)] T_slices_Grow___api_Sound_api_Sound_ := ⟨Tryz.f68, [{ key := 2, tmps := [], join := true, dead := 134152108 }, { key := 5, tmps := [], join := true }], 4000, Tryz.func68, by kernel_rfl⟩
abbrev n_word_valid : FuncId := 69
def T_word_valid : Tree :=
 (.alloc
 (.ite (.cmp .eql (.bin .and .u32 (.var 0) (.var 1)) (.lit 0))
 (.ret (.bool (.cmp .eql (.bin .shr .u32 (.bin .or .u32 (.var 0) (.var 1)) (.lit 24)) (.lit 0))) [⟨[(.int .u32 (.var 0)), (.int .u32 (.var 1))], 71⟩])
 (.ret (.bool (.lit false)) [⟨[(.int .u32 (.var 0)), (.int .u32 (.var 1))], 71⟩])))
theorem S_word_valid : FnIs Tryz.prog n_word_valid [(.agg [(.int .u32), (.int .u32)])] T_word_valid := ⟨Tryz.f69, [], 4000, Tryz.func69, by kernel_rfl⟩
abbrev n_feats_Dist : FuncId := 71
def T_feats_Dist : Tree :=
 (.alloc
 (.alloc
 (.alloc
 (.call false 87 [(.agg [(.int .u32 (.var 0)), (.int .u32 (.var 1))])] .bool [⟨[(.int .u32 (.var 0)), (.int .u32 (.var 1))], 71⟩, ⟨[(.int .u32 (.var 2)), (.int .u32 (.var 3))], 71⟩, ⟨[(.sl 4 (.lit 0) (.var 5) (.var 6)), (.int .i64 (.var 7))], 26⟩]
 (.ite (.not (.var 8))
 (.ret (.tup [(.int .i64 (.lit 0)), (.int .i64 (.lit 14))]) [⟨[(.int .u32 (.var 0)), (.int .u32 (.var 1))], 71⟩, ⟨[(.int .u32 (.var 2)), (.int .u32 (.var 3))], 71⟩, ⟨[(.sl 4 (.lit 0) (.var 5) (.var 6)), (.int .i64 (.var 7))], 26⟩])
 (.call false 87 [(.agg [(.int .u32 (.var 2)), (.int .u32 (.var 3))])] .bool [⟨[(.int .u32 (.var 0)), (.int .u32 (.var 1))], 71⟩, ⟨[(.int .u32 (.var 2)), (.int .u32 (.var 3))], 71⟩, ⟨[(.sl 4 (.lit 0) (.var 5) (.var 6)), (.int .i64 (.var 7))], 26⟩]
 (.ite (.not (.var 9))
 (.ret (.tup [(.int .i64 (.lit 0)), (.int .i64 (.lit 14))]) [⟨[(.int .u32 (.var 0)), (.int .u32 (.var 1))], 71⟩, ⟨[(.int .u32 (.var 2)), (.int .u32 (.var 3))], 71⟩, ⟨[(.sl 4 (.lit 0) (.var 5) (.var 6)), (.int .i64 (.var 7))], 26⟩])
 (.call false 18 [(.agg [(.sl 4 (.lit 0) (.var 5) (.var 6)), (.int .i64 (.var 7))])] (.int .i64) [⟨[(.int .u32 (.var 0)), (.int .u32 (.var 1))], 71⟩, ⟨[(.int .u32 (.var 2)), (.int .u32 (.var 3))], 71⟩, ⟨[(.sl 4 (.lit 0) (.var 5) (.var 6)), (.int .i64 (.var 7))], 26⟩]
 (.ite (.cmp .neq (.var 10) (.lit 0))
 (.ret (.tup [(.int .i64 (.lit 0)), (.int .i64 (.var 10))]) [⟨[(.int .u32 (.var 0)), (.int .u32 (.var 1))], 71⟩, ⟨[(.int .u32 (.var 2)), (.int .u32 (.var 3))], 71⟩, ⟨[(.sl 4 (.lit 0) (.var 5) (.var 6)), (.int .i64 (.var 7))], 26⟩])
 (.alloc
 (.call false 89 [(.agg [(.int .u32 (.var 0)), (.int .u32 (.var 1))]), (.agg [(.int .u32 (.var 2)), (.int .u32 (.var 3))])] (.int .u32) [⟨[(.int .u32 (.var 0)), (.int .u32 (.var 1))], 71⟩, ⟨[(.int .u32 (.var 2)), (.int .u32 (.var 3))], 71⟩, ⟨[(.sl 4 (.lit 0) (.var 5) (.var 6)), (.int .i64 (.var 7))], 26⟩, ⟨[(.int .i64 (.lit 0))], 2⟩]
 (.call false 88 [(.int .u32 (.var 11))] .val [⟨[(.int .u32 (.var 0)), (.int .u32 (.var 1))], 71⟩, ⟨[(.int .u32 (.var 2)), (.int .u32 (.var 3))], 71⟩, ⟨[(.sl 4 (.lit 0) (.var 5) (.var 6)), (.int .i64 (.var 7))], 26⟩, ⟨[(.int .i64 (.lit 0))], 2⟩]
 (.range (.val 12) [(.int .i64)] [(.int .i64)] [(.int .i64 (.lit 0))] [⟨[(.int .u32 (.var 0)), (.int .u32 (.var 1))], 71⟩, ⟨[(.int .u32 (.var 2)), (.int .u32 (.var 3))], 71⟩, ⟨[(.sl 4 (.lit 0) (.var 5) (.var 6)), (.int .i64 (.var 7))], 26⟩, ⟨[(.int .i64 (.lit 0))], 2⟩] [⟨[(.int .u32 (.var 0)), (.int .u32 (.var 1))], 71⟩, ⟨[(.int .u32 (.var 2)), (.int .u32 (.var 3))], 71⟩, ⟨[(.sl 4 (.lit 0) (.var 5) (.var 6)), (.int .i64 (.var 7))], 26⟩, ⟨[(.int .i64 (.var 13))], 2⟩]
 (.chk (.cmp .geq (.var 5) (.lit 0))
 (.ite (.cmp .lss (.var 14) (.var 5))
 (.chk (.pick (.cmp .geq (.var 14) (.lit 0)) (.pick (.cmp .lss (.var 14) (.var 5)) (.some 4) (.lit false)) (.lit false))
 (.load 4 (.off (.var 14) 1 (.lit 0)) [(.int .i64)] [⟨[(.int .u32 (.var 0)), (.int .u32 (.var 1))], 71⟩, ⟨[(.int .u32 (.var 2)), (.int .u32 (.var 3))], 71⟩, ⟨[(.sl 4 (.lit 0) (.var 5) (.var 6)), (.int .i64 (.var 7))], 26⟩, ⟨[(.int .i64 (.var 13))], 2⟩]
 (.leave 0 4 [(.int .i64)] [(.int .i64 (.bin .add .i64 (.var 13) (.var 15)))] [⟨[(.int .u32 (.var 0)), (.int .u32 (.var 1))], 71⟩, ⟨[(.int .u32 (.var 2)), (.int .u32 (.var 3))], 71⟩, ⟨[(.sl 4 (.lit 0) (.var 5) (.var 6)), (.int .i64 (.var 7))], 26⟩, ⟨[(.int .i64 (.bin .add .i64 (.var 13) (.var 15)))], 2⟩])))
 (.leave 0 4 [(.int .i64)] [(.int .i64 (.var 13))] [⟨[(.int .u32 (.var 0)), (.int .u32 (.var 1))], 71⟩, ⟨[(.int .u32 (.var 2)), (.int .u32 (.var 3))], 71⟩, ⟨[(.sl 4 (.lit 0) (.var 5) (.var 6)), (.int .i64 (.var 7))], 26⟩, ⟨[(.int .i64 (.var 13))], 2⟩])))
 (.ret (.tup [(.int .i64 (.var 13)), (.int .i64 (.lit 0))]) [⟨[(.int .u32 (.var 0)), (.int .u32 (.var 1))], 71⟩, ⟨[(.int .u32 (.var 2)), (.int .u32 (.var 3))], 71⟩, ⟨[(.sl 4 (.lit 0) (.var 5) (.var 6)), (.int .i64 (.var 7))], 26⟩, ⟨[(.int .i64 (.var 13))], 2⟩]))))))))))))))
theorem S_feats_Dist : FnIs Tryz.prog n_feats_Dist [(.agg [(.int .u32), (.int .u32)]), (.agg [(.int .u32), (.int .u32)]), (.agg [.sl, (.int .i64)])] T_feats_Dist := ⟨Tryz.f71, [], 4000, Tryz.func71, by kernel_rfl⟩
abbrev n_ref02_Check : FuncId := 74
def T_ref02_Check : Tree :=
 (.chk (.cmp .geq (.var 1) (.lit 0))
 (.ite (.cmp .gtr (.var 1) (.lit 32))
 (.ret (.int .i64 (.lit 11)) [])
 (.loop 0 [(.int .i64), (.int .i64)] [(.int .i64 (.lit 0)), (.int .i64 (.lit 0))] [] []
 (.chk (.cmp .geq (.var 1) (.lit 0))
 (.ite (.cmp .lss (.var 4) (.var 1))
 (.chk (.pick (.cmp .geq (.var 4) (.lit 0)) (.pick (.cmp .lss (.var 4) (.var 1)) (.some 0) (.lit false)) (.lit false))
 (.load 0 (.off (.var 4) 2 (.lit 0)) [(.int .u32), (.int .u32)] []
 (.call false 92 [(.agg [(.int .u32 (.var 5)), (.int .u32 (.var 6))])] .bool []
 (.ite (.not (.var 7))
 (.ret (.int .i64 (.lit 14)) [])
 (.again 0 0 [(.int .i64), (.int .i64)] [(.int .i64 (.var 3)), (.int .i64 (.bin .add .i64 (.var 4) (.lit 1)))] [])))))
 (.ret (.int .i64 (.lit 0)) []))))))
theorem S_ref02_Check : FnIs Tryz.prog n_ref02_Check [.sl] T_ref02_Check := ⟨Tryz.f74, [], 4000, Tryz.func74, by kernel_rfl⟩
abbrev n_cmp_Or_int_ : FuncId := 81
def T_cmp_Or_int_ : Tree :=
 (.chk (.cmp .geq (.var 1) (.lit 0))
 (.loop 0 [(.int .i64), (.int .i64)] [(.int .i64 (.lit 0)), (.int .i64 (.lit 0))] [] []
 (.ite (.cmp .lss (.var 4) (.var 1))
 (.chk (.pick (.cmp .geq (.var 4) (.lit 0)) (.pick (.cmp .lss (.var 4) (.var 1)) (.some 0) (.lit false)) (.lit false))
 (.load 0 (.off (.var 4) 1 (.lit 0)) [(.int .i64)] []
 (.ite (.cmp .neq (.var 5) (.lit 0))
 (.ret (.int .i64 (.var 5)) [])
 (.again 0 0 [(.int .i64), (.int .i64)] [(.int .i64 (.var 3)), (.int .i64 (.bin .add .i64 (.var 4) (.lit 1)))] []))))
 (.ret (.int .i64 (.lit 0)) []))))
theorem S_cmp_Or_int_ : FnIs Tryz.prog n_cmp_Or_int_ [.sl] T_cmp_Or_int_ := ⟨Tryz.f81, [], 4000, Tryz.func81, by kernel_rfl⟩
abbrev n_cmp_Compare_uint32_ : FuncId := 82
def T_cmp_Compare_uint32_ : Tree :=
 (.call false 97 [(.int .u32 (.var 0))] .bool []
 (.call false 97 [(.int .u32 (.var 1))] .bool []
 (.ite (.var 2)
 (.ite (.var 3)
 (.ret (.int .i64 (.lit 0)) [])
 (.ret (.int .i64 (.lit (-1))) []))
 (.ite (.var 3)
 (.ret (.int .i64 (.lit 1)) [])
 (.ite (.cmp .lss (.var 0) (.var 1))
 (.ret (.int .i64 (.lit (-1))) [])
 (.ite (.cmp .gtr (.var 0) (.var 1))
 (.ret (.int .i64 (.lit 1)) [])
 (.ret (.int .i64 (.lit 0)) [])))))))
theorem S_cmp_Compare_uint32_ : FnIs Tryz.prog n_cmp_Compare_uint32_ [(.int .u32), (.int .u32)] T_cmp_Compare_uint32_ := ⟨Tryz.f82, [], 4000, Tryz.func82, by kernel_rfl⟩
abbrev n_feats_Valid : FuncId := 87
def T_feats_Valid : Tree :=
 (.alloc
 (.ret (.bool (.pick (.cmp .eql (.bin .and .u32 (.var 0) (.var 1)) (.lit 0)) (.cmp .leq (.bin .or .u32 (.var 0) (.var 1)) (.lit 16777215)) (.lit false))) [⟨[(.int .u32 (.var 0)), (.int .u32 (.var 1))], 71⟩]))
theorem S_feats_Valid : FnIs Tryz.prog n_feats_Valid [(.agg [(.int .u32), (.int .u32)])] T_feats_Valid := ⟨Tryz.f87, [], 4000, Tryz.func87, by kernel_rfl⟩
abbrev n_feats_features : FuncId := 88
def T_feats_features : Tree :=
 (.alloc
 (.ret (.fn (.func 100) [] [(.loc 0 0)]) [⟨[(.int .u32 (.var 0))], 69⟩]))
theorem S_feats_features : FnIs Tryz.prog n_feats_features [(.int .u32)] T_feats_features := ⟨Tryz.f88, [], 4000, Tryz.func88, by kernel_rfl⟩
abbrev n_feats_Diff : FuncId := 89
def T_feats_Diff : Tree :=
 (.alloc
 (.alloc
 (.call false 87 [(.agg [(.int .u32 (.var 0)), (.int .u32 (.var 1))])] .bool [⟨[(.int .u32 (.var 0)), (.int .u32 (.var 1))], 71⟩, ⟨[(.int .u32 (.var 2)), (.int .u32 (.var 3))], 71⟩]
 (.ite (.not (.var 4))
 (.ret (.int .u32 (.lit 0)) [⟨[(.int .u32 (.var 0)), (.int .u32 (.var 1))], 71⟩, ⟨[(.int .u32 (.var 2)), (.int .u32 (.var 3))], 71⟩])
 (.call false 87 [(.agg [(.int .u32 (.var 2)), (.int .u32 (.var 3))])] .bool [⟨[(.int .u32 (.var 0)), (.int .u32 (.var 1))], 71⟩, ⟨[(.int .u32 (.var 2)), (.int .u32 (.var 3))], 71⟩]
 (.ite (.not (.var 5))
 (.ret (.int .u32 (.lit 0)) [⟨[(.int .u32 (.var 0)), (.int .u32 (.var 1))], 71⟩, ⟨[(.int .u32 (.var 2)), (.int .u32 (.var 3))], 71⟩])
 (.ret (.int .u32 (.bin .or .u32 (.bin .xor .u32 (.var 0) (.var 2)) (.bin .xor .u32 (.var 1) (.var 3)))) [⟨[(.int .u32 (.var 0)), (.int .u32 (.var 1))], 71⟩, ⟨[(.int .u32 (.var 2)), (.int .u32 (.var 3))], 71⟩])))))))
theorem S_feats_Diff : FnIs Tryz.prog n_feats_Diff [(.agg [(.int .u32), (.int .u32)]), (.agg [(.int .u32), (.int .u32)])] T_feats_Diff := ⟨Tryz.f89, [], 4000, Tryz.func89, by kernel_rfl⟩
abbrev n_ref02_Valid : FuncId := 92
def T_ref02_Valid : Tree :=
 (.alloc
 (.ret (.bool (.pick (.pick (.cmp .eql (.bin .and .u32 (.var 0) (.var 1)) (.lit 0)) (.cmp .lss (.var 0) (.lit 16777216)) (.lit false)) (.cmp .lss (.var 1) (.lit 16777216)) (.lit false))) [⟨[(.int .u32 (.var 0)), (.int .u32 (.var 1))], 71⟩]))
theorem S_ref02_Valid : FnIs Tryz.prog n_ref02_Valid [(.agg [(.int .u32), (.int .u32)])] T_ref02_Valid := ⟨Tryz.f92, [], 4000, Tryz.func92, by kernel_rfl⟩
abbrev n_cmp_isNaN_uint32_ : FuncId := 97
def T_cmp_isNaN_uint32_ : Tree :=
 (.ret (.bool (.cmp .neq (.var 0) (.var 0))) [])
theorem S_cmp_isNaN_uint32_ : FnIs Tryz.prog n_cmp_isNaN_uint32_ [(.int .u32)] T_cmp_isNaN_uint32_ := ⟨Tryz.f97, [], 4000, Tryz.func97, by kernel_rfl⟩
abbrev n_feats_features_1 : FuncId := 100
def T_feats_features_1 : Tree :=
 (.loop 0 [] [] [] []
 (.load 1 (.lit 0) [(.int .u32)] []
 (.ite (.cmp .neq (.var 2) (.lit 0))
 (.load 1 (.lit 0) [(.int .u32)] []
 (.call false 101 [(.int .u32 (.var 3))] (.int .i64) []
 (.callv false (.val 0) [(.int .i64 (.var 4))] .bool []
 (.ite (.var 5)
 (.load 1 (.lit 0) [(.int .u32)] []
 (.load 1 (.lit 0) [(.int .u32)] []
 (.store false 1 (.lit 0) [(.int .u32 (.bin .and .u32 (.var 6) (.bin .sub .u32 (.var 7) (.lit 1))))] []
 (.again 0 0 [] [] []))))
 (.ret (.tup []) [])))))
 (.ret (.tup []) []))))
theorem S_feats_features_1 : FnIs Tryz.prog n_feats_features_1 [.val, .ptr] T_feats_features_1 := ⟨Tryz.f100, [], 4000, Tryz.func100, by kernel_rfl⟩
abbrev n_math_bits_TrailingZeros32 : FuncId := 101
def T_math_bits_TrailingZeros32 : Tree :=
 (.ite (.cmp .eql (.var 0) (.lit 0))
 (.ret (.int .i64 (.lit 32)) [])
 (.extp ⟨(.indexAddr 149 (.tmp 0) (.tmp 0)), 0, [(.cst (.pointer (some ⟨3, 0, none⟩))), (.int .u32 (.bin .shr .u32 (.bin .mul .u32 (.bin .and .u32 (.var 0) (.bin .sub .u32 (.lit 0) (.var 0))) (.lit 125613361)) (.lit 27)))]⟩ .ptr []
 (.load 1 (.lit 0) [(.int .u8)] []
 (.ret (.int .i64 (.conv .i64 (.var 2))) []))))
theorem S_math_bits_TrailingZeros32 : FnIs Tryz.prog n_math_bits_TrailingZeros32 [(.int .u32)] T_math_bits_TrailingZeros32 := ⟨Tryz.f101, [], 4000, Tryz.func101, by kernel_rfl⟩
abbrev n_ref01_Dist : FuncId := 102
def T_ref01_Dist : Tree :=
 (.alloc
 (.alloc
 (.alloc
 (.call false 103 [(.agg [(.int .u32 (.var 0)), (.int .u32 (.var 1))])] .bool [⟨[(.int .u32 (.var 0)), (.int .u32 (.var 1))], 71⟩, ⟨[(.int .u32 (.var 2)), (.int .u32 (.var 3))], 71⟩, ⟨[(.sl 4 (.lit 0) (.var 5) (.var 6)), (.int .i64 (.var 7))], 26⟩]
 (.ite (.not (.var 8))
 (.ret (.tup [(.int .i64 (.lit 0)), (.int .i64 (.lit 14))]) [⟨[(.int .u32 (.var 0)), (.int .u32 (.var 1))], 71⟩, ⟨[(.int .u32 (.var 2)), (.int .u32 (.var 3))], 71⟩, ⟨[(.sl 4 (.lit 0) (.var 5) (.var 6)), (.int .i64 (.var 7))], 26⟩])
 (.call false 103 [(.agg [(.int .u32 (.var 2)), (.int .u32 (.var 3))])] .bool [⟨[(.int .u32 (.var 0)), (.int .u32 (.var 1))], 71⟩, ⟨[(.int .u32 (.var 2)), (.int .u32 (.var 3))], 71⟩, ⟨[(.sl 4 (.lit 0) (.var 5) (.var 6)), (.int .i64 (.var 7))], 26⟩]
 (.ite (.not (.var 9))
 (.ret (.tup [(.int .i64 (.lit 0)), (.int .i64 (.lit 14))]) [⟨[(.int .u32 (.var 0)), (.int .u32 (.var 1))], 71⟩, ⟨[(.int .u32 (.var 2)), (.int .u32 (.var 3))], 71⟩, ⟨[(.sl 4 (.lit 0) (.var 5) (.var 6)), (.int .i64 (.var 7))], 26⟩])
 (.call false 26 [(.agg [(.sl 4 (.lit 0) (.var 5) (.var 6)), (.int .i64 (.var 7))])] (.int .i64) [⟨[(.int .u32 (.var 0)), (.int .u32 (.var 1))], 71⟩, ⟨[(.int .u32 (.var 2)), (.int .u32 (.var 3))], 71⟩, ⟨[(.sl 4 (.lit 0) (.var 5) (.var 6)), (.int .i64 (.var 7))], 26⟩]
 (.ite (.cmp .neq (.var 10) (.lit 0))
 (.ret (.tup [(.int .i64 (.lit 0)), (.int .i64 (.lit 2))]) [⟨[(.int .u32 (.var 0)), (.int .u32 (.var 1))], 71⟩, ⟨[(.int .u32 (.var 2)), (.int .u32 (.var 3))], 71⟩, ⟨[(.sl 4 (.lit 0) (.var 5) (.var 6)), (.int .i64 (.var 7))], 26⟩])
 (.loop 0 [(.int .i64), (.int .i64)] [(.int .i64 (.lit 0)), (.int .i64 (.lit 0))] [⟨[(.int .u32 (.var 0)), (.int .u32 (.var 1))], 71⟩, ⟨[(.int .u32 (.var 2)), (.int .u32 (.var 3))], 71⟩, ⟨[(.sl 4 (.lit 0) (.var 5) (.var 6)), (.int .i64 (.var 7))], 26⟩] [⟨[(.int .u32 (.var 0)), (.int .u32 (.var 1))], 71⟩, ⟨[(.int .u32 (.var 2)), (.int .u32 (.var 3))], 71⟩, ⟨[(.sl 4 (.lit 0) (.var 5) (.var 6)), (.int .i64 (.var 7))], 26⟩]
 (.chk (.cmp .geq (.var 5) (.lit 0))
 (.ite (.cmp .lss (.var 12) (.var 5))
 (.call false 104 [(.agg [(.int .u32 (.var 0)), (.int .u32 (.var 1))]), (.int .i64 (.var 12))] (.int .i64) [⟨[(.int .u32 (.var 0)), (.int .u32 (.var 1))], 71⟩, ⟨[(.int .u32 (.var 2)), (.int .u32 (.var 3))], 71⟩, ⟨[(.sl 4 (.lit 0) (.var 5) (.var 6)), (.int .i64 (.var 7))], 26⟩]
 (.call false 104 [(.agg [(.int .u32 (.var 2)), (.int .u32 (.var 3))]), (.int .i64 (.var 12))] (.int .i64) [⟨[(.int .u32 (.var 0)), (.int .u32 (.var 1))], 71⟩, ⟨[(.int .u32 (.var 2)), (.int .u32 (.var 3))], 71⟩, ⟨[(.sl 4 (.lit 0) (.var 5) (.var 6)), (.int .i64 (.var 7))], 26⟩]
 (.ite (.cmp .neq (.var 13) (.var 14))
 (.chk (.pick (.cmp .geq (.var 12) (.lit 0)) (.pick (.cmp .lss (.var 12) (.var 5)) (.some 4) (.lit false)) (.lit false))
 (.load 4 (.off (.var 12) 1 (.lit 0)) [(.int .i64)] [⟨[(.int .u32 (.var 0)), (.int .u32 (.var 1))], 71⟩, ⟨[(.int .u32 (.var 2)), (.int .u32 (.var 3))], 71⟩, ⟨[(.sl 4 (.lit 0) (.var 5) (.var 6)), (.int .i64 (.var 7))], 26⟩]
 (.again 0 3 [(.int .i64), (.int .i64)] [(.int .i64 (.bin .add .i64 (.var 11) (.var 15))), (.int .i64 (.bin .add .i64 (.var 12) (.lit 1)))] [⟨[(.int .u32 (.var 0)), (.int .u32 (.var 1))], 71⟩, ⟨[(.int .u32 (.var 2)), (.int .u32 (.var 3))], 71⟩, ⟨[(.sl 4 (.lit 0) (.var 5) (.var 6)), (.int .i64 (.var 7))], 26⟩])))
 (.again 0 3 [(.int .i64), (.int .i64)] [(.int .i64 (.var 11)), (.int .i64 (.bin .add .i64 (.var 12) (.lit 1)))] [⟨[(.int .u32 (.var 0)), (.int .u32 (.var 1))], 71⟩, ⟨[(.int .u32 (.var 2)), (.int .u32 (.var 3))], 71⟩, ⟨[(.sl 4 (.lit 0) (.var 5) (.var 6)), (.int .i64 (.var 7))], 26⟩]))))
 (.ret (.tup [(.int .i64 (.var 11)), (.int .i64 (.lit 0))]) [⟨[(.int .u32 (.var 0)), (.int .u32 (.var 1))], 71⟩, ⟨[(.int .u32 (.var 2)), (.int .u32 (.var 3))], 71⟩, ⟨[(.sl 4 (.lit 0) (.var 5) (.var 6)), (.int .i64 (.var 7))], 26⟩])))))))))))))
theorem S_ref01_Dist : FnIs Tryz.prog n_ref01_Dist [(.agg [(.int .u32), (.int .u32)]), (.agg [(.int .u32), (.int .u32)]), (.agg [.sl, (.int .i64)])] T_ref01_Dist := ⟨Tryz.f102, [], 4000, Tryz.func102, by kernel_rfl⟩
abbrev n_ref01_Valid : FuncId := 103
def T_ref01_Valid : Tree :=
 (.alloc
 (.loop 0 [.bool, (.int .i64)] [(.bool (.lit false)), (.int .i64 (.lit 0))] [⟨[(.int .u32 (.var 0)), (.int .u32 (.var 1))], 71⟩] [⟨[(.int .u32 (.var 0)), (.int .u32 (.var 1))], 71⟩]
 (.ite (.cmp .lss (.var 3) (.lit 32))
 (.chk (.cmp .geq (.var 3) (.lit 0))
 (.chk (.cmp .geq (.var 3) (.lit 0))
 (.ite (.cmp .eql (.bin .and .u32 (.bin .shr .u32 (.var 0) (.var 3)) (.lit 1)) (.lit 1))
 (.ite (.pick (.cmp .eql (.bin .and .u32 (.bin .shr .u32 (.var 1) (.var 3)) (.lit 1)) (.lit 1)) (.lit true) (.cmp .geq (.var 3) (.lit 24)))
 (.ret (.bool (.lit false)) [⟨[(.int .u32 (.var 0)), (.int .u32 (.var 1))], 71⟩])
 (.again 0 1 [.bool, (.int .i64)] [(.bool (.var 2)), (.int .i64 (.bin .add .i64 (.var 3) (.lit 1)))] [⟨[(.int .u32 (.var 0)), (.int .u32 (.var 1))], 71⟩]))
 (.ite (.pick (.cmp .eql (.bin .and .u32 (.bin .shr .u32 (.var 1) (.var 3)) (.lit 1)) (.lit 1)) (.cmp .geq (.var 3) (.lit 24)) (.lit false))
 (.ret (.bool (.lit false)) [⟨[(.int .u32 (.var 0)), (.int .u32 (.var 1))], 71⟩])
 (.again 0 1 [.bool, (.int .i64)] [(.bool (.var 2)), (.int .i64 (.bin .add .i64 (.var 3) (.lit 1)))] [⟨[(.int .u32 (.var 0)), (.int .u32 (.var 1))], 71⟩])))))
 (.ret (.bool (.lit true)) [⟨[(.int .u32 (.var 0)), (.int .u32 (.var 1))], 71⟩]))))
theorem S_ref01_Valid : FnIs Tryz.prog n_ref01_Valid [(.agg [(.int .u32), (.int .u32)])] T_ref01_Valid := ⟨Tryz.f103, [], 4000, Tryz.func103, by kernel_rfl⟩
abbrev n_ref01_Get : FuncId := 104
def T_ref01_Get : Tree :=
 (.alloc
 (.call false 103 [(.agg [(.int .u32 (.var 0)), (.int .u32 (.var 1))])] .bool [⟨[(.int .u32 (.var 0)), (.int .u32 (.var 1))], 71⟩]
 (.ite (.not (.var 3))
 (.ret (.int .i64 (.lit 0)) [⟨[(.int .u32 (.var 0)), (.int .u32 (.var 1))], 71⟩])
 (.call false 105 [(.int .i64 (.var 2))] .bool [⟨[(.int .u32 (.var 0)), (.int .u32 (.var 1))], 71⟩]
 (.ite (.not (.var 4))
 (.ret (.int .i64 (.lit 0)) [⟨[(.int .u32 (.var 0)), (.int .u32 (.var 1))], 71⟩])
 (.chk (.cmp .geq (.var 2) (.lit 0))
 (.ite (.cmp .eql (.bin .and .u32 (.bin .shr .u32 (.var 0) (.var 2)) (.lit 1)) (.lit 1))
 (.ret (.int .i64 (.lit 1)) [⟨[(.int .u32 (.var 0)), (.int .u32 (.var 1))], 71⟩])
 (.chk (.cmp .geq (.var 2) (.lit 0))
 (.ite (.cmp .eql (.bin .and .u32 (.bin .shr .u32 (.var 1) (.var 2)) (.lit 1)) (.lit 1))
 (.ret (.int .i64 (.lit (-1))) [⟨[(.int .u32 (.var 0)), (.int .u32 (.var 1))], 71⟩])
 (.ret (.int .i64 (.lit 0)) [⟨[(.int .u32 (.var 0)), (.int .u32 (.var 1))], 71⟩]))))))))))
theorem S_ref01_Get : FnIs Tryz.prog n_ref01_Get [(.agg [(.int .u32), (.int .u32)]), (.int .i64)] T_ref01_Get := ⟨Tryz.f104, [], 4000, Tryz.func104, by kernel_rfl⟩
abbrev n_ref01_feature : FuncId := 105
def T_ref01_feature : Tree :=
 (.ret (.bool (.pick (.cmp .geq (.var 0) (.lit 0)) (.cmp .lss (.var 0) (.lit 24)) (.lit false))) [])
theorem S_ref01_feature : FnIs Tryz.prog n_ref01_feature [(.int .i64)] T_ref01_feature := ⟨Tryz.f105, [], 4000, Tryz.func105, by kernel_rfl⟩
abbrev n_word_Common : FuncId := 123
def T_word_Common : Tree :=
 (.chk (.cmp .geq (.var 1) (.lit 0))
 (.chk (.cmp .geq (.var 4) (.lit 0))
 (.loop 0 [(.int .i64)] [(.int .i64 (.lit 0))] [] []
 (.join 1 [.bool] []
 (.ite (.cmp .lss (.var 6) (.mn (.var 1) (.var 4)))
 (.chk (.pick (.cmp .geq (.var 6) (.lit 0)) (.pick (.cmp .lss (.var 6) (.var 1)) (.some 0) (.lit false)) (.lit false))
 (.load 0 (.off (.var 6) 2 (.lit 0)) [(.int .u32), (.int .u32)] []
 (.chk (.pick (.cmp .geq (.var 6) (.lit 0)) (.pick (.cmp .lss (.var 6) (.var 4)) (.some 3) (.lit false)) (.lit false))
 (.load 3 (.off (.var 6) 2 (.lit 0)) [(.int .u32), (.int .u32)] []
 (.again 1 0 [.bool] [(.bool (.pick (.cmp .eql (.var 7) (.var 9)) (.cmp .eql (.var 8) (.var 10)) (.lit false)))] [])))))
 (.again 1 0 [.bool] [(.bool (.lit false))] []))
 (.ite (.var 7)
 (.again 0 0 [(.int .i64)] [(.int .i64 (.bin .add .i64 (.var 6) (.lit 1)))] [])
 (.loop 0 [(.int .i64)] [(.int .i64 (.lit 0))] [] []
 (.join 1 [.bool] []
 (.ite (.cmp .lss (.bin .add .i64 (.var 6) (.var 8)) (.mn (.var 1) (.var 4)))
 (.chk (.cmp .geq (.var 1) (.lit 0))
 (.chk (.pick (.cmp .geq (.bin .sub .i64 (.bin .sub .i64 (.var 1) (.lit 1)) (.var 8)) (.lit 0)) (.pick (.cmp .lss (.bin .sub .i64 (.bin .sub .i64 (.var 1) (.lit 1)) (.var 8)) (.var 1)) (.some 0) (.lit false)) (.lit false))
 (.load 0 (.off (.bin .sub .i64 (.bin .sub .i64 (.var 1) (.lit 1)) (.var 8)) 2 (.lit 0)) [(.int .u32), (.int .u32)] []
 (.chk (.cmp .geq (.var 4) (.lit 0))
 (.chk (.pick (.cmp .geq (.bin .sub .i64 (.bin .sub .i64 (.var 4) (.lit 1)) (.var 8)) (.lit 0)) (.pick (.cmp .lss (.bin .sub .i64 (.bin .sub .i64 (.var 4) (.lit 1)) (.var 8)) (.var 4)) (.some 3) (.lit false)) (.lit false))
 (.load 3 (.off (.bin .sub .i64 (.bin .sub .i64 (.var 4) (.lit 1)) (.var 8)) 2 (.lit 0)) [(.int .u32), (.int .u32)] []
 (.again 1 0 [.bool] [(.bool (.pick (.cmp .eql (.var 9) (.var 11)) (.cmp .eql (.var 10) (.var 12)) (.lit false)))] [])))))))
 (.again 1 0 [.bool] [(.bool (.lit false))] []))
 (.ite (.var 9)
 (.again 0 0 [(.int .i64)] [(.int .i64 (.bin .add .i64 (.var 8) (.lit 1)))] [])
 (.ret (.tup [(.int .i64 (.var 6)), (.int .i64 (.var 8))]) [])))))))))
theorem S_word_Common : FnIs Tryz.prog n_word_Common [.sl, .sl] T_word_Common := ⟨Tryz.f123, [{ key := 200002, tmps := [(27, .bool)], join := true, dead := 279223176762752524 }, { key := 200005, tmps := [(53, .bool)], join := true }], 4000, Tryz.func123, by kernel_rfl⟩
end Go.Proofs.YtpbbnmjkbfbelaaGreatDoor
