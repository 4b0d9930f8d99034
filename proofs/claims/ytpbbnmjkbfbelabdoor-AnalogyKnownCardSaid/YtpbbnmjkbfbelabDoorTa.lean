/- The trees of this seat's functions, printed by a program of mine (SyGen), checked here by the kernel. -/
import Derived.Test.YtpbbnmjkbfbelabDoorSyDef
import Derived.Test.YtpbbnmjkbfbelabDoorProg
import Derived.KernelRfl
set_option maxRecDepth 100000
namespace Go.Proofs.YtpbbnmjkbfbelabDoor
open Go Go.Sy
abbrev n_word_Equal : FuncId := 11
def T_word_Equal : Tree :=
 (.call false 40 [(.sl 0 (.lit 0) (.var 1) (.var 2)), (.sl 3 (.lit 0) (.var 4) (.var 5))] .bool []
 (.ret (.bool (.var 6)) []))
theorem S_word_Equal : FnIs Tryd.prog n_word_Equal [.sl, .sl] T_word_Equal := ⟨Tryd.f11, [], 4000, Tryd.func11, by kernel_rfl⟩
abbrev n_word_Check : FuncId := 20
def T_word_Check : Tree :=
 (.chk (.cmp .geq (.var 1) (.lit 0))
 (.ite (.cmp .gtr (.var 1) (.lit 32))
 (.ret (.int .i64 (.lit 11)) [])
 (.chk (.cmp .geq (.var 1) (.lit 0))
 (.loop 0 [(.int .i64), (.int .i64)] [(.int .i64 (.lit 0)), (.int .i64 (.lit 0))] [] []
 (.ite (.cmp .lss (.var 4) (.var 1))
 (.chk (.pick (.cmp .geq (.var 4) (.lit 0)) (.pick (.cmp .lss (.var 4) (.var 1)) (.some 0) (.lit false)) (.lit false))
 (.load 0 (.off (.var 4) 2 (.lit 0)) [(.int .u32), (.int .u32)] []
 (.alloc
 (.call false 52 [(.agg [(.int .u32 (.var 5)), (.int .u32 (.var 6))])] .bool [⟨[(.int .u32 (.var 5)), (.int .u32 (.var 6))], 46⟩]
 (.ite (.not (.var 7))
 (.ret (.int .i64 (.lit 14)) [⟨[(.int .u32 (.var 5)), (.int .u32 (.var 6))], 46⟩])
 (.again 0 0 [(.int .i64), (.int .i64)] [(.int .i64 (.var 3)), (.int .i64 (.bin .add .i64 (.var 4) (.lit 1)))] [⟨[(.int .u32 (.var 5)), (.int .u32 (.var 6))], 46⟩]))))))
 (.ret (.int .i64 (.lit 0)) []))))))
theorem S_word_Check : FnIs Tryd.prog n_word_Check [.sl] T_word_Check := ⟨Tryd.f20, [], 4000, Tryd.func20, by kernel_rfl⟩
abbrev n_ref02_Equal : FuncId := 21
def T_ref02_Equal : Tree :=
 (.chk (.cmp .geq (.var 1) (.lit 0))
 (.chk (.cmp .geq (.var 4) (.lit 0))
 (.ite (.cmp .neq (.var 1) (.var 4))
 (.ret (.bool (.lit false)) [])
 (.loop 0 [.bool, (.int .i64)] [(.bool (.lit false)), (.int .i64 (.lit 0))] [] []
 (.chk (.cmp .geq (.var 1) (.lit 0))
 (.ite (.cmp .lss (.var 7) (.var 1))
 (.chk (.pick (.cmp .geq (.var 7) (.lit 0)) (.pick (.cmp .lss (.var 7) (.var 1)) (.some 0) (.lit false)) (.lit false))
 (.load 0 (.off (.var 7) 2 (.lit 0)) [(.int .u32), (.int .u32)] []
 (.chk (.pick (.cmp .geq (.var 7) (.lit 0)) (.pick (.cmp .lss (.var 7) (.var 4)) (.some 3) (.lit false)) (.lit false))
 (.load 3 (.off (.var 7) 2 (.lit 0)) [(.int .u32), (.int .u32)] []
 (.ite (.not (.pick (.cmp .eql (.var 8) (.var 10)) (.cmp .eql (.var 9) (.var 11)) (.lit false)))
 (.ret (.bool (.lit false)) [])
 (.again 0 0 [.bool, (.int .i64)] [(.bool (.var 6)), (.int .i64 (.bin .add .i64 (.var 7) (.lit 1)))] []))))))
 (.ret (.bool (.lit true)) [])))))))
theorem S_ref02_Equal : FnIs Tryd.prog n_ref02_Equal [.sl, .sl] T_ref02_Equal := ⟨Tryd.f21, [], 4000, Tryd.func21, by kernel_rfl⟩
abbrev n_feats_CheckCosts : FuncId := 23
def T_feats_CheckCosts : Tree :=
 (.alloc
 (.chk (.cmp .geq (.var 1) (.lit 0))
 (.ite (.pick (.pick (.cmp .gtr (.var 1) (.lit 24)) (.lit true) (.cmp .lss (.var 3) (.lit 0))) (.lit true) (.cmp .gtr (.var 3) (.lit 1073741824)))
 (.ret (.int .i64 (.lit 2)) [⟨[(.sl 0 (.lit 0) (.var 1) (.var 2)), (.int .i64 (.var 3))], 31⟩])
 (.chk (.cmp .geq (.var 1) (.lit 0))
 (.loop 0 [(.int .i64), (.int .i64)] [(.int .i64 (.lit 0)), (.int .i64 (.lit 0))] [⟨[(.sl 0 (.lit 0) (.var 1) (.var 2)), (.int .i64 (.var 3))], 31⟩] [⟨[(.sl 0 (.lit 0) (.var 1) (.var 2)), (.int .i64 (.var 3))], 31⟩]
 (.ite (.cmp .lss (.var 5) (.var 1))
 (.chk (.pick (.cmp .geq (.var 5) (.lit 0)) (.pick (.cmp .lss (.var 5) (.var 1)) (.some 0) (.lit false)) (.lit false))
 (.load 0 (.off (.var 5) 1 (.lit 0)) [(.int .i64)] [⟨[(.sl 0 (.lit 0) (.var 1) (.var 2)), (.int .i64 (.var 3))], 31⟩]
 (.ite (.pick (.cmp .lss (.var 6) (.lit 0)) (.lit true) (.cmp .gtr (.var 6) (.lit 1073741824)))
 (.ret (.int .i64 (.lit 2)) [⟨[(.sl 0 (.lit 0) (.var 1) (.var 2)), (.int .i64 (.var 3))], 31⟩])
 (.again 0 1 [(.int .i64), (.int .i64)] [(.int .i64 (.var 4)), (.int .i64 (.bin .add .i64 (.var 5) (.lit 1)))] [⟨[(.sl 0 (.lit 0) (.var 1) (.var 2)), (.int .i64 (.var 3))], 31⟩]))))
 (.ret (.int .i64 (.lit 0)) [⟨[(.sl 0 (.lit 0) (.var 1) (.var 2)), (.int .i64 (.var 3))], 31⟩])))))))
theorem S_feats_CheckCosts : FnIs Tryd.prog n_feats_CheckCosts [(.agg [.sl, (.int .i64)])] T_feats_CheckCosts := ⟨Tryd.f23, [], 4000, Tryd.func23, by kernel_rfl⟩
abbrev n_slices_Equal___api_Sound_api_Sound_ : FuncId := 40
def T_slices_Equal___api_Sound_api_Sound_ : Tree :=
 (.chk (.cmp .geq (.var 1) (.lit 0))
 (.chk (.cmp .geq (.var 4) (.lit 0))
 (.ite (.cmp .neq (.var 1) (.var 4))
 (.ret (.bool (.lit false)) [])
 (.chk (.cmp .geq (.var 1) (.lit 0))
 (.loop 0 [.bool, (.int .i64)] [(.bool (.lit false)), (.int .i64 (.lit 0))] [] []
 (.ite (.cmp .lss (.var 7) (.var 1))
 (.chk (.pick (.cmp .geq (.var 7) (.lit 0)) (.pick (.cmp .lss (.var 7) (.var 1)) (.some 0) (.lit false)) (.lit false))
 (.load 0 (.off (.var 7) 2 (.lit 0)) [(.int .u32), (.int .u32)] []
 (.chk (.pick (.cmp .geq (.var 7) (.lit 0)) (.pick (.cmp .lss (.var 7) (.var 4)) (.some 3) (.lit false)) (.lit false))
 (.load 3 (.off (.var 7) 2 (.lit 0)) [(.int .u32), (.int .u32)] []
 (.ite (.not (.pick (.cmp .eql (.var 8) (.var 10)) (.cmp .eql (.var 9) (.var 11)) (.lit false)))
 (.ret (.bool (.lit false)) [])
 (.again 0 0 [.bool, (.int .i64)] [(.bool (.var 6)), (.int .i64 (.bin .add .i64 (.var 7) (.lit 1)))] []))))))
 (.ret (.bool (.lit true)) [])))))))
theorem S_slices_Equal___api_Sound_api_Sound_ : FnIs Tryd.prog n_slices_Equal___api_Sound_api_Sound_ [.sl, .sl] T_slices_Equal___api_Sound_api_Sound_ := ⟨Tryd.f40, [], 4000, Tryd.func40, by kernel_rfl⟩
abbrev n_word_Order : FuncId := 46
def T_word_Order : Tree :=
 (.call false 59 [(.sl 0 (.lit 0) (.var 1) (.var 2)), (.sl 3 (.lit 0) (.var 4) (.var 5)), (.cst (.func (.func 60) #[] #[]))] (.int .i64) []
 (.ret (.int .i64 (.var 6)) []))
theorem S_word_Order : FnIs Tryd.prog n_word_Order [.sl, .sl] T_word_Order := ⟨Tryd.f46, [], 4000, Tryd.func46, by kernel_rfl⟩
abbrev n_slices_Clone___api_Sound_api_Sound_ : FuncId := 50
def T_slices_Clone___api_Sound_api_Sound_ : Tree :=
 (.extp ⟨(.binOp .eql 23 (.tmp 0) (.const (.bool true)) 23), 4, [(.sl 0 (.lit 0) (.var 1) (.var 2)), (.cst (.slice none 0 0))]⟩ .bool []
 (.ite (.var 3)
 (.ret (.cst (.slice none 0 0)) [])
 (.alloc
 (.ext false ⟨(.call ⟨.builtin .append, #[(.tmp 0), (.tmp 0)], #[23, 23]⟩), 23, [(.slc 0 0 0 0), (.sl 0 (.lit 0) (.var 1) (.var 2))]⟩ .sl [⟨[], 46⟩]
 (.ret (.sl 4 (.lit 0) (.var 5) (.var 6)) [⟨[], 46⟩])))))
theorem S_slices_Clone___api_Sound_api_Sound_ : FnIs Tryd.prog n_slices_Clone___api_Sound_api_Sound_ [.sl] T_slices_Clone___api_Sound_api_Sound_ := ⟨Tryd.f50, [], 4000, Tryd.func50, by kernel_rfl⟩
abbrev n_slices_Concat___api_Sound_api_Sound_ : FuncId := 51
def T_slices_Concat___api_Sound_api_Sound_ : Tree :=
 (.chk (.cmp .geq (.var 1) (.lit 0))
 (.loop 0 [(.int .i64), (.int .i64)] [(.int .i64 (.lit 0)), (.int .i64 (.lit 0))] [] []
 (.ite (.cmp .lss (.var 4) (.var 1))
 (.chk (.pick (.cmp .geq (.var 4) (.lit 0)) (.pick (.cmp .lss (.var 4) (.var 1)) (.some 0) (.lit false)) (.lit false))
 (.load 0 (.off (.var 4) 1 (.lit 0)) [.sl] []
 (.chk (.cmp .geq (.var 6) (.lit 0))
 (.join 1 [] []
 (.ite (.cmp .lss (.bin .add .i64 (.var 3) (.var 6)) (.lit 0))
 (.bad "ext slices.go:496")
 (.again 1 0 [] [] []))
 (.again 0 0 [(.int .i64), (.int .i64)] [(.int .i64 (.bin .add .i64 (.var 3) (.var 6))), (.int .i64 (.bin .add .i64 (.var 4) (.lit 1)))] [])))))
 (.call false 63 [(.cst (.slice none 0 0)), (.int .i64 (.var 3))] .sl []
 (.chk (.cmp .geq (.var 1) (.lit 0))
 (.loop 0 [.sl, (.int .i64)] [(.sl 5 (.lit 0) (.var 6) (.var 7)), (.int .i64 (.lit 0))] [] []
 (.ite (.cmp .lss (.var 11) (.var 1))
 (.chk (.pick (.cmp .geq (.var 11) (.lit 0)) (.pick (.cmp .lss (.var 11) (.var 1)) (.some 0) (.lit false)) (.lit false))
 (.load 0 (.off (.var 11) 1 (.lit 0)) [.sl] []
 (.ext false ⟨(.call ⟨.builtin .append, #[(.tmp 0), (.tmp 0)], #[23, 23]⟩), 23, [(.sl 8 (.lit 0) (.var 9) (.var 10)), (.sl 12 (.lit 0) (.var 13) (.var 14))]⟩ .sl []
 (.again 0 0 [.sl, (.int .i64)] [(.sl 15 (.lit 0) (.var 16) (.var 17)), (.int .i64 (.bin .add .i64 (.var 11) (.lit 1)))] []))))
 (.ret (.sl 8 (.lit 0) (.var 9) (.var 10)) []))))))))
theorem S_slices_Concat___api_Sound_api_Sound_ : FnIs Tryd.prog n_slices_Concat___api_Sound_api_Sound_ [.sl] T_slices_Concat___api_Sound_api_Sound_ := ⟨Tryd.f51, [{ key := 7, tmps := [], join := true, dead := 68215103634 }], 4000, Tryd.func51, by kernel_rfl⟩
abbrev n_word_valid : FuncId := 52
def T_word_valid : Tree :=
 (.alloc
 (.ite (.cmp .eql (.bin .and .u32 (.var 0) (.var 1)) (.lit 0))
 (.ret (.bool (.cmp .eql (.bin .shr .u32 (.bin .or .u32 (.var 0) (.var 1)) (.lit 24)) (.lit 0))) [⟨[(.int .u32 (.var 0)), (.int .u32 (.var 1))], 46⟩])
 (.ret (.bool (.lit false)) [⟨[(.int .u32 (.var 0)), (.int .u32 (.var 1))], 46⟩])))
theorem S_word_valid : FnIs Tryd.prog n_word_valid [(.agg [(.int .u32), (.int .u32)])] T_word_valid := ⟨Tryd.f52, [], 4000, Tryd.func52, by kernel_rfl⟩
abbrev n_feats_Dist : FuncId := 54
def T_feats_Dist : Tree :=
 (.alloc
 (.alloc
 (.alloc
 (.call false 64 [(.agg [(.int .u32 (.var 0)), (.int .u32 (.var 1))])] .bool [⟨[(.int .u32 (.var 0)), (.int .u32 (.var 1))], 46⟩, ⟨[(.int .u32 (.var 2)), (.int .u32 (.var 3))], 46⟩, ⟨[(.sl 4 (.lit 0) (.var 5) (.var 6)), (.int .i64 (.var 7))], 31⟩]
 (.ite (.not (.var 8))
 (.ret (.tup [(.int .i64 (.lit 0)), (.int .i64 (.lit 14))]) [⟨[(.int .u32 (.var 0)), (.int .u32 (.var 1))], 46⟩, ⟨[(.int .u32 (.var 2)), (.int .u32 (.var 3))], 46⟩, ⟨[(.sl 4 (.lit 0) (.var 5) (.var 6)), (.int .i64 (.var 7))], 31⟩])
 (.call false 64 [(.agg [(.int .u32 (.var 2)), (.int .u32 (.var 3))])] .bool [⟨[(.int .u32 (.var 0)), (.int .u32 (.var 1))], 46⟩, ⟨[(.int .u32 (.var 2)), (.int .u32 (.var 3))], 46⟩, ⟨[(.sl 4 (.lit 0) (.var 5) (.var 6)), (.int .i64 (.var 7))], 31⟩]
 (.ite (.not (.var 9))
 (.ret (.tup [(.int .i64 (.lit 0)), (.int .i64 (.lit 14))]) [⟨[(.int .u32 (.var 0)), (.int .u32 (.var 1))], 46⟩, ⟨[(.int .u32 (.var 2)), (.int .u32 (.var 3))], 46⟩, ⟨[(.sl 4 (.lit 0) (.var 5) (.var 6)), (.int .i64 (.var 7))], 31⟩])
 (.call false 23 [(.agg [(.sl 4 (.lit 0) (.var 5) (.var 6)), (.int .i64 (.var 7))])] (.int .i64) [⟨[(.int .u32 (.var 0)), (.int .u32 (.var 1))], 46⟩, ⟨[(.int .u32 (.var 2)), (.int .u32 (.var 3))], 46⟩, ⟨[(.sl 4 (.lit 0) (.var 5) (.var 6)), (.int .i64 (.var 7))], 31⟩]
 (.ite (.cmp .neq (.var 10) (.lit 0))
 (.ret (.tup [(.int .i64 (.lit 0)), (.int .i64 (.var 10))]) [⟨[(.int .u32 (.var 0)), (.int .u32 (.var 1))], 46⟩, ⟨[(.int .u32 (.var 2)), (.int .u32 (.var 3))], 46⟩, ⟨[(.sl 4 (.lit 0) (.var 5) (.var 6)), (.int .i64 (.var 7))], 31⟩])
 (.alloc
 (.call false 66 [(.agg [(.int .u32 (.var 0)), (.int .u32 (.var 1))]), (.agg [(.int .u32 (.var 2)), (.int .u32 (.var 3))])] (.int .u32) [⟨[(.int .u32 (.var 0)), (.int .u32 (.var 1))], 46⟩, ⟨[(.int .u32 (.var 2)), (.int .u32 (.var 3))], 46⟩, ⟨[(.sl 4 (.lit 0) (.var 5) (.var 6)), (.int .i64 (.var 7))], 31⟩, ⟨[(.int .i64 (.lit 0))], 2⟩]
 (.call false 65 [(.int .u32 (.var 11))] .val [⟨[(.int .u32 (.var 0)), (.int .u32 (.var 1))], 46⟩, ⟨[(.int .u32 (.var 2)), (.int .u32 (.var 3))], 46⟩, ⟨[(.sl 4 (.lit 0) (.var 5) (.var 6)), (.int .i64 (.var 7))], 31⟩, ⟨[(.int .i64 (.lit 0))], 2⟩]
 (.range (.val 12) [(.int .i64)] [(.int .i64)] [(.int .i64 (.lit 0))] [⟨[(.int .u32 (.var 0)), (.int .u32 (.var 1))], 46⟩, ⟨[(.int .u32 (.var 2)), (.int .u32 (.var 3))], 46⟩, ⟨[(.sl 4 (.lit 0) (.var 5) (.var 6)), (.int .i64 (.var 7))], 31⟩, ⟨[(.int .i64 (.lit 0))], 2⟩] [⟨[(.int .u32 (.var 0)), (.int .u32 (.var 1))], 46⟩, ⟨[(.int .u32 (.var 2)), (.int .u32 (.var 3))], 46⟩, ⟨[(.sl 4 (.lit 0) (.var 5) (.var 6)), (.int .i64 (.var 7))], 31⟩, ⟨[(.int .i64 (.var 13))], 2⟩]
 (.chk (.cmp .geq (.var 5) (.lit 0))
 (.ite (.cmp .lss (.var 14) (.var 5))
 (.chk (.pick (.cmp .geq (.var 14) (.lit 0)) (.pick (.cmp .lss (.var 14) (.var 5)) (.some 4) (.lit false)) (.lit false))
 (.load 4 (.off (.var 14) 1 (.lit 0)) [(.int .i64)] [⟨[(.int .u32 (.var 0)), (.int .u32 (.var 1))], 46⟩, ⟨[(.int .u32 (.var 2)), (.int .u32 (.var 3))], 46⟩, ⟨[(.sl 4 (.lit 0) (.var 5) (.var 6)), (.int .i64 (.var 7))], 31⟩, ⟨[(.int .i64 (.var 13))], 2⟩]
 (.leave 0 4 [(.int .i64)] [(.int .i64 (.bin .add .i64 (.var 13) (.var 15)))] [⟨[(.int .u32 (.var 0)), (.int .u32 (.var 1))], 46⟩, ⟨[(.int .u32 (.var 2)), (.int .u32 (.var 3))], 46⟩, ⟨[(.sl 4 (.lit 0) (.var 5) (.var 6)), (.int .i64 (.var 7))], 31⟩, ⟨[(.int .i64 (.bin .add .i64 (.var 13) (.var 15)))], 2⟩])))
 (.leave 0 4 [(.int .i64)] [(.int .i64 (.var 13))] [⟨[(.int .u32 (.var 0)), (.int .u32 (.var 1))], 46⟩, ⟨[(.int .u32 (.var 2)), (.int .u32 (.var 3))], 46⟩, ⟨[(.sl 4 (.lit 0) (.var 5) (.var 6)), (.int .i64 (.var 7))], 31⟩, ⟨[(.int .i64 (.var 13))], 2⟩])))
 (.ret (.tup [(.int .i64 (.var 13)), (.int .i64 (.lit 0))]) [⟨[(.int .u32 (.var 0)), (.int .u32 (.var 1))], 46⟩, ⟨[(.int .u32 (.var 2)), (.int .u32 (.var 3))], 46⟩, ⟨[(.sl 4 (.lit 0) (.var 5) (.var 6)), (.int .i64 (.var 7))], 31⟩, ⟨[(.int .i64 (.var 13))], 2⟩]))))))))))))))
theorem S_feats_Dist : FnIs Tryd.prog n_feats_Dist [(.agg [(.int .u32), (.int .u32)]), (.agg [(.int .u32), (.int .u32)]), (.agg [.sl, (.int .i64)])] T_feats_Dist := ⟨Tryd.f54, [], 4000, Tryd.func54, by kernel_rfl⟩
abbrev n_slices_CompareFunc___api_Sound___api_Sound_api_Sound_api_Sound_ : FuncId := 59
def T_slices_CompareFunc___api_Sound___api_Sound_api_Sound_api_Sound_ : Tree :=
 (.chk (.cmp .geq (.var 1) (.lit 0))
 (.loop 0 [(.int .i64), (.int .i64)] [(.int .i64 (.lit 0)), (.int .i64 (.lit 0))] [] []
 (.ite (.cmp .lss (.var 8) (.var 1))
 (.chk (.pick (.cmp .geq (.var 8) (.lit 0)) (.pick (.cmp .lss (.var 8) (.var 1)) (.some 0) (.lit false)) (.lit false))
 (.load 0 (.off (.var 8) 2 (.lit 0)) [(.int .u32), (.int .u32)] []
 (.alloc
 (.chk (.cmp .geq (.var 4) (.lit 0))
 (.ite (.cmp .geq (.var 8) (.var 4))
 (.ret (.int .i64 (.lit 1)) [⟨[(.int .u32 (.var 9)), (.int .u32 (.var 10))], 46⟩])
 (.chk (.pick (.cmp .geq (.var 8) (.lit 0)) (.pick (.cmp .lss (.var 8) (.var 4)) (.some 3) (.lit false)) (.lit false))
 (.load 3 (.off (.var 8) 2 (.lit 0)) [(.int .u32), (.int .u32)] [⟨[(.int .u32 (.var 9)), (.int .u32 (.var 10))], 46⟩]
 (.alloc
 (.callv false (.val 6) [(.agg [(.int .u32 (.var 9)), (.int .u32 (.var 10))]), (.agg [(.int .u32 (.var 11)), (.int .u32 (.var 12))])] (.int .i64) [⟨[(.int .u32 (.var 9)), (.int .u32 (.var 10))], 46⟩, ⟨[(.int .u32 (.var 11)), (.int .u32 (.var 12))], 46⟩]
 (.ite (.cmp .neq (.var 13) (.lit 0))
 (.ret (.int .i64 (.var 13)) [⟨[(.int .u32 (.var 9)), (.int .u32 (.var 10))], 46⟩, ⟨[(.int .u32 (.var 11)), (.int .u32 (.var 12))], 46⟩])
 (.again 0 0 [(.int .i64), (.int .i64)] [(.int .i64 (.var 7)), (.int .i64 (.bin .add .i64 (.var 8) (.lit 1)))] [⟨[(.int .u32 (.var 9)), (.int .u32 (.var 10))], 46⟩, ⟨[(.int .u32 (.var 11)), (.int .u32 (.var 12))], 46⟩])))))))))))
 (.chk (.cmp .geq (.var 1) (.lit 0))
 (.chk (.cmp .geq (.var 4) (.lit 0))
 (.ite (.cmp .lss (.var 1) (.var 4))
 (.ret (.int .i64 (.lit (-1))) [])
 (.ret (.int .i64 (.lit 0)) [])))))))
theorem S_slices_CompareFunc___api_Sound___api_Sound_api_Sound_api_Sound_ : FnIs Tryd.prog n_slices_CompareFunc___api_Sound___api_Sound_api_Sound_api_Sound_ [.sl, .sl, .val] T_slices_CompareFunc___api_Sound___api_Sound_api_Sound_api_Sound_ := ⟨Tryd.f59, [], 4000, Tryd.func59, by kernel_rfl⟩
abbrev n_word_order : FuncId := 60
def T_word_order : Tree :=
 (.alloc
 (.alloc
 (.call false 70 [(.int .u32 (.var 0)), (.int .u32 (.var 2))] (.int .i64) [⟨[(.int .u32 (.var 0)), (.int .u32 (.var 1))], 46⟩, ⟨[(.int .u32 (.var 2)), (.int .u32 (.var 3))], 46⟩]
 (.call false 70 [(.int .u32 (.var 1)), (.int .u32 (.var 3))] (.int .i64) [⟨[(.int .u32 (.var 0)), (.int .u32 (.var 1))], 46⟩, ⟨[(.int .u32 (.var 2)), (.int .u32 (.var 3))], 46⟩]
 (.alloc
 (.call false 69 [(.slc 2 0 2 2)] (.int .i64) [⟨[(.int .u32 (.var 0)), (.int .u32 (.var 1))], 46⟩, ⟨[(.int .u32 (.var 2)), (.int .u32 (.var 3))], 46⟩, ⟨[(.int .i64 (.var 4)), (.int .i64 (.var 5))], 3⟩]
 (.ret (.int .i64 (.var 6)) [⟨[(.int .u32 (.var 0)), (.int .u32 (.var 1))], 46⟩, ⟨[(.int .u32 (.var 2)), (.int .u32 (.var 3))], 46⟩, ⟨[(.int .i64 (.var 4)), (.int .i64 (.var 5))], 3⟩])))))))
theorem S_word_order : FnIs Tryd.prog n_word_order [(.agg [(.int .u32), (.int .u32)]), (.agg [(.int .u32), (.int .u32)])] T_word_order := ⟨Tryd.f60, [], 4000, Tryd.func60, by kernel_rfl⟩
abbrev n_slices_Grow___api_Sound_api_Sound_ : FuncId := 63
def T_slices_Grow___api_Sound_api_Sound_ : Tree :=
 (.join 0 [] []
 (.ite (.cmp .lss (.var 3) (.lit 0))
 (.bad "ext slices.go:424")
 (.again 0 0 [] [] []))
 (.ext false ⟨(.call ⟨.builtin .cap, #[(.tmp 0)], #[23]⟩), 3, [(.sl 0 (.lit 0) (.var 1) (.var 2))]⟩ (.int .i64) []
 (.chk (.cmp .geq (.var 1) (.lit 0))
 (.join 0 [.sl] []
 (.ite (.cmp .gtr (.bin .sub .i64 (.var 3) (.bin .sub .i64 (.var 4) (.var 1))) (.lit 0))
 (.ext false ⟨(.call ⟨.builtin .cap, #[(.tmp 0)], #[23]⟩), 3, [(.sl 0 (.lit 0) (.var 1) (.var 2))]⟩ (.int .i64) []
 (.chk (.pick (.cmp .leq (.lit 0) (.var 5)) (.cmp .leq (.var 5) (.var 2)) (.lit false))
 (.ext false ⟨(.call ⟨.builtin .append, #[(.tmp 0), (.tmp 0)], #[23, 3]⟩), 23, [(.sl 0 (.ifeq (.var 2) (.lit 0) (.lit 0) (.lit 0)) (.var 5) (.var 2)), (.int .i64 (.bin .sub .i64 (.var 3) (.bin .sub .i64 (.var 4) (.var 1))))]⟩ .sl []
 (.chk (.cmp .geq (.var 1) (.lit 0))
 (.chk (.pick (.cmp .leq (.lit 0) (.var 1)) (.cmp .leq (.var 1) (.var 8)) (.lit false))
 (.again 0 0 [.sl] [(.sl 6 (.ifeq (.var 8) (.lit 0) (.lit 0) (.lit 0)) (.var 1) (.var 8))] []))))))
 (.again 0 0 [.sl] [(.sl 0 (.lit 0) (.var 1) (.var 2))] []))
 (.ret (.sl 5 (.lit 0) (.var 6) (.var 7)) [])))))
theorem S_slices_Grow___api_Sound_api_Sound_ : FnIs Tryd.prog n_slices_Grow___api_Sound_api_Sound_ [.sl, (.int .i64)] T_slices_Grow___api_Sound_api_Sound_ := ⟨Tryd.f63, [{ key := 2, tmps := [], join := true, dead := 134152108 }, { key := 5, tmps := [], join := true }], 4000, Tryd.func63, by kernel_rfl⟩
abbrev n_feats_Valid : FuncId := 64
def T_feats_Valid : Tree :=
 (.alloc
 (.ret (.bool (.pick (.cmp .eql (.bin .and .u32 (.var 0) (.var 1)) (.lit 0)) (.cmp .leq (.bin .or .u32 (.var 0) (.var 1)) (.lit 16777215)) (.lit false))) [⟨[(.int .u32 (.var 0)), (.int .u32 (.var 1))], 46⟩]))
theorem S_feats_Valid : FnIs Tryd.prog n_feats_Valid [(.agg [(.int .u32), (.int .u32)])] T_feats_Valid := ⟨Tryd.f64, [], 4000, Tryd.func64, by kernel_rfl⟩
abbrev n_feats_features : FuncId := 65
def T_feats_features : Tree :=
 (.alloc
 (.ret (.fn (.func 75) [] [(.loc 0 0)]) [⟨[(.int .u32 (.var 0))], 44⟩]))
theorem S_feats_features : FnIs Tryd.prog n_feats_features [(.int .u32)] T_feats_features := ⟨Tryd.f65, [], 4000, Tryd.func65, by kernel_rfl⟩
abbrev n_feats_Diff : FuncId := 66
def T_feats_Diff : Tree :=
 (.alloc
 (.alloc
 (.call false 64 [(.agg [(.int .u32 (.var 0)), (.int .u32 (.var 1))])] .bool [⟨[(.int .u32 (.var 0)), (.int .u32 (.var 1))], 46⟩, ⟨[(.int .u32 (.var 2)), (.int .u32 (.var 3))], 46⟩]
 (.ite (.not (.var 4))
 (.ret (.int .u32 (.lit 0)) [⟨[(.int .u32 (.var 0)), (.int .u32 (.var 1))], 46⟩, ⟨[(.int .u32 (.var 2)), (.int .u32 (.var 3))], 46⟩])
 (.call false 64 [(.agg [(.int .u32 (.var 2)), (.int .u32 (.var 3))])] .bool [⟨[(.int .u32 (.var 0)), (.int .u32 (.var 1))], 46⟩, ⟨[(.int .u32 (.var 2)), (.int .u32 (.var 3))], 46⟩]
 (.ite (.not (.var 5))
 (.ret (.int .u32 (.lit 0)) [⟨[(.int .u32 (.var 0)), (.int .u32 (.var 1))], 46⟩, ⟨[(.int .u32 (.var 2)), (.int .u32 (.var 3))], 46⟩])
 (.ret (.int .u32 (.bin .or .u32 (.bin .xor .u32 (.var 0) (.var 2)) (.bin .xor .u32 (.var 1) (.var 3)))) [⟨[(.int .u32 (.var 0)), (.int .u32 (.var 1))], 46⟩, ⟨[(.int .u32 (.var 2)), (.int .u32 (.var 3))], 46⟩])))))))
theorem S_feats_Diff : FnIs Tryd.prog n_feats_Diff [(.agg [(.int .u32), (.int .u32)]), (.agg [(.int .u32), (.int .u32)])] T_feats_Diff := ⟨Tryd.f66, [], 4000, Tryd.func66, by kernel_rfl⟩
abbrev n_cmp_Or_int_ : FuncId := 69
def T_cmp_Or_int_ : Tree :=
 (.chk (.cmp .geq (.var 1) (.lit 0))
 (.loop 0 [(.int .i64), (.int .i64)] [(.int .i64 (.lit 0)), (.int .i64 (.lit 0))] [] []
 (.ite (.cmp .lss (.var 4) (.var 1))
 (.chk (.pick (.cmp .geq (.var 4) (.lit 0)) (.pick (.cmp .lss (.var 4) (.var 1)) (.some 0) (.lit false)) (.lit false))
 (.load 0 (.off (.var 4) 1 (.lit 0)) [(.int .i64)] []
 (.ite (.cmp .neq (.var 5) (.lit 0))
 (.ret (.int .i64 (.var 5)) [])
 (.again 0 0 [(.int .i64), (.int .i64)] [(.int .i64 (.var 3)), (.int .i64 (.bin .add .i64 (.var 4) (.lit 1)))] []))))
 (.ret (.int .i64 (.lit 0)) []))))
theorem S_cmp_Or_int_ : FnIs Tryd.prog n_cmp_Or_int_ [.sl] T_cmp_Or_int_ := ⟨Tryd.f69, [], 4000, Tryd.func69, by kernel_rfl⟩
abbrev n_cmp_Compare_uint32_ : FuncId := 70
def T_cmp_Compare_uint32_ : Tree :=
 (.call false 77 [(.int .u32 (.var 0))] .bool []
 (.call false 77 [(.int .u32 (.var 1))] .bool []
 (.ite (.var 2)
 (.ite (.var 3)
 (.ret (.int .i64 (.lit 0)) [])
 (.ret (.int .i64 (.lit (-1))) []))
 (.ite (.var 3)
 (.ret (.int .i64 (.lit 1)) [])
 (.ite (.cmp .lss (.var 0) (.var 1))
 (.ret (.int .i64 (.lit (-1))) [])
 (.ite (.cmp .gtr (.var 0) (.var 1))
 (.ret (.int .i64 (.lit 1)) [])
 (.ret (.int .i64 (.lit 0)) [])))))))
theorem S_cmp_Compare_uint32_ : FnIs Tryd.prog n_cmp_Compare_uint32_ [(.int .u32), (.int .u32)] T_cmp_Compare_uint32_ := ⟨Tryd.f70, [], 4000, Tryd.func70, by kernel_rfl⟩
abbrev n_feats_features_1 : FuncId := 75
def T_feats_features_1 : Tree :=
 (.loop 0 [] [] [] []
 (.load 1 (.lit 0) [(.int .u32)] []
 (.ite (.cmp .neq (.var 2) (.lit 0))
 (.load 1 (.lit 0) [(.int .u32)] []
 (.call false 76 [(.int .u32 (.var 3))] (.int .i64) []
 (.callv false (.val 0) [(.int .i64 (.var 4))] .bool []
 (.ite (.var 5)
 (.load 1 (.lit 0) [(.int .u32)] []
 (.load 1 (.lit 0) [(.int .u32)] []
 (.store false 1 (.lit 0) [(.int .u32 (.bin .and .u32 (.var 6) (.bin .sub .u32 (.var 7) (.lit 1))))] []
 (.again 0 0 [] [] []))))
 (.ret (.tup []) [])))))
 (.ret (.tup []) []))))
theorem S_feats_features_1 : FnIs Tryd.prog n_feats_features_1 [.val, .ptr] T_feats_features_1 := ⟨Tryd.f75, [], 4000, Tryd.func75, by kernel_rfl⟩
abbrev n_math_bits_TrailingZeros32 : FuncId := 76
def T_math_bits_TrailingZeros32 : Tree :=
 (.ite (.cmp .eql (.var 0) (.lit 0))
 (.ret (.int .i64 (.lit 32)) [])
 (.extp ⟨(.indexAddr 138 (.tmp 0) (.tmp 0)), 0, [(.cst (.pointer (some ⟨3, 0, none⟩))), (.int .u32 (.bin .shr .u32 (.bin .mul .u32 (.bin .and .u32 (.var 0) (.bin .sub .u32 (.lit 0) (.var 0))) (.lit 125613361)) (.lit 27)))]⟩ .ptr []
 (.load 1 (.lit 0) [(.int .u8)] []
 (.ret (.int .i64 (.conv .i64 (.var 2))) []))))
theorem S_math_bits_TrailingZeros32 : FnIs Tryd.prog n_math_bits_TrailingZeros32 [(.int .u32)] T_math_bits_TrailingZeros32 := ⟨Tryd.f76, [], 4000, Tryd.func76, by kernel_rfl⟩
abbrev n_cmp_isNaN_uint32_ : FuncId := 77
def T_cmp_isNaN_uint32_ : Tree :=
 (.ret (.bool (.cmp .neq (.var 0) (.var 0))) [])
theorem S_cmp_isNaN_uint32_ : FnIs Tryd.prog n_cmp_isNaN_uint32_ [(.int .u32)] T_cmp_isNaN_uint32_ := ⟨Tryd.f77, [], 4000, Tryd.func77, by kernel_rfl⟩
abbrev n_word_Common : FuncId := 97
def T_word_Common : Tree :=
 (.chk (.cmp .geq (.var 1) (.lit 0))
 (.chk (.cmp .geq (.var 4) (.lit 0))
 (.loop 0 [(.int .i64)] [(.int .i64 (.lit 0))] [] []
 (.join 1 [.bool] []
 (.ite (.cmp .lss (.var 6) (.mn (.var 1) (.var 4)))
 (.chk (.pick (.cmp .geq (.var 6) (.lit 0)) (.pick (.cmp .lss (.var 6) (.var 1)) (.some 0) (.lit false)) (.lit false))
 (.load 0 (.off (.var 6) 2 (.lit 0)) [(.int .u32), (.int .u32)] []
 (.chk (.pick (.cmp .geq (.var 6) (.lit 0)) (.pick (.cmp .lss (.var 6) (.var 4)) (.some 3) (.lit false)) (.lit false))
 (.load 3 (.off (.var 6) 2 (.lit 0)) [(.int .u32), (.int .u32)] []
 (.again 1 0 [.bool] [(.bool (.pick (.cmp .eql (.var 7) (.var 9)) (.cmp .eql (.var 8) (.var 10)) (.lit false)))] [])))))
 (.again 1 0 [.bool] [(.bool (.lit false))] []))
 (.ite (.var 7)
 (.again 0 0 [(.int .i64)] [(.int .i64 (.bin .add .i64 (.var 6) (.lit 1)))] [])
 (.loop 0 [(.int .i64)] [(.int .i64 (.lit 0))] [] []
 (.join 1 [.bool] []
 (.ite (.cmp .lss (.bin .add .i64 (.var 6) (.var 8)) (.mn (.var 1) (.var 4)))
 (.chk (.cmp .geq (.var 1) (.lit 0))
 (.chk (.pick (.cmp .geq (.bin .sub .i64 (.bin .sub .i64 (.var 1) (.lit 1)) (.var 8)) (.lit 0)) (.pick (.cmp .lss (.bin .sub .i64 (.bin .sub .i64 (.var 1) (.lit 1)) (.var 8)) (.var 1)) (.some 0) (.lit false)) (.lit false))
 (.load 0 (.off (.bin .sub .i64 (.bin .sub .i64 (.var 1) (.lit 1)) (.var 8)) 2 (.lit 0)) [(.int .u32), (.int .u32)] []
 (.chk (.cmp .geq (.var 4) (.lit 0))
 (.chk (.pick (.cmp .geq (.bin .sub .i64 (.bin .sub .i64 (.var 4) (.lit 1)) (.var 8)) (.lit 0)) (.pick (.cmp .lss (.bin .sub .i64 (.bin .sub .i64 (.var 4) (.lit 1)) (.var 8)) (.var 4)) (.some 3) (.lit false)) (.lit false))
 (.load 3 (.off (.bin .sub .i64 (.bin .sub .i64 (.var 4) (.lit 1)) (.var 8)) 2 (.lit 0)) [(.int .u32), (.int .u32)] []
 (.again 1 0 [.bool] [(.bool (.pick (.cmp .eql (.var 9) (.var 11)) (.cmp .eql (.var 10) (.var 12)) (.lit false)))] [])))))))
 (.again 1 0 [.bool] [(.bool (.lit false))] []))
 (.ite (.var 9)
 (.again 0 0 [(.int .i64)] [(.int .i64 (.bin .add .i64 (.var 8) (.lit 1)))] [])
 (.ret (.tup [(.int .i64 (.var 6)), (.int .i64 (.var 8))]) [])))))))))
theorem S_word_Common : FnIs Tryd.prog n_word_Common [.sl, .sl] T_word_Common := ⟨Tryd.f97, [{ key := 200002, tmps := [(27, .bool)], join := true, dead := 279223176762752524 }, { key := 200005, tmps := [(53, .bool)], join := true }], 4000, Tryd.func97, by kernel_rfl⟩
end Go.Proofs.YtpbbnmjkbfbelabDoor
