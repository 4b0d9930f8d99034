/- The trees of this seat's functions, printed by a program of mine (SyGen), checked here by the kernel. -/
import Derived.Test.YtkhcfbdjmpodbaaDoorSyDef
import Derived.Test.YtkhcfbdjmpodbaaDoorProg
import Derived.KernelRfl
set_option maxRecDepth 100000
namespace Go.Proofs.YtkhcfbdjmpodbaaDoor
open Go Go.Sy
abbrev n_word_Equal : FuncId := 9
def T_word_Equal : Tree :=
 (.call false 22 [(.sl 0 (.lit 0) (.var 1) (.var 2)), (.sl 3 (.lit 0) (.var 4) (.var 5))] .bool []
 (.ret (.bool (.var 6)) []))
theorem S_word_Equal : FnIs Tryd.prog n_word_Equal [.sl, .sl] T_word_Equal := ⟨Tryd.f9, [], 4000, Tryd.func9, by kernel_rfl⟩
abbrev n_feats_CheckCosts : FuncId := 12
def T_feats_CheckCosts : Tree :=
 (.alloc
 (.chk (.cmp .geq (.var 1) (.lit 0))
 (.ite (.pick (.pick (.cmp .gtr (.var 1) (.lit 24)) (.lit true) (.cmp .lss (.var 3) (.lit 0))) (.lit true) (.cmp .gtr (.var 3) (.lit 1073741824)))
 (.ret (.int .i64 (.lit 2)) [⟨[(.sl 0 (.lit 0) (.var 1) (.var 2)), (.int .i64 (.var 3))], 28⟩])
 (.chk (.cmp .geq (.var 1) (.lit 0))
 (.loop 0 [(.int .i64), (.int .i64)] [(.int .i64 (.lit 0)), (.int .i64 (.lit 0))] [⟨[(.sl 0 (.lit 0) (.var 1) (.var 2)), (.int .i64 (.var 3))], 28⟩] [⟨[(.sl 0 (.lit 0) (.var 1) (.var 2)), (.int .i64 (.var 3))], 28⟩]
 (.ite (.cmp .lss (.var 5) (.var 1))
 (.chk (.pick (.cmp .geq (.var 5) (.lit 0)) (.pick (.cmp .lss (.var 5) (.var 1)) (.some 0) (.lit false)) (.lit false))
 (.load 0 (.off (.var 5) 1 (.lit 0)) [(.int .i64)] [⟨[(.sl 0 (.lit 0) (.var 1) (.var 2)), (.int .i64 (.var 3))], 28⟩]
 (.ite (.pick (.cmp .lss (.var 6) (.lit 0)) (.lit true) (.cmp .gtr (.var 6) (.lit 1073741824)))
 (.ret (.int .i64 (.lit 2)) [⟨[(.sl 0 (.lit 0) (.var 1) (.var 2)), (.int .i64 (.var 3))], 28⟩])
 (.again 0 1 [(.int .i64), (.int .i64)] [(.int .i64 (.var 4)), (.int .i64 (.bin .add .i64 (.var 5) (.lit 1)))] [⟨[(.sl 0 (.lit 0) (.var 1) (.var 2)), (.int .i64 (.var 3))], 28⟩]))))
 (.ret (.int .i64 (.lit 0)) [⟨[(.sl 0 (.lit 0) (.var 1) (.var 2)), (.int .i64 (.var 3))], 28⟩])))))))
theorem S_feats_CheckCosts : FnIs Tryd.prog n_feats_CheckCosts [(.agg [.sl, (.int .i64)])] T_feats_CheckCosts := ⟨Tryd.f12, [], 4000, Tryd.func12, by kernel_rfl⟩
abbrev n_word_Check : FuncId := 13
def T_word_Check : Tree :=
 (.chk (.cmp .geq (.var 1) (.lit 0))
 (.ite (.cmp .gtr (.var 1) (.lit 32))
 (.ret (.int .i64 (.lit 11)) [])
 (.chk (.cmp .geq (.var 1) (.lit 0))
 (.loop 0 [(.int .i64), (.int .i64)] [(.int .i64 (.lit 0)), (.int .i64 (.lit 0))] [] []
 (.ite (.cmp .lss (.var 4) (.var 1))
 (.chk (.pick (.cmp .geq (.var 4) (.lit 0)) (.pick (.cmp .lss (.var 4) (.var 1)) (.some 0) (.lit false)) (.lit false))
 (.load 0 (.off (.var 4) 2 (.lit 0)) [(.int .u32), (.int .u32)] []
 (.alloc
 (.call false 25 [(.agg [(.int .u32 (.var 5)), (.int .u32 (.var 6))])] .bool [⟨[(.int .u32 (.var 5)), (.int .u32 (.var 6))], 41⟩]
 (.ite (.not (.var 7))
 (.ret (.int .i64 (.lit 14)) [⟨[(.int .u32 (.var 5)), (.int .u32 (.var 6))], 41⟩])
 (.again 0 0 [(.int .i64), (.int .i64)] [(.int .i64 (.var 3)), (.int .i64 (.bin .add .i64 (.var 4) (.lit 1)))] [⟨[(.int .u32 (.var 5)), (.int .u32 (.var 6))], 41⟩]))))))
 (.ret (.int .i64 (.lit 0)) []))))))
theorem S_word_Check : FnIs Tryd.prog n_word_Check [.sl] T_word_Check := ⟨Tryd.f13, [], 4000, Tryd.func13, by kernel_rfl⟩
abbrev n_slices_Equal___api_Sound_api_Sound_ : FuncId := 22
def T_slices_Equal___api_Sound_api_Sound_ : Tree :=
 (.chk (.cmp .geq (.var 1) (.lit 0))
 (.chk (.cmp .geq (.var 4) (.lit 0))
 (.ite (.cmp .neq (.var 1) (.var 4))
 (.ret (.bool (.lit false)) [])
 (.chk (.cmp .geq (.var 1) (.lit 0))
 (.loop 0 [.bool, (.int .i64)] [(.bool (.lit false)), (.int .i64 (.lit 0))] [] []
 (.ite (.cmp .lss (.var 7) (.var 1))
 (.chk (.pick (.cmp .geq (.var 7) (.lit 0)) (.pick (.cmp .lss (.var 7) (.var 1)) (.some 0) (.lit false)) (.lit false))
 (.load 0 (.off (.var 7) 2 (.lit 0)) [(.int .u32), (.int .u32)] []
 (.chk (.pick (.cmp .geq (.var 7) (.lit 0)) (.pick (.cmp .lss (.var 7) (.var 4)) (.some 3) (.lit false)) (.lit false))
 (.load 3 (.off (.var 7) 2 (.lit 0)) [(.int .u32), (.int .u32)] []
 (.ite (.not (.pick (.cmp .eql (.var 8) (.var 10)) (.cmp .eql (.var 9) (.var 11)) (.lit false)))
 (.ret (.bool (.lit false)) [])
 (.again 0 0 [.bool, (.int .i64)] [(.bool (.var 6)), (.int .i64 (.bin .add .i64 (.var 7) (.lit 1)))] []))))))
 (.ret (.bool (.lit true)) [])))))))
theorem S_slices_Equal___api_Sound_api_Sound_ : FnIs Tryd.prog n_slices_Equal___api_Sound_api_Sound_ [.sl, .sl] T_slices_Equal___api_Sound_api_Sound_ := ⟨Tryd.f22, [], 4000, Tryd.func22, by kernel_rfl⟩
abbrev n_word_valid : FuncId := 25
def T_word_valid : Tree :=
 (.alloc
 (.ite (.cmp .eql (.bin .and .u32 (.var 0) (.var 1)) (.lit 0))
 (.ret (.bool (.cmp .eql (.bin .shr .u32 (.bin .or .u32 (.var 0) (.var 1)) (.lit 24)) (.lit 0))) [⟨[(.int .u32 (.var 0)), (.int .u32 (.var 1))], 41⟩])
 (.ret (.bool (.lit false)) [⟨[(.int .u32 (.var 0)), (.int .u32 (.var 1))], 41⟩])))
theorem S_word_valid : FnIs Tryd.prog n_word_valid [(.agg [(.int .u32), (.int .u32)])] T_word_valid := ⟨Tryd.f25, [], 4000, Tryd.func25, by kernel_rfl⟩
abbrev n_feats_Dist : FuncId := 45
def T_feats_Dist : Tree :=
 (.alloc
 (.alloc
 (.alloc
 (.call false 49 [(.agg [(.int .u32 (.var 0)), (.int .u32 (.var 1))])] .bool [⟨[(.int .u32 (.var 0)), (.int .u32 (.var 1))], 41⟩, ⟨[(.int .u32 (.var 2)), (.int .u32 (.var 3))], 41⟩, ⟨[(.sl 4 (.lit 0) (.var 5) (.var 6)), (.int .i64 (.var 7))], 28⟩]
 (.ite (.not (.var 8))
 (.ret (.tup [(.int .i64 (.lit 0)), (.int .i64 (.lit 14))]) [⟨[(.int .u32 (.var 0)), (.int .u32 (.var 1))], 41⟩, ⟨[(.int .u32 (.var 2)), (.int .u32 (.var 3))], 41⟩, ⟨[(.sl 4 (.lit 0) (.var 5) (.var 6)), (.int .i64 (.var 7))], 28⟩])
 (.call false 49 [(.agg [(.int .u32 (.var 2)), (.int .u32 (.var 3))])] .bool [⟨[(.int .u32 (.var 0)), (.int .u32 (.var 1))], 41⟩, ⟨[(.int .u32 (.var 2)), (.int .u32 (.var 3))], 41⟩, ⟨[(.sl 4 (.lit 0) (.var 5) (.var 6)), (.int .i64 (.var 7))], 28⟩]
 (.ite (.not (.var 9))
 (.ret (.tup [(.int .i64 (.lit 0)), (.int .i64 (.lit 14))]) [⟨[(.int .u32 (.var 0)), (.int .u32 (.var 1))], 41⟩, ⟨[(.int .u32 (.var 2)), (.int .u32 (.var 3))], 41⟩, ⟨[(.sl 4 (.lit 0) (.var 5) (.var 6)), (.int .i64 (.var 7))], 28⟩])
 (.call false 12 [(.agg [(.sl 4 (.lit 0) (.var 5) (.var 6)), (.int .i64 (.var 7))])] (.int .i64) [⟨[(.int .u32 (.var 0)), (.int .u32 (.var 1))], 41⟩, ⟨[(.int .u32 (.var 2)), (.int .u32 (.var 3))], 41⟩, ⟨[(.sl 4 (.lit 0) (.var 5) (.var 6)), (.int .i64 (.var 7))], 28⟩]
 (.ite (.cmp .neq (.var 10) (.lit 0))
 (.ret (.tup [(.int .i64 (.lit 0)), (.int .i64 (.var 10))]) [⟨[(.int .u32 (.var 0)), (.int .u32 (.var 1))], 41⟩, ⟨[(.int .u32 (.var 2)), (.int .u32 (.var 3))], 41⟩, ⟨[(.sl 4 (.lit 0) (.var 5) (.var 6)), (.int .i64 (.var 7))], 28⟩])
 (.alloc
 (.call false 56 [(.agg [(.int .u32 (.var 0)), (.int .u32 (.var 1))]), (.agg [(.int .u32 (.var 2)), (.int .u32 (.var 3))])] (.int .u32) [⟨[(.int .u32 (.var 0)), (.int .u32 (.var 1))], 41⟩, ⟨[(.int .u32 (.var 2)), (.int .u32 (.var 3))], 41⟩, ⟨[(.sl 4 (.lit 0) (.var 5) (.var 6)), (.int .i64 (.var 7))], 28⟩, ⟨[(.int .i64 (.lit 0))], 2⟩]
 (.call false 55 [(.int .u32 (.var 11))] .val [⟨[(.int .u32 (.var 0)), (.int .u32 (.var 1))], 41⟩, ⟨[(.int .u32 (.var 2)), (.int .u32 (.var 3))], 41⟩, ⟨[(.sl 4 (.lit 0) (.var 5) (.var 6)), (.int .i64 (.var 7))], 28⟩, ⟨[(.int .i64 (.lit 0))], 2⟩]
 (.range (.val 12) [(.int .i64)] [(.int .i64)] [(.int .i64 (.lit 0))] [⟨[(.int .u32 (.var 0)), (.int .u32 (.var 1))], 41⟩, ⟨[(.int .u32 (.var 2)), (.int .u32 (.var 3))], 41⟩, ⟨[(.sl 4 (.lit 0) (.var 5) (.var 6)), (.int .i64 (.var 7))], 28⟩, ⟨[(.int .i64 (.lit 0))], 2⟩] [⟨[(.int .u32 (.var 0)), (.int .u32 (.var 1))], 41⟩, ⟨[(.int .u32 (.var 2)), (.int .u32 (.var 3))], 41⟩, ⟨[(.sl 4 (.lit 0) (.var 5) (.var 6)), (.int .i64 (.var 7))], 28⟩, ⟨[(.int .i64 (.var 13))], 2⟩]
 (.chk (.cmp .geq (.var 5) (.lit 0))
 (.ite (.cmp .lss (.var 14) (.var 5))
 (.chk (.pick (.cmp .geq (.var 14) (.lit 0)) (.pick (.cmp .lss (.var 14) (.var 5)) (.some 4) (.lit false)) (.lit false))
 (.load 4 (.off (.var 14) 1 (.lit 0)) [(.int .i64)] [⟨[(.int .u32 (.var 0)), (.int .u32 (.var 1))], 41⟩, ⟨[(.int .u32 (.var 2)), (.int .u32 (.var 3))], 41⟩, ⟨[(.sl 4 (.lit 0) (.var 5) (.var 6)), (.int .i64 (.var 7))], 28⟩, ⟨[(.int .i64 (.var 13))], 2⟩]
 (.leave 0 4 [(.int .i64)] [(.int .i64 (.bin .add .i64 (.var 13) (.var 15)))] [⟨[(.int .u32 (.var 0)), (.int .u32 (.var 1))], 41⟩, ⟨[(.int .u32 (.var 2)), (.int .u32 (.var 3))], 41⟩, ⟨[(.sl 4 (.lit 0) (.var 5) (.var 6)), (.int .i64 (.var 7))], 28⟩, ⟨[(.int .i64 (.bin .add .i64 (.var 13) (.var 15)))], 2⟩])))
 (.leave 0 4 [(.int .i64)] [(.int .i64 (.var 13))] [⟨[(.int .u32 (.var 0)), (.int .u32 (.var 1))], 41⟩, ⟨[(.int .u32 (.var 2)), (.int .u32 (.var 3))], 41⟩, ⟨[(.sl 4 (.lit 0) (.var 5) (.var 6)), (.int .i64 (.var 7))], 28⟩, ⟨[(.int .i64 (.var 13))], 2⟩])))
 (.ret (.tup [(.int .i64 (.var 13)), (.int .i64 (.lit 0))]) [⟨[(.int .u32 (.var 0)), (.int .u32 (.var 1))], 41⟩, ⟨[(.int .u32 (.var 2)), (.int .u32 (.var 3))], 41⟩, ⟨[(.sl 4 (.lit 0) (.var 5) (.var 6)), (.int .i64 (.var 7))], 28⟩, ⟨[(.int .i64 (.var 13))], 2⟩]))))))))))))))
theorem S_feats_Dist : FnIs Tryd.prog n_feats_Dist [(.agg [(.int .u32), (.int .u32)]), (.agg [(.int .u32), (.int .u32)]), (.agg [.sl, (.int .i64)])] T_feats_Dist := ⟨Tryd.f45, [], 4000, Tryd.func45, by kernel_rfl⟩
abbrev n_feats_Valid : FuncId := 49
def T_feats_Valid : Tree :=
 (.alloc
 (.ret (.bool (.pick (.cmp .eql (.bin .and .u32 (.var 0) (.var 1)) (.lit 0)) (.cmp .leq (.bin .or .u32 (.var 0) (.var 1)) (.lit 16777215)) (.lit false))) [⟨[(.int .u32 (.var 0)), (.int .u32 (.var 1))], 41⟩]))
theorem S_feats_Valid : FnIs Tryd.prog n_feats_Valid [(.agg [(.int .u32), (.int .u32)])] T_feats_Valid := ⟨Tryd.f49, [], 4000, Tryd.func49, by kernel_rfl⟩
abbrev n_feats_features : FuncId := 55
def T_feats_features : Tree :=
 (.alloc
 (.ret (.fn (.func 68) [] [(.loc 0 0)]) [⟨[(.int .u32 (.var 0))], 39⟩]))
theorem S_feats_features : FnIs Tryd.prog n_feats_features [(.int .u32)] T_feats_features := ⟨Tryd.f55, [], 4000, Tryd.func55, by kernel_rfl⟩
abbrev n_feats_Diff : FuncId := 56
def T_feats_Diff : Tree :=
 (.alloc
 (.alloc
 (.call false 49 [(.agg [(.int .u32 (.var 0)), (.int .u32 (.var 1))])] .bool [⟨[(.int .u32 (.var 0)), (.int .u32 (.var 1))], 41⟩, ⟨[(.int .u32 (.var 2)), (.int .u32 (.var 3))], 41⟩]
 (.ite (.not (.var 4))
 (.ret (.int .u32 (.lit 0)) [⟨[(.int .u32 (.var 0)), (.int .u32 (.var 1))], 41⟩, ⟨[(.int .u32 (.var 2)), (.int .u32 (.var 3))], 41⟩])
 (.call false 49 [(.agg [(.int .u32 (.var 2)), (.int .u32 (.var 3))])] .bool [⟨[(.int .u32 (.var 0)), (.int .u32 (.var 1))], 41⟩, ⟨[(.int .u32 (.var 2)), (.int .u32 (.var 3))], 41⟩]
 (.ite (.not (.var 5))
 (.ret (.int .u32 (.lit 0)) [⟨[(.int .u32 (.var 0)), (.int .u32 (.var 1))], 41⟩, ⟨[(.int .u32 (.var 2)), (.int .u32 (.var 3))], 41⟩])
 (.ret (.int .u32 (.bin .or .u32 (.bin .xor .u32 (.var 0) (.var 2)) (.bin .xor .u32 (.var 1) (.var 3)))) [⟨[(.int .u32 (.var 0)), (.int .u32 (.var 1))], 41⟩, ⟨[(.int .u32 (.var 2)), (.int .u32 (.var 3))], 41⟩])))))))
theorem S_feats_Diff : FnIs Tryd.prog n_feats_Diff [(.agg [(.int .u32), (.int .u32)]), (.agg [(.int .u32), (.int .u32)])] T_feats_Diff := ⟨Tryd.f56, [], 4000, Tryd.func56, by kernel_rfl⟩
abbrev n_feats_features_1 : FuncId := 68
def T_feats_features_1 : Tree :=
 (.loop 0 [] [] [] []
 (.load 1 (.lit 0) [(.int .u32)] []
 (.ite (.cmp .neq (.var 2) (.lit 0))
 (.load 1 (.lit 0) [(.int .u32)] []
 (.call false 69 [(.int .u32 (.var 3))] (.int .i64) []
 (.callv false (.val 0) [(.int .i64 (.var 4))] .bool []
 (.ite (.var 5)
 (.load 1 (.lit 0) [(.int .u32)] []
 (.load 1 (.lit 0) [(.int .u32)] []
 (.store false 1 (.lit 0) [(.int .u32 (.bin .and .u32 (.var 6) (.bin .sub .u32 (.var 7) (.lit 1))))] []
 (.again 0 0 [] [] []))))
 (.ret (.tup []) [])))))
 (.ret (.tup []) []))))
theorem S_feats_features_1 : FnIs Tryd.prog n_feats_features_1 [.val, .ptr] T_feats_features_1 := ⟨Tryd.f68, [], 4000, Tryd.func68, by kernel_rfl⟩
abbrev n_math_bits_TrailingZeros32 : FuncId := 69
def T_math_bits_TrailingZeros32 : Tree :=
 (.ite (.cmp .eql (.var 0) (.lit 0))
 (.ret (.int .i64 (.lit 32)) [])
 (.extp ⟨(.indexAddr 154 (.tmp 0) (.tmp 0)), 0, [(.cst (.pointer (some ⟨1, 0, none⟩))), (.int .u32 (.bin .shr .u32 (.bin .mul .u32 (.bin .and .u32 (.var 0) (.bin .sub .u32 (.lit 0) (.var 0))) (.lit 125613361)) (.lit 27)))]⟩ .ptr []
 (.load 1 (.lit 0) [(.int .u8)] []
 (.ret (.int .i64 (.conv .i64 (.var 2))) []))))
theorem S_math_bits_TrailingZeros32 : FnIs Tryd.prog n_math_bits_TrailingZeros32 [(.int .u32)] T_math_bits_TrailingZeros32 := ⟨Tryd.f69, [], 4000, Tryd.func69, by kernel_rfl⟩
end Go.Proofs.YtkhcfbdjmpodbaaDoor
