/- The trees of this seat's functions, printed by a program of mine (SyGen), checked here by the kernel. -/
import Derived.Test.YthabfpagilbplaaDoorSyDef
import Derived.Test.YthabfpagilbplaaDoorProg
import Derived.KernelRfl
set_option maxRecDepth 100000
namespace Go.Proofs.YthabfpagilbplaaDoor
open Go Go.Sy
abbrev n_feats_CheckCosts : FuncId := 80
def T_feats_CheckCosts : Tree :=
 (.alloc
 (.chk (.cmp .geq (.var 1) (.lit 0))
 (.ite (.pick (.pick (.cmp .gtr (.var 1) (.lit 24)) (.lit true) (.cmp .lss (.var 3) (.lit 0))) (.lit true) (.cmp .gtr (.var 3) (.lit 1073741824)))
 (.ret (.int .i64 (.lit 2)) [⟨[(.sl 0 (.lit 0) (.var 1) (.var 2)), (.int .i64 (.var 3))], 25⟩])
 (.chk (.cmp .geq (.var 1) (.lit 0))
 (.loop 0 [(.int .i64), (.int .i64)] [(.int .i64 (.lit 0)), (.int .i64 (.lit 0))] [⟨[(.sl 0 (.lit 0) (.var 1) (.var 2)), (.int .i64 (.var 3))], 25⟩] [⟨[(.sl 0 (.lit 0) (.var 1) (.var 2)), (.int .i64 (.var 3))], 25⟩]
 (.ite (.cmp .lss (.var 5) (.var 1))
 (.chk (.pick (.cmp .geq (.var 5) (.lit 0)) (.pick (.cmp .lss (.var 5) (.var 1)) (.some 0) (.lit false)) (.lit false))
 (.load 0 (.off (.var 5) 1 (.lit 0)) [(.int .i64)] [⟨[(.sl 0 (.lit 0) (.var 1) (.var 2)), (.int .i64 (.var 3))], 25⟩]
 (.ite (.pick (.cmp .lss (.var 6) (.lit 0)) (.lit true) (.cmp .gtr (.var 6) (.lit 1073741824)))
 (.ret (.int .i64 (.lit 2)) [⟨[(.sl 0 (.lit 0) (.var 1) (.var 2)), (.int .i64 (.var 3))], 25⟩])
 (.again 0 1 [(.int .i64), (.int .i64)] [(.int .i64 (.var 4)), (.int .i64 (.bin .add .i64 (.var 5) (.lit 1)))] [⟨[(.sl 0 (.lit 0) (.var 1) (.var 2)), (.int .i64 (.var 3))], 25⟩]))))
 (.ret (.int .i64 (.lit 0)) [⟨[(.sl 0 (.lit 0) (.var 1) (.var 2)), (.int .i64 (.var 3))], 25⟩])))))))
theorem S_feats_CheckCosts : FnIs Tryd.prog n_feats_CheckCosts [(.agg [.sl, (.int .i64)])] T_feats_CheckCosts := ⟨Tryd.f80, [], 4000, Tryd.func80, by kernel_rfl⟩
abbrev n_word_Check : FuncId := 103
def T_word_Check : Tree :=
 (.chk (.cmp .geq (.var 1) (.lit 0))
 (.ite (.cmp .gtr (.var 1) (.lit 32))
 (.ret (.int .i64 (.lit 11)) [])
 (.chk (.cmp .geq (.var 1) (.lit 0))
 (.loop 0 [(.int .i64), (.int .i64)] [(.int .i64 (.lit 0)), (.int .i64 (.lit 0))] [] []
 (.ite (.cmp .lss (.var 4) (.var 1))
 (.chk (.pick (.cmp .geq (.var 4) (.lit 0)) (.pick (.cmp .lss (.var 4) (.var 1)) (.some 0) (.lit false)) (.lit false))
 (.load 0 (.off (.var 4) 2 (.lit 0)) [(.int .u32), (.int .u32)] []
 (.alloc
 (.call false 109 [(.agg [(.int .u32 (.var 5)), (.int .u32 (.var 6))])] .bool [⟨[(.int .u32 (.var 5)), (.int .u32 (.var 6))], 56⟩]
 (.ite (.not (.var 7))
 (.ret (.int .i64 (.lit 14)) [⟨[(.int .u32 (.var 5)), (.int .u32 (.var 6))], 56⟩])
 (.again 0 0 [(.int .i64), (.int .i64)] [(.int .i64 (.var 3)), (.int .i64 (.bin .add .i64 (.var 4) (.lit 1)))] [⟨[(.int .u32 (.var 5)), (.int .u32 (.var 6))], 56⟩]))))))
 (.ret (.int .i64 (.lit 0)) []))))))
theorem S_word_Check : FnIs Tryd.prog n_word_Check [.sl] T_word_Check := ⟨Tryd.f103, [], 4000, Tryd.func103, by kernel_rfl⟩
abbrev n_word_valid : FuncId := 109
def T_word_valid : Tree :=
 (.alloc
 (.ite (.cmp .eql (.bin .and .u32 (.var 0) (.var 1)) (.lit 0))
 (.ret (.bool (.cmp .eql (.bin .shr .u32 (.bin .or .u32 (.var 0) (.var 1)) (.lit 24)) (.lit 0))) [⟨[(.int .u32 (.var 0)), (.int .u32 (.var 1))], 56⟩])
 (.ret (.bool (.lit false)) [⟨[(.int .u32 (.var 0)), (.int .u32 (.var 1))], 56⟩])))
theorem S_word_valid : FnIs Tryd.prog n_word_valid [(.agg [(.int .u32), (.int .u32)])] T_word_valid := ⟨Tryd.f109, [], 4000, Tryd.func109, by kernel_rfl⟩
abbrev n_feats_Dist : FuncId := 113
def T_feats_Dist : Tree :=
 (.alloc
 (.alloc
 (.alloc
 (.call false 116 [(.agg [(.int .u32 (.var 0)), (.int .u32 (.var 1))])] .bool [⟨[(.int .u32 (.var 0)), (.int .u32 (.var 1))], 56⟩, ⟨[(.int .u32 (.var 2)), (.int .u32 (.var 3))], 56⟩, ⟨[(.sl 4 (.lit 0) (.var 5) (.var 6)), (.int .i64 (.var 7))], 25⟩]
 (.ite (.not (.var 8))
 (.ret (.tup [(.int .i64 (.lit 0)), (.int .i64 (.lit 14))]) [⟨[(.int .u32 (.var 0)), (.int .u32 (.var 1))], 56⟩, ⟨[(.int .u32 (.var 2)), (.int .u32 (.var 3))], 56⟩, ⟨[(.sl 4 (.lit 0) (.var 5) (.var 6)), (.int .i64 (.var 7))], 25⟩])
 (.call false 116 [(.agg [(.int .u32 (.var 2)), (.int .u32 (.var 3))])] .bool [⟨[(.int .u32 (.var 0)), (.int .u32 (.var 1))], 56⟩, ⟨[(.int .u32 (.var 2)), (.int .u32 (.var 3))], 56⟩, ⟨[(.sl 4 (.lit 0) (.var 5) (.var 6)), (.int .i64 (.var 7))], 25⟩]
 (.ite (.not (.var 9))
 (.ret (.tup [(.int .i64 (.lit 0)), (.int .i64 (.lit 14))]) [⟨[(.int .u32 (.var 0)), (.int .u32 (.var 1))], 56⟩, ⟨[(.int .u32 (.var 2)), (.int .u32 (.var 3))], 56⟩, ⟨[(.sl 4 (.lit 0) (.var 5) (.var 6)), (.int .i64 (.var 7))], 25⟩])
 (.call false 80 [(.agg [(.sl 4 (.lit 0) (.var 5) (.var 6)), (.int .i64 (.var 7))])] (.int .i64) [⟨[(.int .u32 (.var 0)), (.int .u32 (.var 1))], 56⟩, ⟨[(.int .u32 (.var 2)), (.int .u32 (.var 3))], 56⟩, ⟨[(.sl 4 (.lit 0) (.var 5) (.var 6)), (.int .i64 (.var 7))], 25⟩]
 (.ite (.cmp .neq (.var 10) (.lit 0))
 (.ret (.tup [(.int .i64 (.lit 0)), (.int .i64 (.var 10))]) [⟨[(.int .u32 (.var 0)), (.int .u32 (.var 1))], 56⟩, ⟨[(.int .u32 (.var 2)), (.int .u32 (.var 3))], 56⟩, ⟨[(.sl 4 (.lit 0) (.var 5) (.var 6)), (.int .i64 (.var 7))], 25⟩])
 (.alloc
 (.call false 118 [(.agg [(.int .u32 (.var 0)), (.int .u32 (.var 1))]), (.agg [(.int .u32 (.var 2)), (.int .u32 (.var 3))])] (.int .u32) [⟨[(.int .u32 (.var 0)), (.int .u32 (.var 1))], 56⟩, ⟨[(.int .u32 (.var 2)), (.int .u32 (.var 3))], 56⟩, ⟨[(.sl 4 (.lit 0) (.var 5) (.var 6)), (.int .i64 (.var 7))], 25⟩, ⟨[(.int .i64 (.lit 0))], 2⟩]
 (.call false 117 [(.int .u32 (.var 11))] .val [⟨[(.int .u32 (.var 0)), (.int .u32 (.var 1))], 56⟩, ⟨[(.int .u32 (.var 2)), (.int .u32 (.var 3))], 56⟩, ⟨[(.sl 4 (.lit 0) (.var 5) (.var 6)), (.int .i64 (.var 7))], 25⟩, ⟨[(.int .i64 (.lit 0))], 2⟩]
 (.range (.val 12) [(.int .i64)] [(.int .i64)] [(.int .i64 (.lit 0))] [⟨[(.int .u32 (.var 0)), (.int .u32 (.var 1))], 56⟩, ⟨[(.int .u32 (.var 2)), (.int .u32 (.var 3))], 56⟩, ⟨[(.sl 4 (.lit 0) (.var 5) (.var 6)), (.int .i64 (.var 7))], 25⟩, ⟨[(.int .i64 (.lit 0))], 2⟩] [⟨[(.int .u32 (.var 0)), (.int .u32 (.var 1))], 56⟩, ⟨[(.int .u32 (.var 2)), (.int .u32 (.var 3))], 56⟩, ⟨[(.sl 4 (.lit 0) (.var 5) (.var 6)), (.int .i64 (.var 7))], 25⟩, ⟨[(.int .i64 (.var 13))], 2⟩]
 (.chk (.cmp .geq (.var 5) (.lit 0))
 (.ite (.cmp .lss (.var 14) (.var 5))
 (.chk (.pick (.cmp .geq (.var 14) (.lit 0)) (.pick (.cmp .lss (.var 14) (.var 5)) (.some 4) (.lit false)) (.lit false))
 (.load 4 (.off (.var 14) 1 (.lit 0)) [(.int .i64)] [⟨[(.int .u32 (.var 0)), (.int .u32 (.var 1))], 56⟩, ⟨[(.int .u32 (.var 2)), (.int .u32 (.var 3))], 56⟩, ⟨[(.sl 4 (.lit 0) (.var 5) (.var 6)), (.int .i64 (.var 7))], 25⟩, ⟨[(.int .i64 (.var 13))], 2⟩]
 (.leave 0 4 [(.int .i64)] [(.int .i64 (.bin .add .i64 (.var 13) (.var 15)))] [⟨[(.int .u32 (.var 0)), (.int .u32 (.var 1))], 56⟩, ⟨[(.int .u32 (.var 2)), (.int .u32 (.var 3))], 56⟩, ⟨[(.sl 4 (.lit 0) (.var 5) (.var 6)), (.int .i64 (.var 7))], 25⟩, ⟨[(.int .i64 (.bin .add .i64 (.var 13) (.var 15)))], 2⟩])))
 (.leave 0 4 [(.int .i64)] [(.int .i64 (.var 13))] [⟨[(.int .u32 (.var 0)), (.int .u32 (.var 1))], 56⟩, ⟨[(.int .u32 (.var 2)), (.int .u32 (.var 3))], 56⟩, ⟨[(.sl 4 (.lit 0) (.var 5) (.var 6)), (.int .i64 (.var 7))], 25⟩, ⟨[(.int .i64 (.var 13))], 2⟩])))
 (.ret (.tup [(.int .i64 (.var 13)), (.int .i64 (.lit 0))]) [⟨[(.int .u32 (.var 0)), (.int .u32 (.var 1))], 56⟩, ⟨[(.int .u32 (.var 2)), (.int .u32 (.var 3))], 56⟩, ⟨[(.sl 4 (.lit 0) (.var 5) (.var 6)), (.int .i64 (.var 7))], 25⟩, ⟨[(.int .i64 (.var 13))], 2⟩]))))))))))))))
theorem S_feats_Dist : FnIs Tryd.prog n_feats_Dist [(.agg [(.int .u32), (.int .u32)]), (.agg [(.int .u32), (.int .u32)]), (.agg [.sl, (.int .i64)])] T_feats_Dist := ⟨Tryd.f113, [], 4000, Tryd.func113, by kernel_rfl⟩
abbrev n_feats_Valid : FuncId := 116
def T_feats_Valid : Tree :=
 (.alloc
 (.ret (.bool (.pick (.cmp .eql (.bin .and .u32 (.var 0) (.var 1)) (.lit 0)) (.cmp .leq (.bin .or .u32 (.var 0) (.var 1)) (.lit 16777215)) (.lit false))) [⟨[(.int .u32 (.var 0)), (.int .u32 (.var 1))], 56⟩]))
theorem S_feats_Valid : FnIs Tryd.prog n_feats_Valid [(.agg [(.int .u32), (.int .u32)])] T_feats_Valid := ⟨Tryd.f116, [], 4000, Tryd.func116, by kernel_rfl⟩
abbrev n_feats_features : FuncId := 117
def T_feats_features : Tree :=
 (.alloc
 (.ret (.fn (.func 120) [] [(.loc 0 0)]) [⟨[(.int .u32 (.var 0))], 54⟩]))
theorem S_feats_features : FnIs Tryd.prog n_feats_features [(.int .u32)] T_feats_features := ⟨Tryd.f117, [], 4000, Tryd.func117, by kernel_rfl⟩
abbrev n_feats_Diff : FuncId := 118
def T_feats_Diff : Tree :=
 (.alloc
 (.alloc
 (.call false 116 [(.agg [(.int .u32 (.var 0)), (.int .u32 (.var 1))])] .bool [⟨[(.int .u32 (.var 0)), (.int .u32 (.var 1))], 56⟩, ⟨[(.int .u32 (.var 2)), (.int .u32 (.var 3))], 56⟩]
 (.ite (.not (.var 4))
 (.ret (.int .u32 (.lit 0)) [⟨[(.int .u32 (.var 0)), (.int .u32 (.var 1))], 56⟩, ⟨[(.int .u32 (.var 2)), (.int .u32 (.var 3))], 56⟩])
 (.call false 116 [(.agg [(.int .u32 (.var 2)), (.int .u32 (.var 3))])] .bool [⟨[(.int .u32 (.var 0)), (.int .u32 (.var 1))], 56⟩, ⟨[(.int .u32 (.var 2)), (.int .u32 (.var 3))], 56⟩]
 (.ite (.not (.var 5))
 (.ret (.int .u32 (.lit 0)) [⟨[(.int .u32 (.var 0)), (.int .u32 (.var 1))], 56⟩, ⟨[(.int .u32 (.var 2)), (.int .u32 (.var 3))], 56⟩])
 (.ret (.int .u32 (.bin .or .u32 (.bin .xor .u32 (.var 0) (.var 2)) (.bin .xor .u32 (.var 1) (.var 3)))) [⟨[(.int .u32 (.var 0)), (.int .u32 (.var 1))], 56⟩, ⟨[(.int .u32 (.var 2)), (.int .u32 (.var 3))], 56⟩])))))))
theorem S_feats_Diff : FnIs Tryd.prog n_feats_Diff [(.agg [(.int .u32), (.int .u32)]), (.agg [(.int .u32), (.int .u32)])] T_feats_Diff := ⟨Tryd.f118, [], 4000, Tryd.func118, by kernel_rfl⟩
abbrev n_feats_features_1 : FuncId := 120
def T_feats_features_1 : Tree :=
 (.loop 0 [] [] [] []
 (.load 1 (.lit 0) [(.int .u32)] []
 (.ite (.cmp .neq (.var 2) (.lit 0))
 (.load 1 (.lit 0) [(.int .u32)] []
 (.call false 121 [(.int .u32 (.var 3))] (.int .i64) []
 (.callv false (.val 0) [(.int .i64 (.var 4))] .bool []
 (.ite (.var 5)
 (.load 1 (.lit 0) [(.int .u32)] []
 (.load 1 (.lit 0) [(.int .u32)] []
 (.store false 1 (.lit 0) [(.int .u32 (.bin .and .u32 (.var 6) (.bin .sub .u32 (.var 7) (.lit 1))))] []
 (.again 0 0 [] [] []))))
 (.ret (.tup []) [])))))
 (.ret (.tup []) []))))
theorem S_feats_features_1 : FnIs Tryd.prog n_feats_features_1 [.val, .ptr] T_feats_features_1 := ⟨Tryd.f120, [], 4000, Tryd.func120, by kernel_rfl⟩
abbrev n_math_bits_TrailingZeros32 : FuncId := 121
def T_math_bits_TrailingZeros32 : Tree :=
 (.ite (.cmp .eql (.var 0) (.lit 0))
 (.ret (.int .i64 (.lit 32)) [])
 (.extp ⟨(.indexAddr 172 (.tmp 0) (.tmp 0)), 0, [(.cst (.pointer (some ⟨0, 0, none⟩))), (.int .u32 (.bin .shr .u32 (.bin .mul .u32 (.bin .and .u32 (.var 0) (.bin .sub .u32 (.lit 0) (.var 0))) (.lit 125613361)) (.lit 27)))]⟩ .ptr []
 (.load 1 (.lit 0) [(.int .u8)] []
 (.ret (.int .i64 (.conv .i64 (.var 2))) []))))
theorem S_math_bits_TrailingZeros32 : FnIs Tryd.prog n_math_bits_TrailingZeros32 [(.int .u32)] T_math_bits_TrailingZeros32 := ⟨Tryd.f121, [], 4000, Tryd.func121, by kernel_rfl⟩
end Go.Proofs.YthabfpagilbplaaDoor
