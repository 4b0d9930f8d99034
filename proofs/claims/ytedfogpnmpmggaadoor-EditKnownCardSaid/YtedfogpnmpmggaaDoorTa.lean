/- The trees of this seat's functions, printed by a program of mine (SyGen), checked here by the kernel. -/
import Derived.Test.YtedfogpnmpmggaaDoorSyDef
import Derived.Test.YtedfogpnmpmggaaDoorProg
import Derived.KernelRfl
set_option maxRecDepth 100000
namespace Go.Proofs.YtedfogpnmpmggaaDoor
open Go Go.Sy
/-! 31 ablaut/feats.Dist  -/
abbrev n_feats_Dist : FuncId := 31
def T_feats_Dist : Tree :=
 (.alloc
 (.alloc
 (.alloc
 (.call false 49 [(.agg [(.int .u32 (.var 0)), (.int .u32 (.var 1))])] .bool [⟨[(.int .u32 (.var 0)), (.int .u32 (.var 1))], 56⟩, ⟨[(.int .u32 (.var 2)), (.int .u32 (.var 3))], 56⟩, ⟨[(.sl 4 (.lit 0) (.var 5) (.var 6)), (.int .i64 (.var 7))], 25⟩]
 (.ite (.not (.var 8))
  (.ret (.tup [(.int .i64 (.lit 0)), (.int .i64 (.lit 14))]) [⟨[(.int .u32 (.var 0)), (.int .u32 (.var 1))], 56⟩, ⟨[(.int .u32 (.var 2)), (.int .u32 (.var 3))], 56⟩, ⟨[(.sl 4 (.lit 0) (.var 5) (.var 6)), (.int .i64 (.var 7))], 25⟩])
  (.call false 49 [(.agg [(.int .u32 (.var 2)), (.int .u32 (.var 3))])] .bool [⟨[(.int .u32 (.var 0)), (.int .u32 (.var 1))], 56⟩, ⟨[(.int .u32 (.var 2)), (.int .u32 (.var 3))], 56⟩, ⟨[(.sl 4 (.lit 0) (.var 5) (.var 6)), (.int .i64 (.var 7))], 25⟩]
  (.ite (.not (.var 9))
   (.ret (.tup [(.int .i64 (.lit 0)), (.int .i64 (.lit 14))]) [⟨[(.int .u32 (.var 0)), (.int .u32 (.var 1))], 56⟩, ⟨[(.int .u32 (.var 2)), (.int .u32 (.var 3))], 56⟩, ⟨[(.sl 4 (.lit 0) (.var 5) (.var 6)), (.int .i64 (.var 7))], 25⟩])
   (.call false 50 [(.agg [(.sl 4 (.lit 0) (.var 5) (.var 6)), (.int .i64 (.var 7))])] (.int .i64) [⟨[(.int .u32 (.var 0)), (.int .u32 (.var 1))], 56⟩, ⟨[(.int .u32 (.var 2)), (.int .u32 (.var 3))], 56⟩, ⟨[(.sl 4 (.lit 0) (.var 5) (.var 6)), (.int .i64 (.var 7))], 25⟩]
   (.ite (.cmp .neq (.var 10) (.lit 0))
    (.ret (.tup [(.int .i64 (.lit 0)), (.int .i64 (.var 10))]) [⟨[(.int .u32 (.var 0)), (.int .u32 (.var 1))], 56⟩, ⟨[(.int .u32 (.var 2)), (.int .u32 (.var 3))], 56⟩, ⟨[(.sl 4 (.lit 0) (.var 5) (.var 6)), (.int .i64 (.var 7))], 25⟩])
    (.alloc
    (.call false 52 [(.agg [(.int .u32 (.var 0)), (.int .u32 (.var 1))]), (.agg [(.int .u32 (.var 2)), (.int .u32 (.var 3))])] (.int .u32) [⟨[(.int .u32 (.var 0)), (.int .u32 (.var 1))], 56⟩, ⟨[(.int .u32 (.var 2)), (.int .u32 (.var 3))], 56⟩, ⟨[(.sl 4 (.lit 0) (.var 5) (.var 6)), (.int .i64 (.var 7))], 25⟩, ⟨[(.int .i64 (.lit 0))], 2⟩]
    (.call false 51 [(.int .u32 (.var 11))] .val [⟨[(.int .u32 (.var 0)), (.int .u32 (.var 1))], 56⟩, ⟨[(.int .u32 (.var 2)), (.int .u32 (.var 3))], 56⟩, ⟨[(.sl 4 (.lit 0) (.var 5) (.var 6)), (.int .i64 (.var 7))], 25⟩, ⟨[(.int .i64 (.lit 0))], 2⟩]
    (.range (.val 12) [(.int .i64)] [(.int .i64)] [(.int .i64 (.lit 0))] [⟨[(.int .u32 (.var 0)), (.int .u32 (.var 1))], 56⟩, ⟨[(.int .u32 (.var 2)), (.int .u32 (.var 3))], 56⟩, ⟨[(.sl 4 (.lit 0) (.var 5) (.var 6)), (.int .i64 (.var 7))], 25⟩, ⟨[(.int .i64 (.lit 0))], 2⟩] [⟨[(.int .u32 (.var 0)), (.int .u32 (.var 1))], 56⟩, ⟨[(.int .u32 (.var 2)), (.int .u32 (.var 3))], 56⟩, ⟨[(.sl 4 (.lit 0) (.var 5) (.var 6)), (.int .i64 (.var 7))], 25⟩, ⟨[(.int .i64 (.var 13))], 2⟩]
     (.chk (.cmp .geq (.var 5) (.lit 0))
     (.ite (.cmp .lss (.var 14) (.var 5))
      (.chk (.pick (.cmp .geq (.var 14) (.lit 0)) (.pick (.cmp .lss (.var 14) (.var 5)) (.some 4) (.lit false)) (.lit false))
      (.load 4 (.off (.var 14) 1 (.lit 0)) [(.int .i64)] [⟨[(.int .u32 (.var 0)), (.int .u32 (.var 1))], 56⟩, ⟨[(.int .u32 (.var 2)), (.int .u32 (.var 3))], 56⟩, ⟨[(.sl 4 (.lit 0) (.var 5) (.var 6)), (.int .i64 (.var 7))], 25⟩, ⟨[(.int .i64 (.var 13))], 2⟩]
      (.leave 0 4 [(.int .i64)] [(.int .i64 (.bin .add .i64 (.var 13) (.var 15)))] [⟨[(.int .u32 (.var 0)), (.int .u32 (.var 1))], 56⟩, ⟨[(.int .u32 (.var 2)), (.int .u32 (.var 3))], 56⟩, ⟨[(.sl 4 (.lit 0) (.var 5) (.var 6)), (.int .i64 (.var 7))], 25⟩, ⟨[(.int .i64 (.bin .add .i64 (.var 13) (.var 15)))], 2⟩])))
      (.leave 0 4 [(.int .i64)] [(.int .i64 (.var 13))] [⟨[(.int .u32 (.var 0)), (.int .u32 (.var 1))], 56⟩, ⟨[(.int .u32 (.var 2)), (.int .u32 (.var 3))], 56⟩, ⟨[(.sl 4 (.lit 0) (.var 5) (.var 6)), (.int .i64 (.var 7))], 25⟩, ⟨[(.int .i64 (.var 13))], 2⟩])))
     (.ret (.tup [(.int .i64 (.var 13)), (.int .i64 (.lit 0))]) [⟨[(.int .u32 (.var 0)), (.int .u32 (.var 1))], 56⟩, ⟨[(.int .u32 (.var 2)), (.int .u32 (.var 3))], 56⟩, ⟨[(.sl 4 (.lit 0) (.var 5) (.var 6)), (.int .i64 (.var 7))], 25⟩, ⟨[(.int .i64 (.var 13))], 2⟩]))))))))))))))
theorem S_feats_Dist : FnIs Tryd.prog n_feats_Dist [(.agg [(.int .u32), (.int .u32)]), (.agg [(.int .u32), (.int .u32)]), (.agg [.sl, (.int .i64)])] T_feats_Dist := ⟨Tryd.f31, [], 4000, Tryd.func31, by kernel_rfl⟩
/-! 32 ablaut/ablautlaw01.Made  -/
abbrev n_law01_Made : FuncId := 32
def T_law01_Made : Tree :=
 (.alloc
 (.ret (.agg [(.int .u32 (.bin .and .u32 (.var 0) (.lit 16777215))), (.int .u32 (.bin .andNot .u32 (.bin .and .u32 (.var 1) (.lit 16777215)) (.var 0)))]) [⟨[(.int .u32 (.bin .and .u32 (.var 0) (.lit 16777215))), (.int .u32 (.bin .andNot .u32 (.bin .and .u32 (.var 1) (.lit 16777215)) (.var 0)))], 56⟩]))
theorem S_law01_Made : FnIs Tryd.prog n_law01_Made [(.int .u32), (.int .u32)] T_law01_Made := ⟨Tryd.f32, [], 4000, Tryd.func32, by kernel_rfl⟩
/-! 45 ablaut/ablautref01.Dist  -/
abbrev n_ref01_Dist : FuncId := 45
def T_ref01_Dist : Tree :=
 (.alloc
 (.alloc
 (.alloc
 (.call false 57 [(.agg [(.int .u32 (.var 0)), (.int .u32 (.var 1))])] .bool [⟨[(.int .u32 (.var 0)), (.int .u32 (.var 1))], 56⟩, ⟨[(.int .u32 (.var 2)), (.int .u32 (.var 3))], 56⟩, ⟨[(.sl 4 (.lit 0) (.var 5) (.var 6)), (.int .i64 (.var 7))], 25⟩]
 (.ite (.not (.var 8))
  (.ret (.tup [(.int .i64 (.lit 0)), (.int .i64 (.lit 14))]) [⟨[(.int .u32 (.var 0)), (.int .u32 (.var 1))], 56⟩, ⟨[(.int .u32 (.var 2)), (.int .u32 (.var 3))], 56⟩, ⟨[(.sl 4 (.lit 0) (.var 5) (.var 6)), (.int .i64 (.var 7))], 25⟩])
  (.call false 57 [(.agg [(.int .u32 (.var 2)), (.int .u32 (.var 3))])] .bool [⟨[(.int .u32 (.var 0)), (.int .u32 (.var 1))], 56⟩, ⟨[(.int .u32 (.var 2)), (.int .u32 (.var 3))], 56⟩, ⟨[(.sl 4 (.lit 0) (.var 5) (.var 6)), (.int .i64 (.var 7))], 25⟩]
  (.ite (.not (.var 9))
   (.ret (.tup [(.int .i64 (.lit 0)), (.int .i64 (.lit 14))]) [⟨[(.int .u32 (.var 0)), (.int .u32 (.var 1))], 56⟩, ⟨[(.int .u32 (.var 2)), (.int .u32 (.var 3))], 56⟩, ⟨[(.sl 4 (.lit 0) (.var 5) (.var 6)), (.int .i64 (.var 7))], 25⟩])
   (.call false 54 [(.agg [(.sl 4 (.lit 0) (.var 5) (.var 6)), (.int .i64 (.var 7))])] (.int .i64) [⟨[(.int .u32 (.var 0)), (.int .u32 (.var 1))], 56⟩, ⟨[(.int .u32 (.var 2)), (.int .u32 (.var 3))], 56⟩, ⟨[(.sl 4 (.lit 0) (.var 5) (.var 6)), (.int .i64 (.var 7))], 25⟩]
   (.ite (.cmp .neq (.var 10) (.lit 0))
    (.ret (.tup [(.int .i64 (.lit 0)), (.int .i64 (.lit 2))]) [⟨[(.int .u32 (.var 0)), (.int .u32 (.var 1))], 56⟩, ⟨[(.int .u32 (.var 2)), (.int .u32 (.var 3))], 56⟩, ⟨[(.sl 4 (.lit 0) (.var 5) (.var 6)), (.int .i64 (.var 7))], 25⟩])
    (.loop 0 [(.int .i64), (.int .i64)] [(.int .i64 (.lit 0)), (.int .i64 (.lit 0))] [⟨[(.int .u32 (.var 0)), (.int .u32 (.var 1))], 56⟩, ⟨[(.int .u32 (.var 2)), (.int .u32 (.var 3))], 56⟩, ⟨[(.sl 4 (.lit 0) (.var 5) (.var 6)), (.int .i64 (.var 7))], 25⟩] [⟨[(.int .u32 (.var 0)), (.int .u32 (.var 1))], 56⟩, ⟨[(.int .u32 (.var 2)), (.int .u32 (.var 3))], 56⟩, ⟨[(.sl 4 (.lit 0) (.var 5) (.var 6)), (.int .i64 (.var 7))], 25⟩]
     (.chk (.cmp .geq (.var 5) (.lit 0))
     (.ite (.cmp .lss (.var 12) (.var 5))
      (.call true 58 [(.agg [(.int .u32 (.var 0)), (.int .u32 (.var 1))]), (.int .i64 (.var 12))] (.int .i64) [⟨[(.int .u32 (.var 0)), (.int .u32 (.var 1))], 56⟩, ⟨[(.int .u32 (.var 2)), (.int .u32 (.var 3))], 56⟩, ⟨[(.sl 4 (.lit 0) (.var 5) (.var 6)), (.int .i64 (.var 7))], 25⟩]
      (.call false 58 [(.agg [(.int .u32 (.var 2)), (.int .u32 (.var 3))]), (.int .i64 (.var 12))] (.int .i64) [⟨[(.int .u32 (.var 0)), (.int .u32 (.var 1))], 56⟩, ⟨[(.int .u32 (.var 2)), (.int .u32 (.var 3))], 56⟩, ⟨[(.sl 4 (.lit 0) (.var 5) (.var 6)), (.int .i64 (.var 7))], 25⟩]
      (.ite (.cmp .neq (.var 13) (.var 14))
       (.chk (.pick (.cmp .geq (.var 12) (.lit 0)) (.pick (.cmp .lss (.var 12) (.var 5)) (.some 4) (.lit false)) (.lit false))
       (.load 4 (.off (.var 12) 1 (.lit 0)) [(.int .i64)] [⟨[(.int .u32 (.var 0)), (.int .u32 (.var 1))], 56⟩, ⟨[(.int .u32 (.var 2)), (.int .u32 (.var 3))], 56⟩, ⟨[(.sl 4 (.lit 0) (.var 5) (.var 6)), (.int .i64 (.var 7))], 25⟩]
       (.again 0 3 [(.int .i64), (.int .i64)] [(.int .i64 (.bin .add .i64 (.var 11) (.var 15))), (.int .i64 (.bin .add .i64 (.var 12) (.lit 1)))] [⟨[(.int .u32 (.var 0)), (.int .u32 (.var 1))], 56⟩, ⟨[(.int .u32 (.var 2)), (.int .u32 (.var 3))], 56⟩, ⟨[(.sl 4 (.lit 0) (.var 5) (.var 6)), (.int .i64 (.var 7))], 25⟩])))
       (.again 0 3 [(.int .i64), (.int .i64)] [(.int .i64 (.var 11)), (.int .i64 (.bin .add .i64 (.var 12) (.lit 1)))] [⟨[(.int .u32 (.var 0)), (.int .u32 (.var 1))], 56⟩, ⟨[(.int .u32 (.var 2)), (.int .u32 (.var 3))], 56⟩, ⟨[(.sl 4 (.lit 0) (.var 5) (.var 6)), (.int .i64 (.var 7))], 25⟩]))))
      (.ret (.tup [(.int .i64 (.var 11)), (.int .i64 (.lit 0))]) [⟨[(.int .u32 (.var 0)), (.int .u32 (.var 1))], 56⟩, ⟨[(.int .u32 (.var 2)), (.int .u32 (.var 3))], 56⟩, ⟨[(.sl 4 (.lit 0) (.var 5) (.var 6)), (.int .i64 (.var 7))], 25⟩])))))))))))))
theorem S_ref01_Dist : FnIs Tryd.prog n_ref01_Dist [(.agg [(.int .u32), (.int .u32)]), (.agg [(.int .u32), (.int .u32)]), (.agg [.sl, (.int .i64)])] T_ref01_Dist := ⟨Tryd.f45, [], 4000, Tryd.func45, by kernel_rfl⟩
/-! 49 ablaut/feats.Valid  -/
abbrev n_feats_Valid : FuncId := 49
def T_feats_Valid : Tree :=
 (.alloc
 (.ret (.bool (.pick (.cmp .eql (.bin .and .u32 (.var 0) (.var 1)) (.lit 0)) (.cmp .leq (.bin .or .u32 (.var 0) (.var 1)) (.lit 16777215)) (.lit false))) [⟨[(.int .u32 (.var 0)), (.int .u32 (.var 1))], 56⟩]))
theorem S_feats_Valid : FnIs Tryd.prog n_feats_Valid [(.agg [(.int .u32), (.int .u32)])] T_feats_Valid := ⟨Tryd.f49, [], 4000, Tryd.func49, by kernel_rfl⟩
/-! 50 ablaut/feats.CheckCosts  -/
abbrev n_feats_CheckCosts : FuncId := 50
def T_feats_CheckCosts : Tree :=
 (.alloc
 (.chk (.cmp .geq (.var 1) (.lit 0))
 (.ite (.pick (.pick (.cmp .gtr (.var 1) (.lit 24)) (.lit true) (.cmp .lss (.var 3) (.lit 0))) (.lit true) (.cmp .gtr (.var 3) (.lit 1073741824)))
  (.ret (.int .i64 (.lit 2)) [⟨[(.sl 0 (.lit 0) (.var 1) (.var 2)), (.int .i64 (.var 3))], 25⟩])
  (.chk (.cmp .geq (.var 1) (.lit 0))
  (.loop 0 [(.int .i64), (.int .i64)] [(.int .i64 (.lit 0)), (.int .i64 (.lit 0))] [⟨[(.sl 0 (.lit 0) (.var 1) (.var 2)), (.int .i64 (.var 3))], 25⟩] [⟨[(.sl 0 (.lit 0) (.var 1) (.var 2)), (.int .i64 (.var 3))], 25⟩]
   (.ite (.cmp .lss (.var 5) (.var 1))
    (.chk (.pick (.cmp .geq (.var 5) (.lit 0)) (.pick (.cmp .lss (.var 5) (.var 1)) (.some 0) (.lit false)) (.lit false))
    (.load 0 (.off (.var 5) 1 (.lit 0)) [(.int .i64)] [⟨[(.sl 0 (.lit 0) (.var 1) (.var 2)), (.int .i64 (.var 3))], 25⟩]
    (.ite (.pick (.cmp .lss (.var 6) (.lit 0)) (.lit true) (.cmp .gtr (.var 6) (.lit 1073741824)))
     (.ret (.int .i64 (.lit 2)) [⟨[(.sl 0 (.lit 0) (.var 1) (.var 2)), (.int .i64 (.var 3))], 25⟩])
     (.again 0 1 [(.int .i64), (.int .i64)] [(.int .i64 (.var 4)), (.int .i64 (.bin .add .i64 (.var 5) (.lit 1)))] [⟨[(.sl 0 (.lit 0) (.var 1) (.var 2)), (.int .i64 (.var 3))], 25⟩]))))
    (.ret (.int .i64 (.lit 0)) [⟨[(.sl 0 (.lit 0) (.var 1) (.var 2)), (.int .i64 (.var 3))], 25⟩])))))))
theorem S_feats_CheckCosts : FnIs Tryd.prog n_feats_CheckCosts [(.agg [.sl, (.int .i64)])] T_feats_CheckCosts := ⟨Tryd.f50, [], 4000, Tryd.func50, by kernel_rfl⟩
/-! 51 ablaut/feats.features  -/
abbrev n_feats_features : FuncId := 51
def T_feats_features : Tree :=
 (.alloc
 (.ret (.fn (.func 60) [] [(.loc 0 0)]) [⟨[(.int .u32 (.var 0))], 54⟩]))
theorem S_feats_features : FnIs Tryd.prog n_feats_features [(.int .u32)] T_feats_features := ⟨Tryd.f51, [], 4000, Tryd.func51, by kernel_rfl⟩
/-! 52 ablaut/feats.Diff  -/
abbrev n_feats_Diff : FuncId := 52
def T_feats_Diff : Tree :=
 (.alloc
 (.alloc
 (.call false 49 [(.agg [(.int .u32 (.var 0)), (.int .u32 (.var 1))])] .bool [⟨[(.int .u32 (.var 0)), (.int .u32 (.var 1))], 56⟩, ⟨[(.int .u32 (.var 2)), (.int .u32 (.var 3))], 56⟩]
 (.ite (.not (.var 4))
  (.ret (.int .u32 (.lit 0)) [⟨[(.int .u32 (.var 0)), (.int .u32 (.var 1))], 56⟩, ⟨[(.int .u32 (.var 2)), (.int .u32 (.var 3))], 56⟩])
  (.call false 49 [(.agg [(.int .u32 (.var 2)), (.int .u32 (.var 3))])] .bool [⟨[(.int .u32 (.var 0)), (.int .u32 (.var 1))], 56⟩, ⟨[(.int .u32 (.var 2)), (.int .u32 (.var 3))], 56⟩]
  (.ite (.not (.var 5))
   (.ret (.int .u32 (.lit 0)) [⟨[(.int .u32 (.var 0)), (.int .u32 (.var 1))], 56⟩, ⟨[(.int .u32 (.var 2)), (.int .u32 (.var 3))], 56⟩])
   (.ret (.int .u32 (.bin .or .u32 (.bin .xor .u32 (.var 0) (.var 2)) (.bin .xor .u32 (.var 1) (.var 3)))) [⟨[(.int .u32 (.var 0)), (.int .u32 (.var 1))], 56⟩, ⟨[(.int .u32 (.var 2)), (.int .u32 (.var 3))], 56⟩])))))))
theorem S_feats_Diff : FnIs Tryd.prog n_feats_Diff [(.agg [(.int .u32), (.int .u32)]), (.agg [(.int .u32), (.int .u32)])] T_feats_Diff := ⟨Tryd.f52, [], 4000, Tryd.func52, by kernel_rfl⟩
/-! 54 ablaut/ablautref01.CheckCosts  -/
abbrev n_ref01_CheckCosts : FuncId := 54
def T_ref01_CheckCosts : Tree :=
 (.alloc
 (.chk (.cmp .geq (.var 1) (.lit 0))
 (.ite (.pick (.pick (.cmp .gtr (.var 1) (.lit 24)) (.lit true) (.cmp .lss (.var 3) (.lit 0))) (.lit true) (.cmp .gtr (.var 3) (.lit 1073741824)))
  (.ret (.int .i64 (.lit 2)) [⟨[(.sl 0 (.lit 0) (.var 1) (.var 2)), (.int .i64 (.var 3))], 25⟩])
  (.loop 0 [(.int .i64), (.int .i64)] [(.int .i64 (.lit 0)), (.int .i64 (.lit 0))] [⟨[(.sl 0 (.lit 0) (.var 1) (.var 2)), (.int .i64 (.var 3))], 25⟩] [⟨[(.sl 0 (.lit 0) (.var 1) (.var 2)), (.int .i64 (.var 3))], 25⟩]
   (.chk (.cmp .geq (.var 1) (.lit 0))
   (.ite (.cmp .lss (.var 5) (.var 1))
    (.chk (.pick (.cmp .geq (.var 5) (.lit 0)) (.pick (.cmp .lss (.var 5) (.var 1)) (.some 0) (.lit false)) (.lit false))
    (.load 0 (.off (.var 5) 1 (.lit 0)) [(.int .i64)] [⟨[(.sl 0 (.lit 0) (.var 1) (.var 2)), (.int .i64 (.var 3))], 25⟩]
    (.ite (.cmp .lss (.var 6) (.lit 0))
     (.ret (.int .i64 (.lit 2)) [⟨[(.sl 0 (.lit 0) (.var 1) (.var 2)), (.int .i64 (.var 3))], 25⟩])
     (.chk (.pick (.cmp .geq (.var 5) (.lit 0)) (.pick (.cmp .lss (.var 5) (.var 1)) (.some 0) (.lit false)) (.lit false))
     (.load 0 (.off (.var 5) 1 (.lit 0)) [(.int .i64)] [⟨[(.sl 0 (.lit 0) (.var 1) (.var 2)), (.int .i64 (.var 3))], 25⟩]
     (.ite (.cmp .gtr (.var 7) (.lit 1073741824))
      (.ret (.int .i64 (.lit 2)) [⟨[(.sl 0 (.lit 0) (.var 1) (.var 2)), (.int .i64 (.var 3))], 25⟩])
      (.again 0 1 [(.int .i64), (.int .i64)] [(.int .i64 (.var 4)), (.int .i64 (.bin .add .i64 (.var 5) (.lit 1)))] [⟨[(.sl 0 (.lit 0) (.var 1) (.var 2)), (.int .i64 (.var 3))], 25⟩])))))))
    (.ret (.int .i64 (.lit 0)) [⟨[(.sl 0 (.lit 0) (.var 1) (.var 2)), (.int .i64 (.var 3))], 25⟩])))))))
theorem S_ref01_CheckCosts : FnIs Tryd.prog n_ref01_CheckCosts [(.agg [.sl, (.int .i64)])] T_ref01_CheckCosts := ⟨Tryd.f54, [], 4000, Tryd.func54, by kernel_rfl⟩
/-! 55 ablaut/ablautref02.Check  -/
abbrev n_ref02_Check : FuncId := 55
def T_ref02_Check : Tree :=
 (.chk (.cmp .geq (.var 1) (.lit 0))
 (.ite (.cmp .gtr (.var 1) (.lit 32))
  (.ret (.int .i64 (.lit 11)) [])
  (.loop 0 [(.int .i64), (.int .i64)] [(.int .i64 (.lit 0)), (.int .i64 (.lit 0))] [] []
   (.chk (.cmp .geq (.var 1) (.lit 0))
   (.ite (.cmp .lss (.var 4) (.var 1))
    (.chk (.pick (.cmp .geq (.var 4) (.lit 0)) (.pick (.cmp .lss (.var 4) (.var 1)) (.some 0) (.lit false)) (.lit false))
    (.load 0 (.off (.var 4) 2 (.lit 0)) [(.int .u32), (.int .u32)] []
    (.call false 63 [(.agg [(.int .u32 (.var 5)), (.int .u32 (.var 6))])] .bool []
    (.ite (.not (.var 7))
     (.ret (.int .i64 (.lit 14)) [])
     (.again 0 0 [(.int .i64), (.int .i64)] [(.int .i64 (.var 3)), (.int .i64 (.bin .add .i64 (.var 4) (.lit 1)))] [])))))
    (.ret (.int .i64 (.lit 0)) []))))))
theorem S_ref02_Check : FnIs Tryd.prog n_ref02_Check [.sl] T_ref02_Check := ⟨Tryd.f55, [], 4000, Tryd.func55, by kernel_rfl⟩
/-! 57 ablaut/ablautref01.Valid  -/
abbrev n_ref01_Valid : FuncId := 57
def T_ref01_Valid : Tree :=
 (.alloc
 (.loop 0 [.bool, (.int .i64)] [(.bool (.lit false)), (.int .i64 (.lit 0))] [⟨[(.int .u32 (.var 0)), (.int .u32 (.var 1))], 56⟩] [⟨[(.int .u32 (.var 0)), (.int .u32 (.var 1))], 56⟩]
  (.ite (.cmp .lss (.var 3) (.lit 32))
   (.chk (.cmp .geq (.var 3) (.lit 0))
   (.chk (.cmp .geq (.var 3) (.lit 0))
   (.ite (.cmp .eql (.bin .and .u32 (.bin .shr .u32 (.var 0) (.var 3)) (.lit 1)) (.lit 1))
    (.ite (.pick (.cmp .eql (.bin .and .u32 (.bin .shr .u32 (.var 1) (.var 3)) (.lit 1)) (.lit 1)) (.lit true) (.cmp .geq (.var 3) (.lit 24)))
     (.ret (.bool (.lit false)) [⟨[(.int .u32 (.var 0)), (.int .u32 (.var 1))], 56⟩])
     (.again 0 1 [.bool, (.int .i64)] [(.bool (.var 2)), (.int .i64 (.bin .add .i64 (.var 3) (.lit 1)))] [⟨[(.int .u32 (.var 0)), (.int .u32 (.var 1))], 56⟩]))
    (.ite (.pick (.cmp .eql (.bin .and .u32 (.bin .shr .u32 (.var 1) (.var 3)) (.lit 1)) (.lit 1)) (.cmp .geq (.var 3) (.lit 24)) (.lit false))
     (.ret (.bool (.lit false)) [⟨[(.int .u32 (.var 0)), (.int .u32 (.var 1))], 56⟩])
     (.again 0 1 [.bool, (.int .i64)] [(.bool (.var 2)), (.int .i64 (.bin .add .i64 (.var 3) (.lit 1)))] [⟨[(.int .u32 (.var 0)), (.int .u32 (.var 1))], 56⟩])))))
   (.ret (.bool (.lit true)) [⟨[(.int .u32 (.var 0)), (.int .u32 (.var 1))], 56⟩]))))
theorem S_ref01_Valid : FnIs Tryd.prog n_ref01_Valid [(.agg [(.int .u32), (.int .u32)])] T_ref01_Valid := ⟨Tryd.f57, [], 4000, Tryd.func57, by kernel_rfl⟩
/-! 58 ablaut/ablautref01.Get  -/
abbrev n_ref01_Get : FuncId := 58
def T_ref01_Get : Tree :=
 (.alloc
 (.call false 57 [(.agg [(.int .u32 (.var 0)), (.int .u32 (.var 1))])] .bool [⟨[(.int .u32 (.var 0)), (.int .u32 (.var 1))], 56⟩]
 (.ite (.not (.var 3))
  (.ret (.int .i64 (.lit 0)) [⟨[(.int .u32 (.var 0)), (.int .u32 (.var 1))], 56⟩])
  (.call false 64 [(.int .i64 (.var 2))] .bool [⟨[(.int .u32 (.var 0)), (.int .u32 (.var 1))], 56⟩]
  (.ite (.not (.var 4))
   (.ret (.int .i64 (.lit 0)) [⟨[(.int .u32 (.var 0)), (.int .u32 (.var 1))], 56⟩])
   (.chk (.cmp .geq (.var 2) (.lit 0))
   (.ite (.cmp .eql (.bin .and .u32 (.bin .shr .u32 (.var 0) (.var 2)) (.lit 1)) (.lit 1))
    (.ret (.int .i64 (.lit 1)) [⟨[(.int .u32 (.var 0)), (.int .u32 (.var 1))], 56⟩])
    (.chk (.cmp .geq (.var 2) (.lit 0))
    (.ite (.cmp .eql (.bin .and .u32 (.bin .shr .u32 (.var 1) (.var 2)) (.lit 1)) (.lit 1))
     (.ret (.int .i64 (.lit (-1))) [⟨[(.int .u32 (.var 0)), (.int .u32 (.var 1))], 56⟩])
     (.ret (.int .i64 (.lit 0)) [⟨[(.int .u32 (.var 0)), (.int .u32 (.var 1))], 56⟩]))))))))))
theorem S_ref01_Get : FnIs Tryd.prog n_ref01_Get [(.agg [(.int .u32), (.int .u32)]), (.int .i64)] T_ref01_Get := ⟨Tryd.f58, [], 4000, Tryd.func58, by kernel_rfl⟩
/-! 59 ablaut/word.Check  -/
abbrev n_word_Check : FuncId := 59
def T_word_Check : Tree :=
 (.chk (.cmp .geq (.var 1) (.lit 0))
 (.ite (.cmp .gtr (.var 1) (.lit 32))
  (.ret (.int .i64 (.lit 11)) [])
  (.chk (.cmp .geq (.var 1) (.lit 0))
  (.loop 0 [(.int .i64), (.int .i64)] [(.int .i64 (.lit 0)), (.int .i64 (.lit 0))] [] []
   (.ite (.cmp .lss (.var 4) (.var 1))
    (.chk (.pick (.cmp .geq (.var 4) (.lit 0)) (.pick (.cmp .lss (.var 4) (.var 1)) (.some 0) (.lit false)) (.lit false))
    (.load 0 (.off (.var 4) 2 (.lit 0)) [(.int .u32), (.int .u32)] []
    (.alloc
    (.call false 65 [(.agg [(.int .u32 (.var 5)), (.int .u32 (.var 6))])] .bool [⟨[(.int .u32 (.var 5)), (.int .u32 (.var 6))], 56⟩]
    (.ite (.not (.var 7))
     (.ret (.int .i64 (.lit 14)) [⟨[(.int .u32 (.var 5)), (.int .u32 (.var 6))], 56⟩])
     (.again 0 0 [(.int .i64), (.int .i64)] [(.int .i64 (.var 3)), (.int .i64 (.bin .add .i64 (.var 4) (.lit 1)))] [⟨[(.int .u32 (.var 5)), (.int .u32 (.var 6))], 56⟩]))))))
    (.ret (.int .i64 (.lit 0)) []))))))
theorem S_word_Check : FnIs Tryd.prog n_word_Check [.sl] T_word_Check := ⟨Tryd.f59, [], 4000, Tryd.func59, by kernel_rfl⟩
/-! 60 ablaut/feats.features$1  -/
abbrev n_feats_features_1 : FuncId := 60
def T_feats_features_1 : Tree :=
 (.loop 0 [] [] [] []
  (.load 1 (.lit 0) [(.int .u32)] []
  (.ite (.cmp .neq (.var 2) (.lit 0))
   (.load 1 (.lit 0) [(.int .u32)] []
   (.call false 61 [(.int .u32 (.var 3))] (.int .i64) []
   (.callv false (.val 0) [(.int .i64 (.var 4))] .bool []
   (.ite (.var 5)
    (.load 1 (.lit 0) [(.int .u32)] []
    (.load 1 (.lit 0) [(.int .u32)] []
    (.store false 1 (.lit 0) [(.int .u32 (.bin .and .u32 (.var 6) (.bin .sub .u32 (.var 7) (.lit 1))))] []
    (.again 0 0 [] [] []))))
    (.ret (.tup []) [])))))
   (.ret (.tup []) []))))
theorem S_feats_features_1 : FnIs Tryd.prog n_feats_features_1 [.val, .ptr] T_feats_features_1 := ⟨Tryd.f60, [], 4000, Tryd.func60, by kernel_rfl⟩
/-! 61 math/bits.TrailingZeros32  -/
abbrev n_math_bits_TrailingZeros32 : FuncId := 61
def T_math_bits_TrailingZeros32 : Tree :=
 (.ite (.cmp .eql (.var 0) (.lit 0))
  (.ret (.int .i64 (.lit 32)) [])
  (.extp ⟨(.indexAddr 110 (.tmp 0) (.tmp 0)), 0, [(.cst (.pointer (some ⟨0, 0, none⟩))), (.int .u32 (.bin .shr .u32 (.bin .mul .u32 (.bin .and .u32 (.var 0) (.bin .sub .u32 (.lit 0) (.var 0))) (.lit 125613361)) (.lit 27)))]⟩ .ptr []
  (.load 1 (.lit 0) [(.int .u8)] []
  (.ret (.int .i64 (.conv .i64 (.var 2))) []))))
theorem S_math_bits_TrailingZeros32 : FnIs Tryd.prog n_math_bits_TrailingZeros32 [(.int .u32)] T_math_bits_TrailingZeros32 := ⟨Tryd.f61, [], 4000, Tryd.func61, by kernel_rfl⟩
/-! 63 ablaut/ablautref02.Valid  -/
abbrev n_ref02_Valid : FuncId := 63
def T_ref02_Valid : Tree :=
 (.alloc
 (.ret (.bool (.pick (.pick (.cmp .eql (.bin .and .u32 (.var 0) (.var 1)) (.lit 0)) (.cmp .lss (.var 0) (.lit 16777216)) (.lit false)) (.cmp .lss (.var 1) (.lit 16777216)) (.lit false))) [⟨[(.int .u32 (.var 0)), (.int .u32 (.var 1))], 56⟩]))
theorem S_ref02_Valid : FnIs Tryd.prog n_ref02_Valid [(.agg [(.int .u32), (.int .u32)])] T_ref02_Valid := ⟨Tryd.f63, [], 4000, Tryd.func63, by kernel_rfl⟩
/-! 64 ablaut/ablautref01.feature  -/
abbrev n_ref01_feature : FuncId := 64
def T_ref01_feature : Tree :=
 (.ret (.bool (.pick (.cmp .geq (.var 0) (.lit 0)) (.cmp .lss (.var 0) (.lit 24)) (.lit false))) [])
theorem S_ref01_feature : FnIs Tryd.prog n_ref01_feature [(.int .i64)] T_ref01_feature := ⟨Tryd.f64, [], 4000, Tryd.func64, by kernel_rfl⟩
/-! 65 ablaut/word.valid  -/
abbrev n_word_valid : FuncId := 65
def T_word_valid : Tree :=
 (.alloc
 (.ite (.cmp .eql (.bin .and .u32 (.var 0) (.var 1)) (.lit 0))
  (.ret (.bool (.cmp .eql (.bin .shr .u32 (.bin .or .u32 (.var 0) (.var 1)) (.lit 24)) (.lit 0))) [⟨[(.int .u32 (.var 0)), (.int .u32 (.var 1))], 56⟩])
  (.ret (.bool (.lit false)) [⟨[(.int .u32 (.var 0)), (.int .u32 (.var 1))], 56⟩])))
theorem S_word_valid : FnIs Tryd.prog n_word_valid [(.agg [(.int .u32), (.int .u32)])] T_word_valid := ⟨Tryd.f65, [], 4000, Tryd.func65, by kernel_rfl⟩
end Go.Proofs.YtedfogpnmpmggaaDoor
