/- The trees of this seat's functions, printed by a program of mine (SyGen), checked here by the kernel. -/
import Derived.Test.YtialbhieaipcgaaDoorSyDef
import Derived.Test.YtialbhieaipcgaaDoorProg
import Derived.KernelRfl
set_option maxRecDepth 100000
namespace Go.Proofs.YtialbhieaipcgaaDoor
open Go Go.Sy
/-! 27 ablaut/ablautlaw18.choice  -/
/-! 30 ablaut/multi.Add  -/
abbrev n_multi_Add : FuncId := 30
def T_multi_Add : Tree :=
 (.alloc
 (.alloc
 (.alloc
 (.alloc
 (.alloc
 (.call false 46 [(.slc 4 0 4 4)] (.int .i64) [⟨[(.sl 0 (.lit 0) (.var 1) (.var 2))], 22⟩, ⟨[(.sl 3 (.lit 0) (.var 4) (.var 5))], 23⟩, ⟨[(.sl 6 (.lit 0) (.var 7) (.var 8))], 46⟩, ⟨[(.sl 9 (.lit 0) (.var 10) (.var 11)), (.int .i64 (.var 12))], 26⟩, ⟨[(.fn (.func 73) [] [(.loc 3 0)]), (.fn (.func 74) [] [(.loc 0 0)]), (.fn (.func 75) [] [(.loc 2 0)]), (.fn (.func 76) [] [(.loc 0 0), (.loc 1 0)])], 73⟩]
 (.ite (.cmp .neq (.var 13) (.lit 0))
  (.ret (.tup [(.cst (.slice none 0 0)), (.int .i64 (.var 13))]) [⟨[(.sl 0 (.lit 0) (.var 1) (.var 2))], 22⟩, ⟨[(.sl 3 (.lit 0) (.var 4) (.var 5))], 23⟩, ⟨[(.sl 6 (.lit 0) (.var 7) (.var 8))], 46⟩, ⟨[(.sl 9 (.lit 0) (.var 10) (.var 11)), (.int .i64 (.var 12))], 26⟩, ⟨[(.fn (.func 73) [] [(.loc 3 0)]), (.fn (.func 74) [] [(.loc 0 0)]), (.fn (.func 75) [] [(.loc 2 0)]), (.fn (.func 76) [] [(.loc 0 0), (.loc 1 0)])], 73⟩])
  (.call false 77 [(.sl 0 (.lit 0) (.var 1) (.var 2))] .sl [⟨[(.sl 0 (.lit 0) (.var 1) (.var 2))], 22⟩, ⟨[(.sl 3 (.lit 0) (.var 4) (.var 5))], 23⟩, ⟨[(.sl 6 (.lit 0) (.var 7) (.var 8))], 46⟩, ⟨[(.sl 9 (.lit 0) (.var 10) (.var 11)), (.int .i64 (.var 12))], 26⟩, ⟨[(.fn (.func 73) [] [(.loc 3 0)]), (.fn (.func 74) [] [(.loc 0 0)]), (.fn (.func 75) [] [(.loc 2 0)]), (.fn (.func 76) [] [(.loc 0 0), (.loc 1 0)])], 73⟩]
  (.alloc
  (.ext false ⟨(.call ⟨.builtin .append, #[(.tmp 0), (.tmp 0)], #[22, 22]⟩), 22, [(.sl 14 (.lit 0) (.var 15) (.var 16)), (.slc 5 0 1 1)]⟩ .sl [⟨[(.sl 0 (.lit 0) (.var 1) (.var 2))], 22⟩, ⟨[(.sl 3 (.lit 0) (.var 4) (.var 5))], 23⟩, ⟨[(.sl 6 (.lit 0) (.var 7) (.var 8))], 46⟩, ⟨[(.sl 9 (.lit 0) (.var 10) (.var 11)), (.int .i64 (.var 12))], 26⟩, ⟨[(.fn (.func 73) [] [(.loc 3 0)]), (.fn (.func 74) [] [(.loc 0 0)]), (.fn (.func 75) [] [(.loc 2 0)]), (.fn (.func 76) [] [(.loc 0 0), (.loc 1 0)])], 73⟩, ⟨[(.sl 6 (.lit 0) (.var 7) (.var 8))], 46⟩]
  (.chk (.cmp .geq (.var 1) (.lit 0))
  (.call false 50 [(.sl 17 (.lit 0) (.var 18) (.var 19)), (.agg [(.sl 9 (.lit 0) (.var 10) (.var 11)), (.int .i64 (.var 12))])] .val [⟨[(.sl 0 (.lit 0) (.var 1) (.var 2))], 22⟩, ⟨[(.sl 3 (.lit 0) (.var 4) (.var 5))], 23⟩, ⟨[(.sl 6 (.lit 0) (.var 7) (.var 8))], 46⟩, ⟨[(.sl 9 (.lit 0) (.var 10) (.var 11)), (.int .i64 (.var 12))], 26⟩, ⟨[(.fn (.func 73) [] [(.loc 3 0)]), (.fn (.func 74) [] [(.loc 0 0)]), (.fn (.func 75) [] [(.loc 2 0)]), (.fn (.func 76) [] [(.loc 0 0), (.loc 1 0)])], 73⟩, ⟨[(.sl 6 (.lit 0) (.var 7) (.var 8))], 46⟩]
  (.call false 57 [(.sl 17 (.lit 0) (.var 18) (.var 19)), (.sl 3 (.lit 0) (.var 4) (.var 5)), (.int .i64 (.var 1)), (.val 20)] .sl [⟨[(.sl 0 (.lit 0) (.var 1) (.var 2))], 22⟩, ⟨[(.sl 3 (.lit 0) (.var 4) (.var 5))], 23⟩, ⟨[(.sl 6 (.lit 0) (.var 7) (.var 8))], 46⟩, ⟨[(.sl 9 (.lit 0) (.var 10) (.var 11)), (.int .i64 (.var 12))], 26⟩, ⟨[(.fn (.func 73) [] [(.loc 3 0)]), (.fn (.func 74) [] [(.loc 0 0)]), (.fn (.func 75) [] [(.loc 2 0)]), (.fn (.func 76) [] [(.loc 0 0), (.loc 1 0)])], 73⟩, ⟨[(.sl 6 (.lit 0) (.var 7) (.var 8))], 46⟩]
  (.ret (.tup [(.sl 21 (.lit 0) (.var 22) (.var 23)), (.int .i64 (.lit 0))]) [⟨[(.sl 0 (.lit 0) (.var 1) (.var 2))], 22⟩, ⟨[(.sl 3 (.lit 0) (.var 4) (.var 5))], 23⟩, ⟨[(.sl 6 (.lit 0) (.var 7) (.var 8))], 46⟩, ⟨[(.sl 9 (.lit 0) (.var 10) (.var 11)), (.int .i64 (.var 12))], 26⟩, ⟨[(.fn (.func 73) [] [(.loc 3 0)]), (.fn (.func 74) [] [(.loc 0 0)]), (.fn (.func 75) [] [(.loc 2 0)]), (.fn (.func 76) [] [(.loc 0 0), (.loc 1 0)])], 73⟩, ⟨[(.sl 6 (.lit 0) (.var 7) (.var 8))], 46⟩]))))))))))))))
theorem S_multi_Add : FnIs Tryd.prog n_multi_Add [.sl, .sl, .sl, (.agg [.sl, (.int .i64)])] T_multi_Add := ⟨Tryd.f30, [], 4000, Tryd.func30, by kernel_rfl⟩
/-! 31 ablaut/ablautref18.Add  -/
/-! 33 ablaut/multi.Refine  -/
abbrev n_multi_Refine : FuncId := 33
def T_multi_Refine : Tree :=
 (.alloc
 (.call false 17 [(.sl 0 (.lit 0) (.var 1) (.var 2)), (.sl 3 (.lit 0) (.var 4) (.var 5)), (.agg [(.sl 6 (.lit 0) (.var 7) (.var 8)), (.int .i64 (.var 9))])] (.tup [(.int .i64), (.int .i64)]) [⟨[(.sl 6 (.lit 0) (.var 7) (.var 8)), (.int .i64 (.var 9))], 26⟩]
 (.ite (.cmp .neq (.var 11) (.lit 0))
  (.ret (.tup [(.cst (.slice none 0 0)), (.int .i64 (.var 11))]) [⟨[(.sl 6 (.lit 0) (.var 7) (.var 8)), (.int .i64 (.var 9))], 26⟩])
  (.call false 50 [(.sl 0 (.lit 0) (.var 1) (.var 2)), (.agg [(.sl 6 (.lit 0) (.var 7) (.var 8)), (.int .i64 (.var 9))])] .val [⟨[(.sl 6 (.lit 0) (.var 7) (.var 8)), (.int .i64 (.var 9))], 26⟩]
  (.chk (.cmp .geq (.var 4) (.lit 0))
  (.ext false ⟨(.makeSlice 23 (.tmp 0) (.tmp 0)), 23, [(.int .i64 (.var 4)), (.int .i64 (.var 4))]⟩ .sl [⟨[(.sl 6 (.lit 0) (.var 7) (.var 8)), (.int .i64 (.var 9))], 26⟩]
  (.chk (.cmp .geq (.var 4) (.lit 0))
  (.loop 0 [(.int .i64)] [(.int .i64 (.lit 0))] [⟨[(.sl 6 (.lit 0) (.var 7) (.var 8)), (.int .i64 (.var 9))], 26⟩] [⟨[(.sl 6 (.lit 0) (.var 7) (.var 8)), (.int .i64 (.var 9))], 26⟩]
   (.ite (.cmp .lss (.var 16) (.var 4))
    (.chk (.pick (.cmp .geq (.var 16) (.lit 0)) (.pick (.cmp .lss (.var 16) (.var 4)) (.some 3) (.lit false)) (.lit false))
    (.load 3 (.off (.var 16) 1 (.lit 0)) [.sl] [⟨[(.sl 6 (.lit 0) (.var 7) (.var 8)), (.int .i64 (.var 9))], 26⟩]
    (.call false 81 [(.sl 17 (.lit 0) (.var 18) (.var 19))] .sl [⟨[(.sl 6 (.lit 0) (.var 7) (.var 8)), (.int .i64 (.var 9))], 26⟩]
    (.chk (.pick (.cmp .geq (.var 16) (.lit 0)) (.pick (.cmp .lss (.var 16) (.var 14)) (.some 13) (.lit false)) (.lit false))
    (.store false 13 (.off (.var 16) 1 (.lit 0)) [(.sl 20 (.lit 0) (.var 21) (.var 22))] [⟨[(.sl 6 (.lit 0) (.var 7) (.var 8)), (.int .i64 (.var 9))], 26⟩]
    (.again 0 1 [(.int .i64)] [(.int .i64 (.bin .add .i64 (.var 16) (.lit 1)))] [⟨[(.sl 6 (.lit 0) (.var 7) (.var 8)), (.int .i64 (.var 9))], 26⟩]))))))
    (.loop 0 [(.int .i64), .sl, .bool] [(.int .i64 (.var 10)), (.sl 13 (.lit 0) (.var 14) (.var 15)), (.bool (.lit true))] [⟨[(.sl 6 (.lit 0) (.var 7) (.var 8)), (.int .i64 (.var 9))], 26⟩] [⟨[(.sl 6 (.lit 0) (.var 7) (.var 8)), (.int .i64 (.var 9))], 26⟩]
     (.ite (.var 21)
      (.chk (.cmp .geq (.var 1) (.lit 0))
      (.loop 1 [(.int .i64), .sl, .bool, (.int .i64)] [(.int .i64 (.var 17)), (.sl 18 (.lit 0) (.var 19) (.var 20)), (.bool (.lit false)), (.int .i64 (.lit 0))] [⟨[(.sl 6 (.lit 0) (.var 7) (.var 8)), (.int .i64 (.var 9))], 26⟩] [⟨[(.sl 6 (.lit 0) (.var 7) (.var 8)), (.int .i64 (.var 9))], 26⟩]
       (.ite (.cmp .lss (.var 27) (.var 1))
        (.call false 72 [(.sl 23 (.lit 0) (.var 24) (.var 25)), (.int .i64 (.var 27))] .sl [⟨[(.sl 6 (.lit 0) (.var 7) (.var 8)), (.int .i64 (.var 9))], 26⟩]
        (.call false 57 [(.sl 0 (.lit 0) (.var 1) (.var 2)), (.sl 28 (.lit 0) (.var 29) (.var 30)), (.int .i64 (.var 27)), (.val 12)] .sl [⟨[(.sl 6 (.lit 0) (.var 7) (.var 8)), (.int .i64 (.var 9))], 26⟩]
        (.call false 49 [(.sl 31 (.lit 0) (.var 32) (.var 33)), (.val 12)] (.int .i64) [⟨[(.sl 6 (.lit 0) (.var 7) (.var 8)), (.int .i64 (.var 9))], 26⟩]
        (.ite (.cmp .lss (.var 34) (.var 22))
         (.again 1 1 [(.int .i64), .sl, .bool, (.int .i64)] [(.int .i64 (.var 34)), (.sl 31 (.lit 0) (.var 32) (.var 33)), (.bool (.lit true)), (.int .i64 (.bin .add .i64 (.var 27) (.lit 1)))] [⟨[(.sl 6 (.lit 0) (.var 7) (.var 8)), (.int .i64 (.var 9))], 26⟩])
         (.again 1 1 [(.int .i64), .sl, .bool, (.int .i64)] [(.int .i64 (.var 22)), (.sl 23 (.lit 0) (.var 24) (.var 25)), (.bool (.var 26)), (.int .i64 (.bin .add .i64 (.var 27) (.lit 1)))] [⟨[(.sl 6 (.lit 0) (.var 7) (.var 8)), (.int .i64 (.var 9))], 26⟩])))))
        (.again 0 1 [(.int .i64), .sl, .bool] [(.int .i64 (.var 22)), (.sl 23 (.lit 0) (.var 24) (.var 25)), (.bool (.var 26))] [⟨[(.sl 6 (.lit 0) (.var 7) (.var 8)), (.int .i64 (.var 9))], 26⟩]))))
      (.ret (.tup [(.sl 18 (.lit 0) (.var 19) (.var 20)), (.int .i64 (.lit 0))]) [⟨[(.sl 6 (.lit 0) (.var 7) (.var 8)), (.int .i64 (.var 9))], 26⟩]))))))))))))
theorem S_multi_Refine : FnIs Tryd.prog n_multi_Refine [.sl, .sl, (.agg [.sl, (.int .i64)])] T_multi_Refine := ⟨Tryd.f33, [], 4000, Tryd.func33, by kernel_rfl⟩
/-! 34 ablaut/ablautref18.Refine  -/
/-! 73 ablaut/multi.Add$1  -/
abbrev n_multi_Add_1 : FuncId := 73
def T_multi_Add_1 : Tree :=
 (.load 0 (.lit 0) [.sl, (.int .i64)] []
 (.call false 26 [(.agg [(.sl 1 (.lit 0) (.var 2) (.var 3)), (.int .i64 (.var 4))])] (.int .i64) []
 (.ret (.int .i64 (.var 5)) [])))
theorem S_multi_Add_1 : FnIs Tryd.prog n_multi_Add_1 [.ptr] T_multi_Add_1 := ⟨Tryd.f73, [], 4000, Tryd.func73, by kernel_rfl⟩
/-! 74 ablaut/multi.Add$2  -/
abbrev n_multi_Add_2 : FuncId := 74
def T_multi_Add_2 : Tree :=
 (.load 0 (.lit 0) [.sl] []
 (.call false 56 [(.int .i64 (.lit 7)), (.sl 1 (.lit 0) (.var 2) (.var 3))] (.int .i64) []
 (.ret (.int .i64 (.var 4)) [])))
theorem S_multi_Add_2 : FnIs Tryd.prog n_multi_Add_2 [.ptr] T_multi_Add_2 := ⟨Tryd.f74, [], 4000, Tryd.func74, by kernel_rfl⟩
/-! 75 ablaut/multi.Add$3  -/
abbrev n_multi_Add_3 : FuncId := 75
def T_multi_Add_3 : Tree :=
 (.load 0 (.lit 0) [.sl] []
 (.call false 70 [(.sl 1 (.lit 0) (.var 2) (.var 3))] (.int .i64) []
 (.ret (.int .i64 (.var 4)) [])))
theorem S_multi_Add_3 : FnIs Tryd.prog n_multi_Add_3 [.ptr] T_multi_Add_3 := ⟨Tryd.f75, [], 4000, Tryd.func75, by kernel_rfl⟩
/-! 76 ablaut/multi.Add$4  -/
abbrev n_multi_Add_4 : FuncId := 76
def T_multi_Add_4 : Tree :=
 (.load 0 (.lit 0) [.sl] []
 (.load 1 (.lit 0) [.sl] []
 (.call false 32 [(.sl 2 (.lit 0) (.var 3) (.var 4)), (.sl 5 (.lit 0) (.var 6) (.var 7))] (.int .i64) []
 (.ret (.int .i64 (.var 8)) []))))
theorem S_multi_Add_4 : FnIs Tryd.prog n_multi_Add_4 [.ptr, .ptr] T_multi_Add_4 := ⟨Tryd.f76, [], 4000, Tryd.func76, by kernel_rfl⟩
/-! 77 slices.Clone[[][]ablaut/api.Sound,[]ablaut/api.Sound]  -/
abbrev n_slices_Clone_____api_Sound___api_Sound_ : FuncId := 77
def T_slices_Clone_____api_Sound___api_Sound_ : Tree :=
 (.extp ⟨(.binOp .eql 22 (.tmp 0) (.const (.bool true)) 22), 4, [(.sl 0 (.lit 0) (.var 1) (.var 2)), (.cst (.slice none 0 0))]⟩ .bool []
 (.ite (.var 3)
  (.ret (.cst (.slice none 0 0)) [])
  (.alloc
  (.ext false ⟨(.call ⟨.builtin .append, #[(.tmp 0), (.tmp 0)], #[22, 22]⟩), 22, [(.slc 0 0 0 0), (.sl 0 (.lit 0) (.var 1) (.var 2))]⟩ .sl [⟨[], 46⟩]
  (.ret (.sl 4 (.lit 0) (.var 5) (.var 6)) [⟨[], 46⟩])))))
theorem S_slices_Clone_____api_Sound___api_Sound_ : FnIs Tryd.prog n_slices_Clone_____api_Sound___api_Sound_ [.sl] T_slices_Clone_____api_Sound___api_Sound_ := ⟨Tryd.f77, [], 4000, Tryd.func77, by kernel_rfl⟩
/-! 82 ablaut/ablautref18.copied  -/
end Go.Proofs.YtialbhieaipcgaaDoor
