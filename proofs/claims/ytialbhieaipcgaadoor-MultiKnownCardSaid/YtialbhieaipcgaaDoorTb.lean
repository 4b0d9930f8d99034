/- The trees of this seat's functions, printed by a program of mine (SyGen), checked here by the kernel. -/
import Derived.Test.YtialbhieaipcgaaDoorSyDef
import Derived.Test.YtialbhieaipcgaaDoorProg
import Derived.KernelRfl
set_option maxRecDepth 100000
namespace Go.Proofs.YtialbhieaipcgaaDoor
open Go Go.Sy
/-! 17 ablaut/multi.Score  -/
abbrev n_multi_Score : FuncId := 17
def T_multi_Score : Tree :=
 (.alloc
 (.alloc
 (.alloc
 (.alloc
 (.call false 46 [(.slc 3 0 2 2)] (.int .i64) [⟨[(.sl 0 (.lit 0) (.var 1) (.var 2))], 22⟩, ⟨[(.sl 3 (.lit 0) (.var 4) (.var 5))], 23⟩, ⟨[(.sl 6 (.lit 0) (.var 7) (.var 8)), (.int .i64 (.var 9))], 26⟩, ⟨[(.fn (.func 47) [] [(.loc 2 0)]), (.fn (.func 48) [] [(.loc 0 0), (.loc 1 0)])], 73⟩]
 (.ite (.cmp .neq (.var 10) (.lit 0))
  (.ret (.tup [(.int .i64 (.lit 0)), (.int .i64 (.var 10))]) [⟨[(.sl 0 (.lit 0) (.var 1) (.var 2))], 22⟩, ⟨[(.sl 3 (.lit 0) (.var 4) (.var 5))], 23⟩, ⟨[(.sl 6 (.lit 0) (.var 7) (.var 8)), (.int .i64 (.var 9))], 26⟩, ⟨[(.fn (.func 47) [] [(.loc 2 0)]), (.fn (.func 48) [] [(.loc 0 0), (.loc 1 0)])], 73⟩])
  (.call false 50 [(.sl 0 (.lit 0) (.var 1) (.var 2)), (.agg [(.sl 6 (.lit 0) (.var 7) (.var 8)), (.int .i64 (.var 9))])] .val [⟨[(.sl 0 (.lit 0) (.var 1) (.var 2))], 22⟩, ⟨[(.sl 3 (.lit 0) (.var 4) (.var 5))], 23⟩, ⟨[(.sl 6 (.lit 0) (.var 7) (.var 8)), (.int .i64 (.var 9))], 26⟩, ⟨[(.fn (.func 47) [] [(.loc 2 0)]), (.fn (.func 48) [] [(.loc 0 0), (.loc 1 0)])], 73⟩]
  (.call false 49 [(.sl 3 (.lit 0) (.var 4) (.var 5)), (.val 11)] (.int .i64) [⟨[(.sl 0 (.lit 0) (.var 1) (.var 2))], 22⟩, ⟨[(.sl 3 (.lit 0) (.var 4) (.var 5))], 23⟩, ⟨[(.sl 6 (.lit 0) (.var 7) (.var 8)), (.int .i64 (.var 9))], 26⟩, ⟨[(.fn (.func 47) [] [(.loc 2 0)]), (.fn (.func 48) [] [(.loc 0 0), (.loc 1 0)])], 73⟩]
  (.ret (.tup [(.int .i64 (.var 12)), (.int .i64 (.lit 0))]) [⟨[(.sl 0 (.lit 0) (.var 1) (.var 2))], 22⟩, ⟨[(.sl 3 (.lit 0) (.var 4) (.var 5))], 23⟩, ⟨[(.sl 6 (.lit 0) (.var 7) (.var 8)), (.int .i64 (.var 9))], 26⟩, ⟨[(.fn (.func 47) [] [(.loc 2 0)]), (.fn (.func 48) [] [(.loc 0 0), (.loc 1 0)])], 73⟩])))))))))
theorem S_multi_Score : FnIs Tryd.prog n_multi_Score [.sl, .sl, (.agg [.sl, (.int .i64)])] T_multi_Score := ⟨Tryd.f17, [], 4000, Tryd.func17, by kernel_rfl⟩
/-! 29 ablaut/multi.Without  -/
abbrev n_multi_Without : FuncId := 29
def T_multi_Without : Tree :=
 (.call false 71 [(.sl 0 (.lit 0) (.var 1) (.var 2)), (.sl 3 (.lit 0) (.var 4) (.var 5)), (.int .i64 (.var 6))] (.int .i64) []
 (.ite (.cmp .neq (.var 7) (.lit 0))
  (.ret (.tup [(.cst (.slice none 0 0)), (.int .i64 (.var 7))]) [])
  (.call false 72 [(.sl 3 (.lit 0) (.var 4) (.var 5)), (.int .i64 (.var 6))] .sl []
  (.ret (.tup [(.sl 8 (.lit 0) (.var 9) (.var 10)), (.int .i64 (.lit 0))]) []))))
theorem S_multi_Without : FnIs Tryd.prog n_multi_Without [.sl, .sl, (.int .i64)] T_multi_Without := ⟨Tryd.f29, [], 4000, Tryd.func29, by kernel_rfl⟩
/-! 32 ablaut/multi.Check  -/
abbrev n_multi_Check : FuncId := 32
def T_multi_Check : Tree :=
 (.call false 56 [(.int .i64 (.lit 8)), (.sl 0 (.lit 0) (.var 1) (.var 2))] (.int .i64) []
 (.ite (.cmp .neq (.var 6) (.lit 0))
  (.ret (.int .i64 (.var 6)) [])
  (.call false 80 [(.sl 0 (.lit 0) (.var 1) (.var 2)), (.sl 3 (.lit 0) (.var 4) (.var 5))] .bool []
  (.ite (.not (.var 7))
   (.ret (.int .i64 (.lit 8)) [])
   (.ret (.int .i64 (.lit 0)) [])))))
theorem S_multi_Check : FnIs Tryd.prog n_multi_Check [.sl, .sl] T_multi_Check := ⟨Tryd.f32, [], 4000, Tryd.func32, by kernel_rfl⟩
/-! 35 ablaut/multi.Row  -/
abbrev n_multi_Row : FuncId := 35
def T_multi_Row : Tree :=
 (.call false 71 [(.sl 0 (.lit 0) (.var 1) (.var 2)), (.sl 3 (.lit 0) (.var 4) (.var 5)), (.int .i64 (.var 6))] (.int .i64) []
 (.ite (.cmp .neq (.var 7) (.lit 0))
  (.ret (.tup [(.cst (.slice none 0 0)), (.int .i64 (.var 7))]) [])
  (.chk (.cmp .geq (.var 4) (.lit 0))
  (.loop 0 [.sl, (.int .i64)] [(.cst (.slice none 0 0)), (.int .i64 (.lit 0))] [] []
   (.ite (.cmp .lss (.var 11) (.var 4))
    (.chk (.pick (.cmp .geq (.var 11) (.lit 0)) (.pick (.cmp .lss (.var 11) (.var 4)) (.some 3) (.lit false)) (.lit false))
    (.load 3 (.off (.var 11) 1 (.lit 0)) [.sl] []
    (.chk (.pick (.cmp .geq (.var 6) (.lit 0)) (.pick (.cmp .lss (.var 6) (.var 1)) (.some 0) (.lit false)) (.lit false))
    (.load 0 (.off (.var 6) 1 (.lit 0)) [.sl] []
    (.chk (.pick (.cmp .geq (.var 6) (.lit 0)) (.pick (.cmp .lss (.var 6) (.var 13)) (.some 12) (.lit false)) (.lit false))
    (.load 12 (.off (.var 6) 1 (.lit 0)) [(.int .i64)] []
    (.call false 84 [(.sl 15 (.lit 0) (.var 16) (.var 17)), (.int .i64 (.var 18))] (.agg [(.int .i64), (.int .u32), (.int .u32)]) []
    (.alloc
    (.ext false ⟨(.call ⟨.builtin .append, #[(.tmp 0), (.tmp 0)], #[55, 55]⟩), 55, [(.sl 8 (.lit 0) (.var 9) (.var 10)), (.slc 0 0 1 1)]⟩ .sl [⟨[(.int .i64 (.var 19)), (.int .u32 (.var 20)), (.int .u32 (.var 21))], 67⟩]
    (.again 0 0 [.sl, (.int .i64)] [(.sl 22 (.lit 0) (.var 23) (.var 24)), (.int .i64 (.bin .add .i64 (.var 11) (.lit 1)))] [⟨[(.int .i64 (.var 19)), (.int .u32 (.var 20)), (.int .u32 (.var 21))], 67⟩]))))))))))
    (.ret (.tup [(.sl 8 (.lit 0) (.var 9) (.var 10)), (.int .i64 (.lit 0))]) []))))))
theorem S_multi_Row : FnIs Tryd.prog n_multi_Row [.sl, .sl, (.int .i64)] T_multi_Row := ⟨Tryd.f35, [], 4000, Tryd.func35, by kernel_rfl⟩
/-! 37 ablaut/multi.Cells  -/
/-! 46 ablaut/multi.first  -/
abbrev n_multi_first : FuncId := 46
def T_multi_first : Tree :=
 (.chk (.cmp .geq (.var 1) (.lit 0))
 (.loop 0 [(.int .i64), (.int .i64)] [(.int .i64 (.lit 0)), (.int .i64 (.lit 0))] [] []
  (.ite (.cmp .lss (.var 4) (.var 1))
   (.chk (.pick (.cmp .geq (.var 4) (.lit 0)) (.pick (.cmp .lss (.var 4) (.var 1)) (.some 0) (.lit false)) (.lit false))
   (.load 0 (.off (.var 4) 1 (.lit 0)) [.val] []
   (.callv false (.val 5) [] (.int .i64) []
   (.ite (.cmp .neq (.var 6) (.lit 0))
    (.ret (.int .i64 (.var 6)) [])
    (.again 0 0 [(.int .i64), (.int .i64)] [(.int .i64 (.var 3)), (.int .i64 (.bin .add .i64 (.var 4) (.lit 1)))] [])))))
   (.ret (.int .i64 (.lit 0)) []))))
theorem S_multi_first : FnIs Tryd.prog n_multi_first [.sl] T_multi_first := ⟨Tryd.f46, [], 4000, Tryd.func46, by kernel_rfl⟩
/-! 47 ablaut/multi.Score$1  -/
abbrev n_multi_Score_1 : FuncId := 47
def T_multi_Score_1 : Tree :=
 (.load 0 (.lit 0) [.sl, (.int .i64)] []
 (.call false 26 [(.agg [(.sl 1 (.lit 0) (.var 2) (.var 3)), (.int .i64 (.var 4))])] (.int .i64) []
 (.ret (.int .i64 (.var 5)) [])))
theorem S_multi_Score_1 : FnIs Tryd.prog n_multi_Score_1 [.ptr] T_multi_Score_1 := ⟨Tryd.f47, [], 4000, Tryd.func47, by kernel_rfl⟩
/-! 48 ablaut/multi.Score$2  -/
abbrev n_multi_Score_2 : FuncId := 48
def T_multi_Score_2 : Tree :=
 (.load 0 (.lit 0) [.sl] []
 (.load 1 (.lit 0) [.sl] []
 (.call false 32 [(.sl 2 (.lit 0) (.var 3) (.var 4)), (.sl 5 (.lit 0) (.var 6) (.var 7))] (.int .i64) []
 (.ret (.int .i64 (.var 8)) []))))
theorem S_multi_Score_2 : FnIs Tryd.prog n_multi_Score_2 [.ptr, .ptr] T_multi_Score_2 := ⟨Tryd.f48, [], 4000, Tryd.func48, by kernel_rfl⟩
/-! 49 ablaut/multi.total  -/
abbrev n_multi_total : FuncId := 49
def T_multi_total : Tree :=
 (.chk (.cmp .geq (.var 1) (.lit 0))
 (.loop 0 [(.int .i64), (.int .i64)] [(.int .i64 (.lit 0)), (.int .i64 (.lit 0))] [] []
  (.ite (.cmp .lss (.var 5) (.var 1))
   (.chk (.pick (.cmp .geq (.var 5) (.lit 0)) (.pick (.cmp .lss (.var 5) (.var 1)) (.some 0) (.lit false)) (.lit false))
   (.load 0 (.off (.var 5) 1 (.lit 0)) [.sl] []
   (.callv false (.val 3) [(.sl 6 (.lit 0) (.var 7) (.var 8))] (.int .i64) []
   (.again 0 0 [(.int .i64), (.int .i64)] [(.int .i64 (.bin .add .i64 (.var 4) (.var 9))), (.int .i64 (.bin .add .i64 (.var 5) (.lit 1)))] []))))
   (.ret (.int .i64 (.var 4)) []))))
theorem S_multi_total : FnIs Tryd.prog n_multi_total [.sl, .val] T_multi_total := ⟨Tryd.f49, [], 4000, Tryd.func49, by kernel_rfl⟩
/-! 50 ablaut/multi.pricer  -/
abbrev n_multi_pricer : FuncId := 50
def T_multi_pricer : Tree :=
 (.alloc
 (.alloc
 (.ret (.fn (.func 85) [] [(.loc 1 0), (.loc 0 0)]) [⟨[(.sl 0 (.lit 0) (.var 1) (.var 2))], 22⟩, ⟨[(.sl 3 (.lit 0) (.var 4) (.var 5)), (.int .i64 (.var 6))], 26⟩])))
theorem S_multi_pricer : FnIs Tryd.prog n_multi_pricer [.sl, (.agg [.sl, (.int .i64)])] T_multi_pricer := ⟨Tryd.f50, [], 4000, Tryd.func50, by kernel_rfl⟩
/-! 56 ablaut/multi.words  -/
abbrev n_multi_words : FuncId := 56
def T_multi_words : Tree :=
 (.chk (.cmp .geq (.var 2) (.lit 0))
 (.ite (.cmp .gtr (.var 2) (.var 0))
  (.ret (.int .i64 (.lit 12)) [])
  (.chk (.cmp .geq (.var 2) (.lit 0))
  (.loop 0 [(.int .i64), (.int .i64)] [(.int .i64 (.lit 0)), (.int .i64 (.lit 0))] [] []
   (.ite (.cmp .lss (.var 5) (.var 2))
    (.chk (.pick (.cmp .geq (.var 5) (.lit 0)) (.pick (.cmp .lss (.var 5) (.var 2)) (.some 1) (.lit false)) (.lit false))
    (.load 1 (.off (.var 5) 1 (.lit 0)) [.sl] []
    (.call false 70 [(.sl 6 (.lit 0) (.var 7) (.var 8))] (.int .i64) []
    (.ite (.cmp .neq (.var 9) (.lit 0))
     (.ret (.int .i64 (.var 9)) [])
     (.again 0 0 [(.int .i64), (.int .i64)] [(.int .i64 (.var 4)), (.int .i64 (.bin .add .i64 (.var 5) (.lit 1)))] [])))))
    (.ret (.int .i64 (.lit 0)) []))))))
theorem S_multi_words : FnIs Tryd.prog n_multi_words [(.int .i64), .sl] T_multi_words := ⟨Tryd.f56, [], 4000, Tryd.func56, by kernel_rfl⟩
/-! 71 ablaut/multi.named  -/
abbrev n_multi_named : FuncId := 71
def T_multi_named : Tree :=
 (.call false 32 [(.sl 0 (.lit 0) (.var 1) (.var 2)), (.sl 3 (.lit 0) (.var 4) (.var 5))] (.int .i64) []
 (.ite (.cmp .eql (.var 7) (.lit 0))
  (.ite (.cmp .lss (.var 6) (.lit 0))
   (.ret (.int .i64 (.lit 3)) [])
   (.chk (.cmp .geq (.var 1) (.lit 0))
   (.ite (.cmp .geq (.var 6) (.var 1))
    (.ret (.int .i64 (.lit 3)) [])
    (.ret (.int .i64 (.var 7)) []))))
  (.ret (.int .i64 (.var 7)) [])))
theorem S_multi_named : FnIs Tryd.prog n_multi_named [.sl, .sl, (.int .i64)] T_multi_named := ⟨Tryd.f71, [], 4000, Tryd.func71, by kernel_rfl⟩
/-! 72 ablaut/multi.without  -/
abbrev n_multi_without : FuncId := 72
def T_multi_without : Tree :=
 (.chk (.cmp .geq (.var 1) (.lit 0))
 (.loop 0 [.sl, (.int .i64)] [(.cst (.slice none 0 0)), (.int .i64 (.lit 0))] [] []
  (.ite (.cmp .lss (.var 7) (.var 1))
   (.chk (.pick (.cmp .geq (.var 7) (.lit 0)) (.pick (.cmp .lss (.var 7) (.var 1)) (.some 0) (.lit false)) (.lit false))
   (.load 0 (.off (.var 7) 1 (.lit 0)) [.sl] []
   (.call false 81 [(.sl 8 (.lit 0) (.var 9) (.var 10))] .sl []
   (.call false 94 [(.sl 11 (.lit 0) (.var 12) (.var 13)), (.int .i64 (.var 3)), (.int .i64 (.bin .add .i64 (.var 3) (.lit 1)))] .sl []
   (.call false 95 [(.sl 14 (.lit 0) (.var 15) (.var 16)), (.cst (.func (.func 96) #[] #[]))] .bool []
   (.join 1 [.sl] []
    (.ite (.var 17)
     (.alloc
     (.ext false ⟨(.call ⟨.builtin .append, #[(.tmp 0), (.tmp 0)], #[23, 23]⟩), 23, [(.sl 4 (.lit 0) (.var 5) (.var 6)), (.slc 0 0 1 1)]⟩ .sl [⟨[(.sl 14 (.lit 0) (.var 15) (.var 16))], 49⟩]
     (.again 1 0 [.sl] [(.sl 18 (.lit 0) (.var 19) (.var 20))] [⟨[(.sl 14 (.lit 0) (.var 15) (.var 16))], 49⟩])))
     (.again 1 0 [.sl] [(.sl 4 (.lit 0) (.var 5) (.var 6))] []))
   (.again 0 0 [.sl, (.int .i64)] [(.sl 18 (.lit 0) (.var 19) (.var 20)), (.int .i64 (.bin .add .i64 (.var 7) (.lit 1)))] [])))))))
   (.ret (.sl 4 (.lit 0) (.var 5) (.var 6)) []))))
theorem S_multi_without : FnIs Tryd.prog n_multi_without [.sl, (.int .i64)] T_multi_without := ⟨Tryd.f72, [{ key := 7, tmps := [], join := true, dead := 266334284 }], 4000, Tryd.func72, by kernel_rfl⟩
/-! 80 ablaut/multi.aligned  -/
abbrev n_multi_aligned : FuncId := 80
def T_multi_aligned : Tree :=
 (.chk (.cmp .geq (.var 1) (.lit 0))
 (.ext false ⟨(.makeSlice 49 (.tmp 0) (.tmp 0)), 49, [(.int .i64 (.var 1)), (.int .i64 (.var 1))]⟩ .sl []
 (.chk (.cmp .geq (.var 4) (.lit 0))
 (.loop 0 [.bool, (.int .i64)] [(.bool (.lit false)), (.int .i64 (.lit 0))] [] []
  (.ite (.cmp .lss (.var 10) (.var 4))
   (.chk (.pick (.cmp .geq (.var 10) (.lit 0)) (.pick (.cmp .lss (.var 10) (.var 4)) (.some 3) (.lit false)) (.lit false))
   (.load 3 (.off (.var 10) 1 (.lit 0)) [.sl] []
   (.chk (.cmp .geq (.var 12) (.lit 0))
   (.chk (.cmp .geq (.var 1) (.lit 0))
   (.ite (.cmp .neq (.var 12) (.var 1))
    (.ret (.bool (.lit false)) [])
    (.chk (.cmp .geq (.var 12) (.lit 0))
    (.loop 1 [.bool, .bool, (.int .i64)] [(.bool (.var 9)), (.bool (.lit true)), (.int .i64 (.lit 0))] [] []
     (.ite (.cmp .lss (.var 16) (.var 12))
      (.chk (.pick (.cmp .geq (.var 16) (.lit 0)) (.pick (.cmp .lss (.var 16) (.var 12)) (.some 11) (.lit false)) (.lit false))
      (.load 11 (.off (.var 16) 1 (.lit 0)) [(.int .i64)] []
      (.ite (.cmp .eql (.var 17) (.lit (-1)))
       (.again 1 0 [.bool, .bool, (.int .i64)] [(.bool (.var 14)), (.bool (.var 15)), (.int .i64 (.bin .add .i64 (.var 16) (.lit 1)))] [])
       (.chk (.pick (.cmp .geq (.var 16) (.lit 0)) (.pick (.cmp .lss (.var 16) (.var 7)) (.some 6) (.lit false)) (.lit false))
       (.load 6 (.off (.var 16) 1 (.lit 0)) [(.int .i64)] []
       (.ite (.cmp .eql (.var 17) (.var 18))
        (.chk (.pick (.cmp .geq (.var 16) (.lit 0)) (.pick (.cmp .lss (.var 16) (.var 7)) (.some 6) (.lit false)) (.lit false))
        (.load 6 (.off (.var 16) 1 (.lit 0)) [(.int .i64)] []
        (.chk (.pick (.cmp .geq (.var 16) (.lit 0)) (.pick (.cmp .lss (.var 16) (.var 7)) (.some 6) (.lit false)) (.lit false))
        (.store false 6 (.off (.var 16) 1 (.lit 0)) [(.int .i64 (.bin .add .i64 (.var 19) (.lit 1)))] []
        (.again 1 0 [.bool, .bool, (.int .i64)] [(.bool (.var 14)), (.bool (.lit false)), (.int .i64 (.bin .add .i64 (.var 16) (.lit 1)))] [])))))
        (.ret (.bool (.lit false)) [])))))))
      (.ite (.var 15)
       (.ret (.bool (.lit false)) [])
       (.again 0 0 [.bool, (.int .i64)] [(.bool (.var 14)), (.int .i64 (.bin .add .i64 (.var 10) (.lit 1)))] []))))))))))
   (.call false 98 [(.sl 0 (.lit 0) (.var 1) (.var 2)), (.sl 6 (.lit 0) (.var 7) (.var 8)), (.cst (.func (.func 99) #[] #[]))] .bool []
   (.ret (.bool (.var 11)) [])))))))
theorem S_multi_aligned : FnIs Tryd.prog n_multi_aligned [.sl, .sl] T_multi_aligned := ⟨Tryd.f80, [], 4000, Tryd.func80, by kernel_rfl⟩
/-! 81 slices.Clone[[]int,int]  -/
abbrev n_slices_Clone___int_int_ : FuncId := 81
def T_slices_Clone___int_int_ : Tree :=
 (.extp ⟨(.binOp .eql 49 (.tmp 0) (.const (.bool true)) 49), 4, [(.sl 0 (.lit 0) (.var 1) (.var 2)), (.cst (.slice none 0 0))]⟩ .bool []
 (.ite (.var 3)
  (.ret (.cst (.slice none 0 0)) [])
  (.alloc
  (.ext false ⟨(.call ⟨.builtin .append, #[(.tmp 0), (.tmp 0)], #[49, 49]⟩), 49, [(.slc 0 0 0 0), (.sl 0 (.lit 0) (.var 1) (.var 2))]⟩ .sl [⟨[], 3⟩]
  (.ret (.sl 4 (.lit 0) (.var 5) (.var 6)) [⟨[], 3⟩])))))
theorem S_slices_Clone___int_int_ : FnIs Tryd.prog n_slices_Clone___int_int_ [.sl] T_slices_Clone___int_int_ := ⟨Tryd.f81, [], 4000, Tryd.func81, by kernel_rfl⟩
/-! 84 ablaut/multi.cell  -/
abbrev n_multi_cell : FuncId := 84
def T_multi_cell : Tree :=
 (.alloc
 (.ite (.cmp .eql (.var 3) (.lit (-1)))
  (.ret (.agg [(.int .i64 (.lit 1)), (.int .u32 (.lit 0)), (.int .u32 (.lit 0))]) [⟨[(.int .i64 (.lit 1)), (.int .u32 (.lit 0)), (.int .u32 (.lit 0))], 67⟩])
  (.chk (.pick (.cmp .geq (.var 3) (.lit 0)) (.pick (.cmp .lss (.var 3) (.var 1)) (.some 0) (.lit false)) (.lit false))
  (.load 0 (.off (.var 3) 2 (.lit 0)) [(.int .u32), (.int .u32)] [⟨[(.int .i64 (.lit 0)), (.int .u32 (.lit 0)), (.int .u32 (.lit 0))], 67⟩]
  (.ret (.agg [(.int .i64 (.lit 2)), (.int .u32 (.var 4)), (.int .u32 (.var 5))]) [⟨[(.int .i64 (.lit 2)), (.int .u32 (.var 4)), (.int .u32 (.var 5))], 67⟩])))))
theorem S_multi_cell : FnIs Tryd.prog n_multi_cell [.sl, (.int .i64)] T_multi_cell := ⟨Tryd.f84, [], 4000, Tryd.func84, by kernel_rfl⟩
/-! 85 ablaut/multi.pricer$1  -/
abbrev n_multi_pricer_1 : FuncId := 85
def T_multi_pricer_1 : Tree :=
 (.chk (.cmp .geq (.var 1) (.lit 0))
 (.loop 0 [(.int .i64), (.int .i64)] [(.int .i64 (.lit 0)), (.int .i64 (.lit 0))] [] []
  (.ite (.cmp .lss (.var 6) (.var 1))
   (.chk (.pick (.cmp .geq (.var 6) (.lit 0)) (.pick (.cmp .lss (.var 6) (.var 1)) (.some 0) (.lit false)) (.lit false))
   (.load 0 (.off (.var 6) 1 (.lit 0)) [(.int .i64)] []
   (.chk (.pick (.cmp .leq (.lit 0) (.var 6)) (.cmp .leq (.var 6) (.var 2)) (.lit false))
   (.chk (.cmp .geq (.var 6) (.lit 0))
   (.loop 1 [(.int .i64), (.int .i64)] [(.int .i64 (.var 5)), (.int .i64 (.lit 0))] [] []
    (.ite (.cmp .lss (.var 9) (.var 6))
     (.chk (.pick (.cmp .geq (.ifeq (.var 2) (.lit 0) (.lit 0) (.lit 0)) (.lit 0)) (.pick (.cmp .geq (.var 9) (.lit 0)) (.pick (.cmp .lss (.var 9) (.var 6)) (.some 0) (.lit false)) (.lit false)) (.lit false))
     (.load 0 (.off (.var 9) 1 (.ifeq (.var 2) (.lit 0) (.lit 0) (.lit 0))) [(.int .i64)] []
     (.ite (.pick (.cmp .eql (.var 7) (.lit (-1))) (.cmp .eql (.var 10) (.lit (-1))) (.lit false))
      (.again 1 0 [(.int .i64), (.int .i64)] [(.int .i64 (.var 8)), (.int .i64 (.bin .add .i64 (.var 9) (.lit 1)))] [])
      (.ite (.pick (.cmp .eql (.var 7) (.lit (-1))) (.lit true) (.cmp .eql (.var 10) (.lit (-1))))
       (.chk (.some 3)
       (.load 3 (.lit 1) [(.int .i64)] []
       (.again 1 0 [(.int .i64), (.int .i64)] [(.int .i64 (.bin .add .i64 (.var 8) (.var 11))), (.int .i64 (.bin .add .i64 (.var 9) (.lit 1)))] [])))
       (.load 4 (.lit 0) [.sl] []
       (.chk (.pick (.cmp .geq (.var 6) (.lit 0)) (.pick (.cmp .lss (.var 6) (.var 12)) (.some 11) (.lit false)) (.lit false))
       (.load 11 (.off (.var 6) 1 (.lit 0)) [.sl] []
       (.chk (.pick (.cmp .geq (.var 7) (.lit 0)) (.pick (.cmp .lss (.var 7) (.var 15)) (.some 14) (.lit false)) (.lit false))
       (.load 14 (.off (.var 7) 2 (.lit 0)) [(.int .u32), (.int .u32)] []
       (.load 4 (.lit 0) [.sl] []
       (.chk (.pick (.cmp .geq (.var 9) (.lit 0)) (.pick (.cmp .lss (.var 9) (.var 20)) (.some 19) (.lit false)) (.lit false))
       (.load 19 (.off (.var 9) 1 (.lit 0)) [.sl] []
       (.chk (.pick (.cmp .geq (.var 10) (.lit 0)) (.pick (.cmp .lss (.var 10) (.var 23)) (.some 22) (.lit false)) (.lit false))
       (.load 22 (.off (.var 10) 2 (.lit 0)) [(.int .u32), (.int .u32)] []
       (.load 3 (.lit 0) [.sl, (.int .i64)] []
       (.call false 86 [(.agg [(.int .u32 (.var 17)), (.int .u32 (.var 18))]), (.agg [(.int .u32 (.var 25)), (.int .u32 (.var 26))]), (.agg [(.sl 27 (.lit 0) (.var 28) (.var 29)), (.int .i64 (.var 30))])] (.tup [(.int .i64), (.int .i64)]) []
       (.again 1 0 [(.int .i64), (.int .i64)] [(.int .i64 (.bin .add .i64 (.var 8) (.var 31))), (.int .i64 (.bin .add .i64 (.var 9) (.lit 1)))] [])))))))))))))))))
     (.again 0 0 [(.int .i64), (.int .i64)] [(.int .i64 (.var 8)), (.int .i64 (.bin .add .i64 (.var 6) (.lit 1)))] [])))))))
   (.ret (.int .i64 (.var 5)) []))))
theorem S_multi_pricer_1 : FnIs Tryd.prog n_multi_pricer_1 [.sl, .ptr, .ptr] T_multi_pricer_1 := ⟨Tryd.f85, [], 4000, Tryd.func85, by kernel_rfl⟩
/-! 94 slices.Delete[[]int,int]  -/
abbrev n_slices_Delete___int_int_ : FuncId := 94
def T_slices_Delete___int_int_ : Tree :=
 (.chk (.cmp .geq (.var 1) (.lit 0))
 (.extp ⟨(.slice 49 (.tmp 0) (some (.tmp 0)) (some (.tmp 0)) (some (.tmp 0))), 49, [(.sl 0 (.lit 0) (.var 1) (.var 2)), (.int .i64 (.var 3)), (.int .i64 (.var 4)), (.int .i64 (.var 1))]⟩ .sl []
 (.ite (.cmp .eql (.var 3) (.var 4))
  (.ret (.sl 0 (.lit 0) (.var 1) (.var 2)) [])
  (.chk (.cmp .geq (.var 1) (.lit 0))
  (.chk (.pick (.cmp .leq (.lit 0) (.var 3)) (.cmp .leq (.var 3) (.var 2)) (.lit false))
  (.chk (.pick (.cmp .leq (.lit 0) (.var 4)) (.pick (.cmp .leq (.var 4) (.var 1)) (.cmp .leq (.var 1) (.var 2)) (.lit false)) (.lit false))
  (.ext false ⟨(.call ⟨.builtin .append, #[(.tmp 0), (.tmp 0)], #[49, 49]⟩), 49, [(.sl 0 (.ifeq (.var 2) (.lit 0) (.lit 0) (.lit 0)) (.var 3) (.var 2)), (.sl 0 (.ifeq (.var 2) (.var 4) (.lit 0) (.off (.var 4) 1 (.lit 0))) (.dif (.var 1) (.var 4)) (.dif (.var 2) (.var 4)))]⟩ .sl []
  (.chk (.cmp .geq (.var 9) (.lit 0))
  (.chk (.pick (.cmp .leq (.lit 0) (.var 9)) (.pick (.cmp .leq (.var 9) (.var 1)) (.cmp .leq (.var 1) (.var 10)) (.lit false)) (.lit false))
  (.ext false ⟨(.call ⟨.builtin .clear, #[(.tmp 0)], #[49]⟩), 0, [(.sl 8 (.ifeq (.var 10) (.var 9) (.lit 0) (.off (.var 9) 1 (.lit 0))) (.dif (.var 1) (.var 9)) (.dif (.var 10) (.var 9)))]⟩ (.tup []) []
  (.ret (.sl 8 (.lit 0) (.var 9) (.var 10)) [])))))))))))
theorem S_slices_Delete___int_int_ : FnIs Tryd.prog n_slices_Delete___int_int_ [.sl, (.int .i64), (.int .i64)] T_slices_Delete___int_int_ := ⟨Tryd.f94, [], 4000, Tryd.func94, by kernel_rfl⟩
/-! 95 slices.ContainsFunc[[]int,int]  -/
abbrev n_slices_ContainsFunc___int_int_ : FuncId := 95
def T_slices_ContainsFunc___int_int_ : Tree :=
 (.call false 107 [(.sl 0 (.lit 0) (.var 1) (.var 2)), (.val 3)] (.int .i64) []
 (.ret (.bool (.cmp .geq (.var 4) (.lit 0))) []))
theorem S_slices_ContainsFunc___int_int_ : FnIs Tryd.prog n_slices_ContainsFunc___int_int_ [.sl, .val] T_slices_ContainsFunc___int_int_ := ⟨Tryd.f95, [], 4000, Tryd.func95, by kernel_rfl⟩
/-! 96 ablaut/multi.without$1  -/
abbrev n_multi_without_1 : FuncId := 96
def T_multi_without_1 : Tree :=
 (.ret (.bool (.cmp .neq (.var 0) (.lit (-1)))) [])
theorem S_multi_without_1 : FnIs Tryd.prog n_multi_without_1 [(.int .i64)] T_multi_without_1 := ⟨Tryd.f96, [], 4000, Tryd.func96, by kernel_rfl⟩
/-! 98 slices.EqualFunc[[][]ablaut/api.Sound,[]int,[]ablaut/api.Sound,int]  -/
abbrev n_slices_EqualFunc_____api_Sound___int___api_Sound_int_ : FuncId := 98
def T_slices_EqualFunc_____api_Sound___int___api_Sound_int_ : Tree :=
 (.chk (.cmp .geq (.var 1) (.lit 0))
 (.chk (.cmp .geq (.var 4) (.lit 0))
 (.ite (.cmp .neq (.var 1) (.var 4))
  (.ret (.bool (.lit false)) [])
  (.chk (.cmp .geq (.var 1) (.lit 0))
  (.loop 0 [.bool, (.int .i64)] [(.bool (.lit false)), (.int .i64 (.lit 0))] [] []
   (.ite (.cmp .lss (.var 8) (.var 1))
    (.chk (.pick (.cmp .geq (.var 8) (.lit 0)) (.pick (.cmp .lss (.var 8) (.var 1)) (.some 0) (.lit false)) (.lit false))
    (.load 0 (.off (.var 8) 1 (.lit 0)) [.sl] []
    (.chk (.pick (.cmp .geq (.var 8) (.lit 0)) (.pick (.cmp .lss (.var 8) (.var 4)) (.some 3) (.lit false)) (.lit false))
    (.load 3 (.off (.var 8) 1 (.lit 0)) [(.int .i64)] []
    (.callv false (.val 6) [(.sl 9 (.lit 0) (.var 10) (.var 11)), (.int .i64 (.var 12))] .bool []
    (.ite (.not (.var 13))
     (.ret (.bool (.lit false)) [])
     (.again 0 0 [.bool, (.int .i64)] [(.bool (.var 7)), (.int .i64 (.bin .add .i64 (.var 8) (.lit 1)))] [])))))))
    (.ret (.bool (.lit true)) [])))))))
theorem S_slices_EqualFunc_____api_Sound___int___api_Sound_int_ : FnIs Tryd.prog n_slices_EqualFunc_____api_Sound___int___api_Sound_int_ [.sl, .sl, .val] T_slices_EqualFunc_____api_Sound___int___api_Sound_int_ := ⟨Tryd.f98, [], 4000, Tryd.func98, by kernel_rfl⟩
/-! 99 ablaut/multi.aligned$1  -/
abbrev n_multi_aligned_1 : FuncId := 99
def T_multi_aligned_1 : Tree :=
 (.chk (.cmp .geq (.var 1) (.lit 0))
 (.ret (.bool (.cmp .eql (.var 1) (.var 3))) []))
theorem S_multi_aligned_1 : FnIs Tryd.prog n_multi_aligned_1 [.sl, (.int .i64)] T_multi_aligned_1 := ⟨Tryd.f99, [], 4000, Tryd.func99, by kernel_rfl⟩
/-! 107 slices.IndexFunc[[]int,int]  -/
abbrev n_slices_IndexFunc___int_int_ : FuncId := 107
def T_slices_IndexFunc___int_int_ : Tree :=
 (.chk (.cmp .geq (.var 1) (.lit 0))
 (.loop 0 [(.int .i64), (.int .i64)] [(.int .i64 (.lit 0)), (.int .i64 (.lit 0))] [] []
  (.ite (.cmp .lss (.var 5) (.var 1))
   (.chk (.pick (.cmp .geq (.var 5) (.lit 0)) (.pick (.cmp .lss (.var 5) (.var 1)) (.some 0) (.lit false)) (.lit false))
   (.load 0 (.off (.var 5) 1 (.lit 0)) [(.int .i64)] []
   (.callv false (.val 3) [(.int .i64 (.var 6))] .bool []
   (.ite (.var 7)
    (.ret (.int .i64 (.var 5)) [])
    (.again 0 0 [(.int .i64), (.int .i64)] [(.int .i64 (.var 4)), (.int .i64 (.bin .add .i64 (.var 5) (.lit 1)))] [])))))
   (.ret (.int .i64 (.lit (-1))) []))))
theorem S_slices_IndexFunc___int_int_ : FnIs Tryd.prog n_slices_IndexFunc___int_int_ [.sl, .val] T_slices_IndexFunc___int_int_ := ⟨Tryd.f107, [], 4000, Tryd.func107, by kernel_rfl⟩
end Go.Proofs.YtialbhieaipcgaaDoor
