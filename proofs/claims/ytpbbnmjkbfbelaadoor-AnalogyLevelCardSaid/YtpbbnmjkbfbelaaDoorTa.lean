/- The trees of this seat's functions, printed by a program of mine (SyGen), checked here by the kernel. -/
import Derived.Test.YtpbbnmjkbfbelaaDoorSyDef
import Derived.Test.YtpbbnmjkbfbelaaDoorProg
import Derived.KernelRfl
set_option maxRecDepth 100000
namespace Go.Proofs.YtpbbnmjkbfbelaaDoor
open Go Go.Sy
/-! 15 ablaut/ablautref02.Copy  -/
abbrev n_ref02_Copy : FuncId := 15
def T_ref02_Copy : Tree :=
 (.loop 0 [.sl, (.int .i64)] [(.cst (.slice none 0 0)), (.int .i64 (.lit 0))] [] []
  (.chk (.cmp .geq (.var 1) (.lit 0))
  (.ite (.cmp .lss (.var 6) (.var 1))
   (.chk (.pick (.cmp .geq (.var 6) (.lit 0)) (.pick (.cmp .lss (.var 6) (.var 1)) (.some 0) (.lit false)) (.lit false))
   (.load 0 (.off (.var 6) 2 (.lit 0)) [(.int .u32), (.int .u32)] []
   (.alloc
   (.ext false ⟨(.call ⟨.builtin .append, #[(.tmp 0), (.tmp 0)], #[22, 22]⟩), 22, [(.sl 3 (.lit 0) (.var 4) (.var 5)), (.slc 0 0 1 1)]⟩ .sl [⟨[(.int .u32 (.var 7)), (.int .u32 (.var 8))], 31⟩]
   (.again 0 0 [.sl, (.int .i64)] [(.sl 9 (.lit 0) (.var 10) (.var 11)), (.int .i64 (.bin .add .i64 (.var 6) (.lit 1)))] [⟨[(.int .u32 (.var 7)), (.int .u32 (.var 8))], 31⟩])))))
   (.ret (.sl 3 (.lit 0) (.var 4) (.var 5)) []))))
theorem S_ref02_Copy : FnIs Tryd.prog n_ref02_Copy [.sl] T_ref02_Copy := ⟨Tryd.f15, [], 4000, Tryd.func15, by kernel_rfl⟩
/-! 20 ablaut/ablautref02.Equal  -/
abbrev n_ref02_Equal : FuncId := 20
def T_ref02_Equal : Tree :=
 (.chk (.cmp .geq (.var 1) (.lit 0))
 (.chk (.cmp .geq (.var 4) (.lit 0))
 (.ite (.cmp .neq (.var 1) (.var 4))
  (.ret (.bool (.lit false)) [])
  (.loop 0 [.bool, (.int .i64)] [(.bool (.lit false)), (.int .i64 (.lit 0))] [] []
   (.chk (.cmp .geq (.var 1) (.lit 0))
   (.ite (.cmp .lss (.var 7) (.var 1))
    (.chk (.pick (.cmp .geq (.var 7) (.lit 0)) (.pick (.cmp .lss (.var 7) (.var 1)) (.some 0) (.lit false)) (.lit false))
    (.load 0 (.off (.var 7) 2 (.lit 0)) [(.int .u32), (.int .u32)] []
    (.chk (.pick (.cmp .geq (.var 7) (.lit 0)) (.pick (.cmp .lss (.var 7) (.var 4)) (.some 3) (.lit false)) (.lit false))
    (.load 3 (.off (.var 7) 2 (.lit 0)) [(.int .u32), (.int .u32)] []
    (.ite (.not (.pick (.cmp .eql (.var 8) (.var 10)) (.cmp .eql (.var 9) (.var 11)) (.lit false)))
     (.ret (.bool (.lit false)) [])
     (.again 0 0 [.bool, (.int .i64)] [(.bool (.var 6)), (.int .i64 (.bin .add .i64 (.var 7) (.lit 1)))] []))))))
    (.ret (.bool (.lit true)) [])))))))
theorem S_ref02_Equal : FnIs Tryd.prog n_ref02_Equal [.sl, .sl] T_ref02_Equal := ⟨Tryd.f20, [], 4000, Tryd.func20, by kernel_rfl⟩
/-! 28 ablaut/word.Common  -/
abbrev n_word_Common : FuncId := 28
def T_word_Common : Tree :=
 (.chk (.cmp .geq (.var 1) (.lit 0))
 (.chk (.cmp .geq (.var 4) (.lit 0))
 (.loop 0 [(.int .i64)] [(.int .i64 (.lit 0))] [] []
  (.join 1 [.bool] []
   (.ite (.cmp .lss (.var 6) (.mn (.var 1) (.var 4)))
    (.chk (.pick (.cmp .geq (.var 6) (.lit 0)) (.pick (.cmp .lss (.var 6) (.var 1)) (.some 0) (.lit false)) (.lit false))
    (.load 0 (.off (.var 6) 2 (.lit 0)) [(.int .u32), (.int .u32)] []
    (.chk (.pick (.cmp .geq (.var 6) (.lit 0)) (.pick (.cmp .lss (.var 6) (.var 4)) (.some 3) (.lit false)) (.lit false))
    (.load 3 (.off (.var 6) 2 (.lit 0)) [(.int .u32), (.int .u32)] []
    (.again 1 0 [.bool] [(.bool (.pick (.cmp .eql (.var 7) (.var 9)) (.cmp .eql (.var 8) (.var 10)) (.lit false)))] [])))))
    (.again 1 0 [.bool] [(.bool (.lit false))] []))
  (.ite (.var 7)
   (.again 0 0 [(.int .i64)] [(.int .i64 (.bin .add .i64 (.var 6) (.lit 1)))] [])
   (.loop 0 [(.int .i64)] [(.int .i64 (.lit 0))] [] []
    (.join 1 [.bool] []
     (.ite (.cmp .lss (.bin .add .i64 (.var 6) (.var 8)) (.mn (.var 1) (.var 4)))
      (.chk (.cmp .geq (.var 1) (.lit 0))
      (.chk (.pick (.cmp .geq (.bin .sub .i64 (.bin .sub .i64 (.var 1) (.lit 1)) (.var 8)) (.lit 0)) (.pick (.cmp .lss (.bin .sub .i64 (.bin .sub .i64 (.var 1) (.lit 1)) (.var 8)) (.var 1)) (.some 0) (.lit false)) (.lit false))
      (.load 0 (.off (.bin .sub .i64 (.bin .sub .i64 (.var 1) (.lit 1)) (.var 8)) 2 (.lit 0)) [(.int .u32), (.int .u32)] []
      (.chk (.cmp .geq (.var 4) (.lit 0))
      (.chk (.pick (.cmp .geq (.bin .sub .i64 (.bin .sub .i64 (.var 4) (.lit 1)) (.var 8)) (.lit 0)) (.pick (.cmp .lss (.bin .sub .i64 (.bin .sub .i64 (.var 4) (.lit 1)) (.var 8)) (.var 4)) (.some 3) (.lit false)) (.lit false))
      (.load 3 (.off (.bin .sub .i64 (.bin .sub .i64 (.var 4) (.lit 1)) (.var 8)) 2 (.lit 0)) [(.int .u32), (.int .u32)] []
      (.again 1 0 [.bool] [(.bool (.pick (.cmp .eql (.var 9) (.var 11)) (.cmp .eql (.var 10) (.var 12)) (.lit false)))] [])))))))
      (.again 1 0 [.bool] [(.bool (.lit false))] []))
    (.ite (.var 9)
     (.again 0 0 [(.int .i64)] [(.int .i64 (.bin .add .i64 (.var 8) (.lit 1)))] [])
     (.ret (.tup [(.int .i64 (.var 6)), (.int .i64 (.var 8))]) [])))))))))
theorem S_word_Common : FnIs Tryd.prog n_word_Common [.sl, .sl] T_word_Common := ⟨Tryd.f28, [{ key := 200002, tmps := [(27, .bool)], join := true, dead := 279223176762752524 }, { key := 200005, tmps := [(53, .bool)], join := true }], 4000, Tryd.func28, by kernel_rfl⟩
/-! 29 ablaut/word.Equal  -/
abbrev n_word_Equal : FuncId := 29
def T_word_Equal : Tree :=
 (.call false 62 [(.sl 0 (.lit 0) (.var 1) (.var 2)), (.sl 3 (.lit 0) (.var 4) (.var 5))] .bool []
 (.ret (.bool (.var 6)) []))
theorem S_word_Equal : FnIs Tryd.prog n_word_Equal [.sl, .sl] T_word_Equal := ⟨Tryd.f29, [], 4000, Tryd.func29, by kernel_rfl⟩
/-! 38 ablaut/word.Order  -/
abbrev n_word_Order : FuncId := 38
def T_word_Order : Tree :=
 (.call false 69 [(.sl 0 (.lit 0) (.var 1) (.var 2)), (.sl 3 (.lit 0) (.var 4) (.var 5)), (.cst (.func (.func 70) #[] #[]))] (.int .i64) []
 (.ret (.int .i64 (.var 6)) []))
theorem S_word_Order : FnIs Tryd.prog n_word_Order [.sl, .sl] T_word_Order := ⟨Tryd.f38, [], 4000, Tryd.func38, by kernel_rfl⟩
/-! 39 ablaut/word.Reverse  -/
abbrev n_word_Reverse : FuncId := 39
def T_word_Reverse : Tree :=
 (.call false 61 [(.sl 0 (.lit 0) (.var 1) (.var 2))] (.int .i64) []
 (.ite (.cmp .neq (.var 3) (.lit 0))
  (.ret (.tup [(.cst (.slice none 0 0)), (.int .i64 (.var 3))]) [])
  (.call false 57 [(.sl 0 (.lit 0) (.var 1) (.var 2))] .sl []
  (.call false 71 [(.sl 4 (.lit 0) (.var 5) (.var 6))] (.tup []) []
  (.ret (.tup [(.sl 4 (.lit 0) (.var 5) (.var 6)), (.int .i64 (.lit 0))]) [])))))
theorem S_word_Reverse : FnIs Tryd.prog n_word_Reverse [.sl] T_word_Reverse := ⟨Tryd.f39, [], 4000, Tryd.func39, by kernel_rfl⟩
/-! 54 ablaut/ablautref02.Order  -/
abbrev n_ref02_Order : FuncId := 54
def T_ref02_Order : Tree :=
 (.loop 0 [(.int .i64), (.int .i64)] [(.int .i64 (.lit 0)), (.int .i64 (.lit 0))] [] []
  (.join 1 [.bool] []
   (.chk (.cmp .geq (.var 1) (.lit 0))
   (.ite (.cmp .lss (.var 7) (.var 1))
    (.chk (.cmp .geq (.var 4) (.lit 0))
    (.again 1 0 [.bool] [(.bool (.cmp .lss (.var 7) (.var 4)))] []))
    (.again 1 0 [.bool] [(.bool (.lit false))] [])))
  (.ite (.var 8)
   (.chk (.pick (.cmp .geq (.var 7) (.lit 0)) (.pick (.cmp .lss (.var 7) (.var 1)) (.some 0) (.lit false)) (.lit false))
   (.load 0 (.off (.var 7) 2 (.lit 0)) [(.int .u32), (.int .u32)] []
   (.chk (.pick (.cmp .geq (.var 7) (.lit 0)) (.pick (.cmp .lss (.var 7) (.var 4)) (.some 3) (.lit false)) (.lit false))
   (.load 3 (.off (.var 7) 2 (.lit 0)) [(.int .u32), (.int .u32)] []
   (.call false 76 [(.agg [(.int .u32 (.var 9)), (.int .u32 (.var 10))]), (.agg [(.int .u32 (.var 11)), (.int .u32 (.var 12))])] .bool []
   (.ite (.var 13)
    (.ret (.int .i64 (.lit (-1))) [])
    (.chk (.pick (.cmp .geq (.var 7) (.lit 0)) (.pick (.cmp .lss (.var 7) (.var 4)) (.some 3) (.lit false)) (.lit false))
    (.load 3 (.off (.var 7) 2 (.lit 0)) [(.int .u32), (.int .u32)] []
    (.chk (.pick (.cmp .geq (.var 7) (.lit 0)) (.pick (.cmp .lss (.var 7) (.var 1)) (.some 0) (.lit false)) (.lit false))
    (.load 0 (.off (.var 7) 2 (.lit 0)) [(.int .u32), (.int .u32)] []
    (.call false 76 [(.agg [(.int .u32 (.var 14)), (.int .u32 (.var 15))]), (.agg [(.int .u32 (.var 16)), (.int .u32 (.var 17))])] .bool []
    (.ite (.var 18)
     (.ret (.int .i64 (.lit 1)) [])
     (.again 0 0 [(.int .i64), (.int .i64)] [(.int .i64 (.var 6)), (.int .i64 (.bin .add .i64 (.var 7) (.lit 1)))] [])))))))))))))
   (.chk (.cmp .geq (.var 1) (.lit 0))
   (.chk (.cmp .geq (.var 4) (.lit 0))
   (.ite (.cmp .lss (.var 1) (.var 4))
    (.ret (.int .i64 (.lit (-1))) [])
    (.chk (.cmp .geq (.var 1) (.lit 0))
    (.chk (.cmp .geq (.var 4) (.lit 0))
    (.ite (.cmp .gtr (.var 1) (.var 4))
     (.ret (.int .i64 (.lit 1)) [])
     (.ret (.int .i64 (.lit 0)) []))))))))))
theorem S_ref02_Order : FnIs Tryd.prog n_ref02_Order [.sl, .sl] T_ref02_Order := ⟨Tryd.f54, [{ key := 200002, tmps := [(15, .bool)], join := true, dead := 34050433581004 }], 4000, Tryd.func54, by kernel_rfl⟩
/-! 57 slices.Clone[[]ablaut/api.Sound,ablaut/api.Sound]  -/
abbrev n_slices_Clone___api_Sound_api_Sound_ : FuncId := 57
def T_slices_Clone___api_Sound_api_Sound_ : Tree :=
 (.extp ⟨(.binOp .eql 22 (.tmp 0) (.const (.bool true)) 22), 4, [(.sl 0 (.lit 0) (.var 1) (.var 2)), (.cst (.slice none 0 0))]⟩ .bool []
 (.ite (.var 3)
  (.ret (.cst (.slice none 0 0)) [])
  (.alloc
  (.ext false ⟨(.call ⟨.builtin .append, #[(.tmp 0), (.tmp 0)], #[22, 22]⟩), 22, [(.slc 0 0 0 0), (.sl 0 (.lit 0) (.var 1) (.var 2))]⟩ .sl [⟨[], 31⟩]
  (.ret (.sl 4 (.lit 0) (.var 5) (.var 6)) [⟨[], 31⟩])))))
theorem S_slices_Clone___api_Sound_api_Sound_ : FnIs Tryd.prog n_slices_Clone___api_Sound_api_Sound_ [.sl] T_slices_Clone___api_Sound_api_Sound_ := ⟨Tryd.f57, [], 4000, Tryd.func57, by kernel_rfl⟩
/-! 58 slices.Concat[[]ablaut/api.Sound,ablaut/api.Sound] BAD [ext slices.go:496] -/
abbrev n_slices_Concat___api_Sound_api_Sound_ : FuncId := 58
def T_slices_Concat___api_Sound_api_Sound_ : Tree :=
 (.chk (.cmp .geq (.var 1) (.lit 0))
 (.loop 0 [(.int .i64), (.int .i64)] [(.int .i64 (.lit 0)), (.int .i64 (.lit 0))] [] []
  (.ite (.cmp .lss (.var 4) (.var 1))
   (.chk (.pick (.cmp .geq (.var 4) (.lit 0)) (.pick (.cmp .lss (.var 4) (.var 1)) (.some 0) (.lit false)) (.lit false))
   (.load 0 (.off (.var 4) 1 (.lit 0)) [.sl] []
   (.chk (.cmp .geq (.var 6) (.lit 0))
   (.join 1 [] []
    (.ite (.cmp .lss (.bin .add .i64 (.var 3) (.var 6)) (.lit 0))
     (.bad "ext slices.go:496")
     (.again 1 0 [] [] []))
   (.again 0 0 [(.int .i64), (.int .i64)] [(.int .i64 (.bin .add .i64 (.var 3) (.var 6))), (.int .i64 (.bin .add .i64 (.var 4) (.lit 1)))] [])))))
   (.call false 77 [(.cst (.slice none 0 0)), (.int .i64 (.var 3))] .sl []
   (.chk (.cmp .geq (.var 1) (.lit 0))
   (.loop 0 [.sl, (.int .i64)] [(.sl 5 (.lit 0) (.var 6) (.var 7)), (.int .i64 (.lit 0))] [] []
    (.ite (.cmp .lss (.var 11) (.var 1))
     (.chk (.pick (.cmp .geq (.var 11) (.lit 0)) (.pick (.cmp .lss (.var 11) (.var 1)) (.some 0) (.lit false)) (.lit false))
     (.load 0 (.off (.var 11) 1 (.lit 0)) [.sl] []
     (.ext false ⟨(.call ⟨.builtin .append, #[(.tmp 0), (.tmp 0)], #[22, 22]⟩), 22, [(.sl 8 (.lit 0) (.var 9) (.var 10)), (.sl 12 (.lit 0) (.var 13) (.var 14))]⟩ .sl []
     (.again 0 0 [.sl, (.int .i64)] [(.sl 15 (.lit 0) (.var 16) (.var 17)), (.int .i64 (.bin .add .i64 (.var 11) (.lit 1)))] []))))
     (.ret (.sl 8 (.lit 0) (.var 9) (.var 10)) []))))))))
theorem S_slices_Concat___api_Sound_api_Sound_ : FnIs Tryd.prog n_slices_Concat___api_Sound_api_Sound_ [.sl] T_slices_Concat___api_Sound_api_Sound_ := ⟨Tryd.f58, [{ key := 7, tmps := [], join := true, dead := 68215103634 }], 4000, Tryd.func58, by kernel_rfl⟩
/-! 61 ablaut/word.Check  -/
abbrev n_word_Check : FuncId := 61
def T_word_Check : Tree :=
 (.chk (.cmp .geq (.var 1) (.lit 0))
 (.ite (.cmp .gtr (.var 1) (.lit 32))
  (.ret (.int .i64 (.lit 11)) [])
  (.chk (.cmp .geq (.var 1) (.lit 0))
  (.loop 0 [(.int .i64), (.int .i64)] [(.int .i64 (.lit 0)), (.int .i64 (.lit 0))] [] []
   (.ite (.cmp .lss (.var 4) (.var 1))
    (.chk (.pick (.cmp .geq (.var 4) (.lit 0)) (.pick (.cmp .lss (.var 4) (.var 1)) (.some 0) (.lit false)) (.lit false))
    (.load 0 (.off (.var 4) 2 (.lit 0)) [(.int .u32), (.int .u32)] []
    (.alloc
    (.call false 80 [(.agg [(.int .u32 (.var 5)), (.int .u32 (.var 6))])] .bool [⟨[(.int .u32 (.var 5)), (.int .u32 (.var 6))], 31⟩]
    (.ite (.not (.var 7))
     (.ret (.int .i64 (.lit 14)) [⟨[(.int .u32 (.var 5)), (.int .u32 (.var 6))], 31⟩])
     (.again 0 0 [(.int .i64), (.int .i64)] [(.int .i64 (.var 3)), (.int .i64 (.bin .add .i64 (.var 4) (.lit 1)))] [⟨[(.int .u32 (.var 5)), (.int .u32 (.var 6))], 31⟩]))))))
    (.ret (.int .i64 (.lit 0)) []))))))
theorem S_word_Check : FnIs Tryd.prog n_word_Check [.sl] T_word_Check := ⟨Tryd.f61, [], 4000, Tryd.func61, by kernel_rfl⟩
/-! 62 slices.Equal[[]ablaut/api.Sound,ablaut/api.Sound]  -/
abbrev n_slices_Equal___api_Sound_api_Sound_ : FuncId := 62
def T_slices_Equal___api_Sound_api_Sound_ : Tree :=
 (.chk (.cmp .geq (.var 1) (.lit 0))
 (.chk (.cmp .geq (.var 4) (.lit 0))
 (.ite (.cmp .neq (.var 1) (.var 4))
  (.ret (.bool (.lit false)) [])
  (.chk (.cmp .geq (.var 1) (.lit 0))
  (.loop 0 [.bool, (.int .i64)] [(.bool (.lit false)), (.int .i64 (.lit 0))] [] []
   (.ite (.cmp .lss (.var 7) (.var 1))
    (.chk (.pick (.cmp .geq (.var 7) (.lit 0)) (.pick (.cmp .lss (.var 7) (.var 1)) (.some 0) (.lit false)) (.lit false))
    (.load 0 (.off (.var 7) 2 (.lit 0)) [(.int .u32), (.int .u32)] []
    (.chk (.pick (.cmp .geq (.var 7) (.lit 0)) (.pick (.cmp .lss (.var 7) (.var 4)) (.some 3) (.lit false)) (.lit false))
    (.load 3 (.off (.var 7) 2 (.lit 0)) [(.int .u32), (.int .u32)] []
    (.ite (.not (.pick (.cmp .eql (.var 8) (.var 10)) (.cmp .eql (.var 9) (.var 11)) (.lit false)))
     (.ret (.bool (.lit false)) [])
     (.again 0 0 [.bool, (.int .i64)] [(.bool (.var 6)), (.int .i64 (.bin .add .i64 (.var 7) (.lit 1)))] []))))))
    (.ret (.bool (.lit true)) [])))))))
theorem S_slices_Equal___api_Sound_api_Sound_ : FnIs Tryd.prog n_slices_Equal___api_Sound_api_Sound_ [.sl, .sl] T_slices_Equal___api_Sound_api_Sound_ := ⟨Tryd.f62, [], 4000, Tryd.func62, by kernel_rfl⟩
/-! 69 slices.CompareFunc[[]ablaut/api.Sound,[]ablaut/api.Sound,ablaut/api.Sound,ablaut/api.Sound]  -/
abbrev n_slices_CompareFunc___api_Sound___api_Sound_api_Sound_api_Sound_ : FuncId := 69
def T_slices_CompareFunc___api_Sound___api_Sound_api_Sound_api_Sound_ : Tree :=
 (.chk (.cmp .geq (.var 1) (.lit 0))
 (.loop 0 [(.int .i64), (.int .i64)] [(.int .i64 (.lit 0)), (.int .i64 (.lit 0))] [] []
  (.ite (.cmp .lss (.var 8) (.var 1))
   (.chk (.pick (.cmp .geq (.var 8) (.lit 0)) (.pick (.cmp .lss (.var 8) (.var 1)) (.some 0) (.lit false)) (.lit false))
   (.load 0 (.off (.var 8) 2 (.lit 0)) [(.int .u32), (.int .u32)] []
   (.alloc
   (.chk (.cmp .geq (.var 4) (.lit 0))
   (.ite (.cmp .geq (.var 8) (.var 4))
    (.ret (.int .i64 (.lit 1)) [⟨[(.int .u32 (.var 9)), (.int .u32 (.var 10))], 31⟩])
    (.chk (.pick (.cmp .geq (.var 8) (.lit 0)) (.pick (.cmp .lss (.var 8) (.var 4)) (.some 3) (.lit false)) (.lit false))
    (.load 3 (.off (.var 8) 2 (.lit 0)) [(.int .u32), (.int .u32)] [⟨[(.int .u32 (.var 9)), (.int .u32 (.var 10))], 31⟩]
    (.alloc
    (.callv false (.val 6) [(.agg [(.int .u32 (.var 9)), (.int .u32 (.var 10))]), (.agg [(.int .u32 (.var 11)), (.int .u32 (.var 12))])] (.int .i64) [⟨[(.int .u32 (.var 9)), (.int .u32 (.var 10))], 31⟩, ⟨[(.int .u32 (.var 11)), (.int .u32 (.var 12))], 31⟩]
    (.ite (.cmp .neq (.var 13) (.lit 0))
     (.ret (.int .i64 (.var 13)) [⟨[(.int .u32 (.var 9)), (.int .u32 (.var 10))], 31⟩, ⟨[(.int .u32 (.var 11)), (.int .u32 (.var 12))], 31⟩])
     (.again 0 0 [(.int .i64), (.int .i64)] [(.int .i64 (.var 7)), (.int .i64 (.bin .add .i64 (.var 8) (.lit 1)))] [⟨[(.int .u32 (.var 9)), (.int .u32 (.var 10))], 31⟩, ⟨[(.int .u32 (.var 11)), (.int .u32 (.var 12))], 31⟩])))))))))))
   (.chk (.cmp .geq (.var 1) (.lit 0))
   (.chk (.cmp .geq (.var 4) (.lit 0))
   (.ite (.cmp .lss (.var 1) (.var 4))
    (.ret (.int .i64 (.lit (-1))) [])
    (.ret (.int .i64 (.lit 0)) [])))))))
theorem S_slices_CompareFunc___api_Sound___api_Sound_api_Sound_api_Sound_ : FnIs Tryd.prog n_slices_CompareFunc___api_Sound___api_Sound_api_Sound_api_Sound_ [.sl, .sl, .val] T_slices_CompareFunc___api_Sound___api_Sound_api_Sound_api_Sound_ := ⟨Tryd.f69, [], 4000, Tryd.func69, by kernel_rfl⟩
/-! 70 ablaut/word.order  -/
abbrev n_word_order : FuncId := 70
def T_word_order : Tree :=
 (.alloc
 (.alloc
 (.call false 86 [(.int .u32 (.var 0)), (.int .u32 (.var 2))] (.int .i64) [⟨[(.int .u32 (.var 0)), (.int .u32 (.var 1))], 31⟩, ⟨[(.int .u32 (.var 2)), (.int .u32 (.var 3))], 31⟩]
 (.call false 86 [(.int .u32 (.var 1)), (.int .u32 (.var 3))] (.int .i64) [⟨[(.int .u32 (.var 0)), (.int .u32 (.var 1))], 31⟩, ⟨[(.int .u32 (.var 2)), (.int .u32 (.var 3))], 31⟩]
 (.alloc
 (.call false 85 [(.slc 2 0 2 2)] (.int .i64) [⟨[(.int .u32 (.var 0)), (.int .u32 (.var 1))], 31⟩, ⟨[(.int .u32 (.var 2)), (.int .u32 (.var 3))], 31⟩, ⟨[(.int .i64 (.var 4)), (.int .i64 (.var 5))], 3⟩]
 (.ret (.int .i64 (.var 6)) [⟨[(.int .u32 (.var 0)), (.int .u32 (.var 1))], 31⟩, ⟨[(.int .u32 (.var 2)), (.int .u32 (.var 3))], 31⟩, ⟨[(.int .i64 (.var 4)), (.int .i64 (.var 5))], 3⟩])))))))
theorem S_word_order : FnIs Tryd.prog n_word_order [(.agg [(.int .u32), (.int .u32)]), (.agg [(.int .u32), (.int .u32)])] T_word_order := ⟨Tryd.f70, [], 4000, Tryd.func70, by kernel_rfl⟩
/-! 71 slices.Reverse[[]ablaut/api.Sound,ablaut/api.Sound]  -/
abbrev n_slices_Reverse___api_Sound_api_Sound_ : FuncId := 71
def T_slices_Reverse___api_Sound_api_Sound_ : Tree :=
 (.chk (.cmp .geq (.var 1) (.lit 0))
 (.loop 0 [(.int .i64), (.int .i64)] [(.int .i64 (.lit 0)), (.int .i64 (.bin .sub .i64 (.var 1) (.lit 1)))] [] []
  (.ite (.cmp .lss (.var 3) (.var 4))
   (.chk (.pick (.cmp .geq (.var 4) (.lit 0)) (.pick (.cmp .lss (.var 4) (.var 1)) (.some 0) (.lit false)) (.lit false))
   (.load 0 (.off (.var 4) 2 (.lit 0)) [(.int .u32), (.int .u32)] []
   (.chk (.pick (.cmp .geq (.var 3) (.lit 0)) (.pick (.cmp .lss (.var 3) (.var 1)) (.some 0) (.lit false)) (.lit false))
   (.load 0 (.off (.var 3) 2 (.lit 0)) [(.int .u32), (.int .u32)] []
   (.chk (.pick (.cmp .geq (.var 3) (.lit 0)) (.pick (.cmp .lss (.var 3) (.var 1)) (.some 0) (.lit false)) (.lit false))
   (.store false 0 (.off (.var 3) 2 (.lit 0)) [(.int .u32 (.var 5)), (.int .u32 (.var 6))] []
   (.chk (.pick (.cmp .geq (.var 4) (.lit 0)) (.pick (.cmp .lss (.var 4) (.var 1)) (.some 0) (.lit false)) (.lit false))
   (.store false 0 (.off (.var 4) 2 (.lit 0)) [(.int .u32 (.var 7)), (.int .u32 (.var 8))] []
   (.again 0 0 [(.int .i64), (.int .i64)] [(.int .i64 (.bin .add .i64 (.var 3) (.lit 1))), (.int .i64 (.bin .sub .i64 (.var 4) (.lit 1)))] [])))))))))
   (.ret (.tup []) []))))
theorem S_slices_Reverse___api_Sound_api_Sound_ : FnIs Tryd.prog n_slices_Reverse___api_Sound_api_Sound_ [.sl] T_slices_Reverse___api_Sound_api_Sound_ := ⟨Tryd.f71, [], 4000, Tryd.func71, by kernel_rfl⟩
/-! 73 ablaut/ablautref02.Check  -/
abbrev n_ref02_Check : FuncId := 73
def T_ref02_Check : Tree :=
 (.chk (.cmp .geq (.var 1) (.lit 0))
 (.ite (.cmp .gtr (.var 1) (.lit 32))
  (.ret (.int .i64 (.lit 11)) [])
  (.loop 0 [(.int .i64), (.int .i64)] [(.int .i64 (.lit 0)), (.int .i64 (.lit 0))] [] []
   (.chk (.cmp .geq (.var 1) (.lit 0))
   (.ite (.cmp .lss (.var 4) (.var 1))
    (.chk (.pick (.cmp .geq (.var 4) (.lit 0)) (.pick (.cmp .lss (.var 4) (.var 1)) (.some 0) (.lit false)) (.lit false))
    (.load 0 (.off (.var 4) 2 (.lit 0)) [(.int .u32), (.int .u32)] []
    (.call false 87 [(.agg [(.int .u32 (.var 5)), (.int .u32 (.var 6))])] .bool []
    (.ite (.not (.var 7))
     (.ret (.int .i64 (.lit 14)) [])
     (.again 0 0 [(.int .i64), (.int .i64)] [(.int .i64 (.var 3)), (.int .i64 (.bin .add .i64 (.var 4) (.lit 1)))] [])))))
    (.ret (.int .i64 (.lit 0)) []))))))
theorem S_ref02_Check : FnIs Tryd.prog n_ref02_Check [.sl] T_ref02_Check := ⟨Tryd.f73, [], 4000, Tryd.func73, by kernel_rfl⟩
/-! 76 ablaut/ablautref02.before  -/
abbrev n_ref02_before : FuncId := 76
def T_ref02_before : Tree :=
 (.alloc
 (.alloc
 (.ite (.cmp .eql (.var 0) (.var 2))
  (.ite (.cmp .lss (.var 0) (.var 2))
   (.ret (.bool (.lit true)) [⟨[(.int .u32 (.var 0)), (.int .u32 (.var 1))], 31⟩, ⟨[(.int .u32 (.var 2)), (.int .u32 (.var 3))], 31⟩])
   (.ret (.bool (.cmp .lss (.var 1) (.var 3))) [⟨[(.int .u32 (.var 0)), (.int .u32 (.var 1))], 31⟩, ⟨[(.int .u32 (.var 2)), (.int .u32 (.var 3))], 31⟩]))
  (.ret (.bool (.pick (.cmp .lss (.var 0) (.var 2)) (.lit true) (.lit false))) [⟨[(.int .u32 (.var 0)), (.int .u32 (.var 1))], 31⟩, ⟨[(.int .u32 (.var 2)), (.int .u32 (.var 3))], 31⟩]))))
theorem S_ref02_before : FnIs Tryd.prog n_ref02_before [(.agg [(.int .u32), (.int .u32)]), (.agg [(.int .u32), (.int .u32)])] T_ref02_before := ⟨Tryd.f76, [], 4000, Tryd.func76, by kernel_rfl⟩
/-! 77 slices.Grow[[]ablaut/api.Sound,ablaut/api.Sound] BAD [ext slices.go:424] -/
abbrev n_slices_Grow___api_Sound_api_Sound_ : FuncId := 77
def T_slices_Grow___api_Sound_api_Sound_ : Tree :=
 (.join 0 [] []
  (.ite (.cmp .lss (.var 3) (.lit 0))
   (.bad "ext slices.go:424")
   (.again 0 0 [] [] []))
 (.ext false ⟨(.call ⟨.builtin .cap, #[(.tmp 0)], #[22]⟩), 3, [(.sl 0 (.lit 0) (.var 1) (.var 2))]⟩ (.int .i64) []
 (.chk (.cmp .geq (.var 1) (.lit 0))
 (.join 0 [.sl] []
  (.ite (.cmp .gtr (.bin .sub .i64 (.var 3) (.bin .sub .i64 (.var 4) (.var 1))) (.lit 0))
   (.ext false ⟨(.call ⟨.builtin .cap, #[(.tmp 0)], #[22]⟩), 3, [(.sl 0 (.lit 0) (.var 1) (.var 2))]⟩ (.int .i64) []
   (.chk (.pick (.cmp .leq (.lit 0) (.var 5)) (.cmp .leq (.var 5) (.var 2)) (.lit false))
   (.ext false ⟨(.call ⟨.builtin .append, #[(.tmp 0), (.tmp 0)], #[22, 3]⟩), 22, [(.sl 0 (.ifeq (.var 2) (.lit 0) (.lit 0) (.lit 0)) (.var 5) (.var 2)), (.int .i64 (.bin .sub .i64 (.var 3) (.bin .sub .i64 (.var 4) (.var 1))))]⟩ .sl []
   (.chk (.cmp .geq (.var 1) (.lit 0))
   (.chk (.pick (.cmp .leq (.lit 0) (.var 1)) (.cmp .leq (.var 1) (.var 8)) (.lit false))
   (.again 0 0 [.sl] [(.sl 6 (.ifeq (.var 8) (.lit 0) (.lit 0) (.lit 0)) (.var 1) (.var 8))] []))))))
   (.again 0 0 [.sl] [(.sl 0 (.lit 0) (.var 1) (.var 2))] []))
 (.ret (.sl 5 (.lit 0) (.var 6) (.var 7)) [])))))
theorem S_slices_Grow___api_Sound_api_Sound_ : FnIs Tryd.prog n_slices_Grow___api_Sound_api_Sound_ [.sl, (.int .i64)] T_slices_Grow___api_Sound_api_Sound_ := ⟨Tryd.f77, [{ key := 2, tmps := [], join := true, dead := 134152108 }, { key := 5, tmps := [], join := true }], 4000, Tryd.func77, by kernel_rfl⟩
/-! 80 ablaut/word.valid  -/
abbrev n_word_valid : FuncId := 80
def T_word_valid : Tree :=
 (.alloc
 (.ite (.cmp .eql (.bin .and .u32 (.var 0) (.var 1)) (.lit 0))
  (.ret (.bool (.cmp .eql (.bin .shr .u32 (.bin .or .u32 (.var 0) (.var 1)) (.lit 24)) (.lit 0))) [⟨[(.int .u32 (.var 0)), (.int .u32 (.var 1))], 31⟩])
  (.ret (.bool (.lit false)) [⟨[(.int .u32 (.var 0)), (.int .u32 (.var 1))], 31⟩])))
theorem S_word_valid : FnIs Tryd.prog n_word_valid [(.agg [(.int .u32), (.int .u32)])] T_word_valid := ⟨Tryd.f80, [], 4000, Tryd.func80, by kernel_rfl⟩
/-! 85 cmp.Or[int]  -/
abbrev n_cmp_Or_int_ : FuncId := 85
def T_cmp_Or_int_ : Tree :=
 (.chk (.cmp .geq (.var 1) (.lit 0))
 (.loop 0 [(.int .i64), (.int .i64)] [(.int .i64 (.lit 0)), (.int .i64 (.lit 0))] [] []
  (.ite (.cmp .lss (.var 4) (.var 1))
   (.chk (.pick (.cmp .geq (.var 4) (.lit 0)) (.pick (.cmp .lss (.var 4) (.var 1)) (.some 0) (.lit false)) (.lit false))
   (.load 0 (.off (.var 4) 1 (.lit 0)) [(.int .i64)] []
   (.ite (.cmp .neq (.var 5) (.lit 0))
    (.ret (.int .i64 (.var 5)) [])
    (.again 0 0 [(.int .i64), (.int .i64)] [(.int .i64 (.var 3)), (.int .i64 (.bin .add .i64 (.var 4) (.lit 1)))] []))))
   (.ret (.int .i64 (.lit 0)) []))))
theorem S_cmp_Or_int_ : FnIs Tryd.prog n_cmp_Or_int_ [.sl] T_cmp_Or_int_ := ⟨Tryd.f85, [], 4000, Tryd.func85, by kernel_rfl⟩
/-! 86 cmp.Compare[uint32]  -/
abbrev n_cmp_Compare_uint32_ : FuncId := 86
def T_cmp_Compare_uint32_ : Tree :=
 (.call false 90 [(.int .u32 (.var 0))] .bool []
 (.call false 90 [(.int .u32 (.var 1))] .bool []
 (.ite (.var 2)
  (.ite (.var 3)
   (.ret (.int .i64 (.lit 0)) [])
   (.ret (.int .i64 (.lit (-1))) []))
  (.ite (.var 3)
   (.ret (.int .i64 (.lit 1)) [])
   (.ite (.cmp .lss (.var 0) (.var 1))
    (.ret (.int .i64 (.lit (-1))) [])
    (.ite (.cmp .gtr (.var 0) (.var 1))
     (.ret (.int .i64 (.lit 1)) [])
     (.ret (.int .i64 (.lit 0)) [])))))))
theorem S_cmp_Compare_uint32_ : FnIs Tryd.prog n_cmp_Compare_uint32_ [(.int .u32), (.int .u32)] T_cmp_Compare_uint32_ := ⟨Tryd.f86, [], 4000, Tryd.func86, by kernel_rfl⟩
/-! 87 ablaut/ablautref02.Valid  -/
abbrev n_ref02_Valid : FuncId := 87
def T_ref02_Valid : Tree :=
 (.alloc
 (.ret (.bool (.pick (.pick (.cmp .eql (.bin .and .u32 (.var 0) (.var 1)) (.lit 0)) (.cmp .lss (.var 0) (.lit 16777216)) (.lit false)) (.cmp .lss (.var 1) (.lit 16777216)) (.lit false))) [⟨[(.int .u32 (.var 0)), (.int .u32 (.var 1))], 31⟩]))
theorem S_ref02_Valid : FnIs Tryd.prog n_ref02_Valid [(.agg [(.int .u32), (.int .u32)])] T_ref02_Valid := ⟨Tryd.f87, [], 4000, Tryd.func87, by kernel_rfl⟩
/-! 90 cmp.isNaN[uint32]  -/
abbrev n_cmp_isNaN_uint32_ : FuncId := 90
def T_cmp_isNaN_uint32_ : Tree :=
 (.ret (.bool (.cmp .neq (.var 0) (.var 0))) [])
theorem S_cmp_isNaN_uint32_ : FnIs Tryd.prog n_cmp_isNaN_uint32_ [(.int .u32)] T_cmp_isNaN_uint32_ := ⟨Tryd.f90, [], 4000, Tryd.func90, by kernel_rfl⟩
end Go.Proofs.YtpbbnmjkbfbelaaDoor
