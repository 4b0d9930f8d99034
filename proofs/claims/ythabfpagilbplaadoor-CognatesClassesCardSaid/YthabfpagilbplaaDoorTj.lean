/- The trees of this seat's functions, printed by a program of mine (SyGen), checked here by the kernel. -/
import Derived.Test.YthabfpagilbplaaDoorSyDef
import Derived.Test.YthabfpagilbplaaDoorProg
import Derived.KernelRfl
set_option maxRecDepth 100000
namespace Go.Proofs.YthabfpagilbplaaDoor
open Go Go.Sy
/-! 26 ablaut/ablautlaw19.spelt BAD [cases, cases] -/
/-! 27 ablaut/ablautlaw19.costs  -/
/-! 29 ablaut/ablautlaw19.labels  -/
/-! 30 ablaut/ablautlaw19.finer  -/
/-! 31 ablaut/ablautlaw19.CognatesExtremes$1  -/
/-! 33 slices.Equal[[]ablaut/api.Sound,ablaut/api.Sound]  -/
/-! 35 ablaut/ablautlaw19.CognatesLimits$1  -/
/-! 38 ablaut/ablautlaw19.judged  -/
/-! 40 slices.Repeat[[]int,int] BAD [ext slices.go:516, ext slices.go:522] -/
/-! 44 slices.IsSorted[[]int,int]  -/
abbrev n_slices_IsSorted___int_int_ : FuncId := 44
def T_slices_IsSorted___int_int_ : Tree :=
 (.chk (.cmp .geq (.var 1) (.lit 0))
 (.loop 0 [.bool, (.int .i64)] [(.bool (.lit false)), (.int .i64 (.bin .sub .i64 (.var 1) (.lit 1)))] [] []
  (.ite (.cmp .gtr (.var 4) (.lit 0))
   (.chk (.pick (.cmp .geq (.var 4) (.lit 0)) (.pick (.cmp .lss (.var 4) (.var 1)) (.some 0) (.lit false)) (.lit false))
   (.load 0 (.off (.var 4) 1 (.lit 0)) [(.int .i64)] []
   (.chk (.pick (.cmp .geq (.bin .sub .i64 (.var 4) (.lit 1)) (.lit 0)) (.pick (.cmp .lss (.bin .sub .i64 (.var 4) (.lit 1)) (.var 1)) (.some 0) (.lit false)) (.lit false))
   (.load 0 (.off (.bin .sub .i64 (.var 4) (.lit 1)) 1 (.lit 0)) [(.int .i64)] []
   (.call false 79 [(.int .i64 (.var 5)), (.int .i64 (.var 6))] .bool []
   (.ite (.var 7)
    (.ret (.bool (.lit false)) [])
    (.again 0 0 [.bool, (.int .i64)] [(.bool (.var 3)), (.int .i64 (.bin .sub .i64 (.var 4) (.lit 1)))] [])))))))
   (.ret (.bool (.lit true)) []))))
theorem S_slices_IsSorted___int_int_ : FnIs Tryd.prog n_slices_IsSorted___int_int_ [.sl] T_slices_IsSorted___int_int_ := ⟨Tryd.f44, [], 4000, Tryd.func44, by kernel_rfl⟩
/-! 48 slices.Repeat[[][]int,[]int] BAD [ext slices.go:516, ext slices.go:522] -/
/-! 49 slices.Repeat[[]ablaut/api.Form,ablaut/api.Form] BAD [ext slices.go:516, ext slices.go:522] -/
/-! 76 math/bits.Mul  -/
/-! 79 cmp.Less[int]  -/
abbrev n_cmp_Less_int_ : FuncId := 79
def T_cmp_Less_int_ : Tree :=
 (.call false 100 [(.int .i64 (.var 0))] .bool []
 (.ite (.var 2)
  (.call false 100 [(.int .i64 (.var 1))] .bool []
  (.ret (.bool (.pick (.not (.var 3)) (.lit true) (.cmp .lss (.var 0) (.var 1)))) []))
  (.ret (.bool (.cmp .lss (.var 0) (.var 1))) [])))
theorem S_cmp_Less_int_ : FnIs Tryd.prog n_cmp_Less_int_ [(.int .i64), (.int .i64)] T_cmp_Less_int_ := ⟨Tryd.f79, [], 4000, Tryd.func79, by kernel_rfl⟩
/-! 100 cmp.isNaN[int]  -/
abbrev n_cmp_isNaN_int_ : FuncId := 100
def T_cmp_isNaN_int_ : Tree :=
 (.ret (.bool (.cmp .neq (.var 0) (.var 0))) [])
theorem S_cmp_isNaN_int_ : FnIs Tryd.prog n_cmp_isNaN_int_ [(.int .i64)] T_cmp_isNaN_int_ := ⟨Tryd.f100, [], 4000, Tryd.func100, by kernel_rfl⟩
end Go.Proofs.YthabfpagilbplaaDoor
