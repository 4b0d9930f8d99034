/- The trees of this seat's functions, printed by a program of mine (SyGen), checked here by the kernel. -/
import Derived.Test.YthabfpagilbplaaDoorSyDef
import Derived.Test.YthabfpagilbplaaDoorProg
import Derived.KernelRfl
set_option maxRecDepth 100000
namespace Go.Proofs.YthabfpagilbplaaDoor
open Go Go.Sy
/-! 26 ablaut/ablautlaw19.spelt BAD [cases] -/
/-! 27 ablaut/ablautlaw19.costs  -/
/-! 29 ablaut/ablautlaw19.labels  -/
/-! 30 ablaut/ablautlaw19.finer  -/
/-! 31 ablaut/ablautlaw19.CognatesExtremes$1  -/
/-! 33 slices.Equal[[]ablaut/api.Sound,ablaut/api.Sound]  -/
/-! 35 ablaut/ablautlaw19.CognatesLimits$1  -/
/-! 38 ablaut/ablautlaw19.judged  -/
abbrev n_law19_judged : FuncId := 38
def T_law19_judged : Tree :=
 (.ext false ⟨(.makeSlice 30 (.tmp 0) (.tmp 0)), 30, [(.int .i64 (.var 3)), (.int .i64 (.var 3))]⟩ .sl []
 (.chk (.cmp .geq (.var 5) (.lit 0))
 (.loop 0 [(.int .i64)] [(.int .i64 (.lit 0))] [] []
  (.ite (.cmp .lss (.var 7) (.var 5))
   (.chk (.cmp .geq (.var 1) (.lit 0))
   (.ite (.cmp .gtr (.var 1) (.lit 0))
    (.chk (.cmp .geq (.var 1) (.lit 0))
    (.chk (.cmp .neq (.var 1) (.lit 0))
    (.chk (.pick (.cmp .geq (.bin .rem .i64 (.var 7) (.var 1)) (.lit 0)) (.pick (.cmp .lss (.bin .rem .i64 (.var 7) (.var 1)) (.var 1)) (.some 0) (.lit false)) (.lit false))
    (.load 0 (.off (.bin .rem .i64 (.var 7) (.var 1)) 1 (.lit 0)) [(.int .u8)] []
    (.chk (.pick (.cmp .geq (.var 7) (.lit 0)) (.pick (.cmp .lss (.var 7) (.var 5)) (.some 4) (.lit false)) (.lit false))
    (.store false 4 (.off (.var 7) 1 (.lit 0)) [(.int .i64 (.bin .sub .i64 (.bin .rem .i64 (.conv .i64 (.var 8)) (.lit 9)) (.lit 1)))] []
    (.again 0 0 [(.int .i64)] [(.int .i64 (.bin .add .i64 (.var 7) (.lit 1)))] [])))))))
    (.again 0 0 [(.int .i64)] [(.int .i64 (.bin .add .i64 (.var 7) (.lit 1)))] [])))
   (.ret (.sl 4 (.lit 0) (.var 5) (.var 6)) [])))))
theorem S_law19_judged : FnIs Tryd.prog n_law19_judged [.sl, (.int .i64)] T_law19_judged := ⟨Tryd.f38, [], 4000, Tryd.func38, by kernel_rfl⟩
/-! 40 slices.Repeat[[]int,int] BAD [ext slices.go:516, ext slices.go:522] -/
abbrev n_slices_Repeat___int_int_ : FuncId := 40
def T_slices_Repeat___int_int_ : Tree :=
 (.ite (.cmp .lss (.var 3) (.lit 0))
  (.bad "ext slices.go:516")
  (.chk (.cmp .geq (.var 1) (.lit 0))
  (.call false 76 [(.int .u64 (.conv .u64 (.var 1))), (.int .u64 (.conv .u64 (.var 3)))] (.tup [(.int .u64), (.int .u64)]) []
  (.ite (.pick (.cmp .gtr (.var 4) (.lit 0)) (.lit true) (.cmp .gtr (.var 5) (.lit 9223372036854775807)))
   (.bad "ext slices.go:522")
   (.ext false ⟨(.makeSlice 30 (.tmp 0) (.tmp 0)), 30, [(.int .i64 (.conv .i64 (.var 5))), (.int .i64 (.conv .i64 (.var 5)))]⟩ .sl []
   (.ext false ⟨(.call ⟨.builtin .copy, #[(.tmp 0), (.tmp 0)], #[30, 30]⟩), 3, [(.sl 6 (.lit 0) (.var 7) (.var 8)), (.sl 0 (.lit 0) (.var 1) (.var 2))]⟩ (.int .i64) []
   (.loop 0 [(.int .i64)] [(.int .i64 (.var 9))] [] []
    (.chk (.cmp .geq (.var 7) (.lit 0))
    (.ite (.cmp .lss (.var 10) (.var 7))
     (.chk (.pick (.cmp .leq (.lit 0) (.var 10)) (.pick (.cmp .leq (.var 10) (.var 7)) (.cmp .leq (.var 7) (.var 8)) (.lit false)) (.lit false))
     (.chk (.pick (.cmp .leq (.lit 0) (.var 10)) (.cmp .leq (.var 10) (.var 8)) (.lit false))
     (.ext false ⟨(.call ⟨.builtin .copy, #[(.tmp 0), (.tmp 0)], #[30, 30]⟩), 3, [(.sl 6 (.ifeq (.var 8) (.var 10) (.lit 0) (.off (.var 10) 1 (.lit 0))) (.dif (.var 7) (.var 10)) (.dif (.var 8) (.var 10))), (.sl 6 (.ifeq (.var 8) (.lit 0) (.lit 0) (.lit 0)) (.var 10) (.var 8))]⟩ (.int .i64) []
     (.again 0 0 [(.int .i64)] [(.int .i64 (.bin .add .i64 (.var 10) (.var 11)))] []))))
     (.ret (.sl 6 (.lit 0) (.var 7) (.var 8)) []))))))))))
theorem S_slices_Repeat___int_int_ : FnIs Tryd.prog n_slices_Repeat___int_int_ [.sl, (.int .i64)] T_slices_Repeat___int_int_ := ⟨Tryd.f40, [], 4000, Tryd.func40, by kernel_rfl⟩
/-! 44 slices.IsSorted[[]int,int]  -/
/-! 48 slices.Repeat[[][]int,[]int] BAD [ext slices.go:516, ext slices.go:522] -/
/-! 49 slices.Repeat[[]ablaut/api.Form,ablaut/api.Form] BAD [ext slices.go:516, ext slices.go:522] -/
/-! 76 math/bits.Mul  -/
abbrev n_math_bits_Mul : FuncId := 76
def T_math_bits_Mul : Tree :=
 (.call false 90 [(.int .u64 (.var 0)), (.int .u64 (.var 1))] (.tup [(.int .u64), (.int .u64)]) []
 (.ret (.tup [(.int .u64 (.var 2)), (.int .u64 (.var 3))]) []))
theorem S_math_bits_Mul : FnIs Tryd.prog n_math_bits_Mul [(.int .u64), (.int .u64)] T_math_bits_Mul := ⟨Tryd.f76, [], 4000, Tryd.func76, by kernel_rfl⟩
/-! 79 cmp.Less[int]  -/
/-! 100 cmp.isNaN[int]  -/
end Go.Proofs.YthabfpagilbplaaDoor
