/- The trees of this seat's functions, printed by a program of mine (SyGen), checked here by the kernel. -/
import Derived.Test.YthabfpagilbplaaDoorSyDef
import Derived.Test.YthabfpagilbplaaDoorProg
import Derived.KernelRfl
set_option maxRecDepth 100000
namespace Go.Proofs.YthabfpagilbplaaDoor
open Go Go.Sy
/-! 26 ablaut/ablautlaw19.spelt BAD [cases] -/
/-! 27 ablaut/ablautlaw19.costs  -/
/-! 29 ablaut/ablautlaw19.labels  -/
/-! 30 ablaut/ablautlaw19.finer  -/
/-! 31 ablaut/ablautlaw19.CognatesExtremes$1  -/
abbrev n_law19_CognatesExtremes_1 : FuncId := 31
def T_law19_CognatesExtremes_1 : Tree :=
 (.alloc
 (.ite (.cmp .eql (.var 3) (.lit 0))
  (.call false 28 [(.int .i64 (.lit 1)), (.int .i64 (.lit 1))] (.agg [(.int .i64), (.int .i64)]) [⟨[(.int .i64 (.var 0)), (.int .i64 (.var 1))], 27⟩]
  (.ret (.bool (.pick (.cmp .eql (.var 0) (.var 4)) (.cmp .eql (.var 1) (.var 5)) (.lit false))) [⟨[(.int .i64 (.var 0)), (.int .i64 (.var 1))], 27⟩]))
  (.ret (.bool (.pick (.cmp .gtr (.var 1) (.lit 0)) (.cmp .eql (.bin .mul .i64 (.var 0) (.var 3)) (.bin .mul .i64 (.var 2) (.var 1))) (.lit false))) [⟨[(.int .i64 (.var 0)), (.int .i64 (.var 1))], 27⟩])))
theorem S_law19_CognatesExtremes_1 : FnIs Tryd.prog n_law19_CognatesExtremes_1 [(.agg [(.int .i64), (.int .i64)]), (.int .i64), (.int .i64)] T_law19_CognatesExtremes_1 := ⟨Tryd.f31, [], 4000, Tryd.func31, by kernel_rfl⟩
/-! 33 slices.Equal[[]ablaut/api.Sound,ablaut/api.Sound]  -/
/-! 35 ablaut/ablautlaw19.CognatesLimits$1  -/
/-! 38 ablaut/ablautlaw19.judged  -/
/-! 40 slices.Repeat[[]int,int] BAD [ext slices.go:516, ext slices.go:522] -/
/-! 44 slices.IsSorted[[]int,int]  -/
/-! 48 slices.Repeat[[][]int,[]int] BAD [ext slices.go:516, ext slices.go:522] -/
/-! 49 slices.Repeat[[]ablaut/api.Form,ablaut/api.Form] BAD [ext slices.go:516, ext slices.go:522] -/
/-! 76 math/bits.Mul  -/
/-! 79 cmp.Less[int]  -/
/-! 100 cmp.isNaN[int]  -/
end Go.Proofs.YthabfpagilbplaaDoor
