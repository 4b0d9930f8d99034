/- The trees of this seat's functions, printed by a program of mine (SyGen), checked here by the kernel. -/
import Derived.Test.YthabfpagilbplaaDoorSyDef
import Derived.Test.YthabfpagilbplaaDoorProg
import Derived.KernelRfl
set_option maxRecDepth 100000
namespace Go.Proofs.YthabfpagilbplaaDoor
open Go Go.Sy
/-! 41 ablaut/cognates.Sets  -/
/-! 42 ablaut/ablautref19.Sets  -/
/-! 43 ablaut/ablautlaw19.lists  -/
abbrev n_law19_lists : FuncId := 43
def T_law19_lists : Tree :=
 (.call false 77 [(.sl 0 (.lit 0) (.var 1) (.var 2)), (.sl 3 (.lit 0) (.var 4) (.var 5)), (.cst (.func (.func 78) #[] #[]))] .bool []
 (.ret (.bool (.var 6)) []))
theorem S_law19_lists : FnIs Tryd.prog n_law19_lists [.sl, .sl] T_law19_lists := ⟨Tryd.f43, [], 4000, Tryd.func43, by kernel_rfl⟩
/-! 77 slices.EqualFunc[[][]int,[][]int,[]int,[]int]  -/
abbrev n_slices_EqualFunc_____int_____int___int___int_ : FuncId := 77
def T_slices_EqualFunc_____int_____int___int___int_ : Tree :=
 (.chk (.cmp .geq (.var 1) (.lit 0))
 (.chk (.cmp .geq (.var 4) (.lit 0))
 (.ite (.cmp .neq (.var 1) (.var 4))
  (.ret (.bool (.lit false)) [])
  (.chk (.cmp .geq (.var 1) (.lit 0))
  (.loop 0 [.bool, (.int .i64)] [(.bool (.lit false)), (.int .i64 (.lit 0))] [] []
   (.ite (.cmp .lss (.var 8) (.var 1))
    (.chk (.pick (.cmp .geq (.var 8) (.lit 0)) (.pick (.cmp .lss (.var 8) (.var 1)) (.some 0) (.lit false)) (.lit false))
    (.load 0 (.off (.var 8) 1 (.lit 0)) [.sl] []
    (.chk (.pick (.cmp .geq (.var 8) (.lit 0)) (.pick (.cmp .lss (.var 8) (.var 4)) (.some 3) (.lit false)) (.lit false))
    (.load 3 (.off (.var 8) 1 (.lit 0)) [.sl] []
    (.callv false (.val 6) [(.sl 9 (.lit 0) (.var 10) (.var 11)), (.sl 12 (.lit 0) (.var 13) (.var 14))] .bool []
    (.ite (.not (.var 15))
     (.ret (.bool (.lit false)) [])
     (.again 0 0 [.bool, (.int .i64)] [(.bool (.var 7)), (.int .i64 (.bin .add .i64 (.var 8) (.lit 1)))] [])))))))
    (.ret (.bool (.lit true)) [])))))))
theorem S_slices_EqualFunc_____int_____int___int___int_ : FnIs Tryd.prog n_slices_EqualFunc_____int_____int___int___int_ [.sl, .sl, .val] T_slices_EqualFunc_____int_____int___int___int_ := ⟨Tryd.f77, [], 4000, Tryd.func77, by kernel_rfl⟩
/-! 78 ablaut/ablautlaw19.lists$1  -/
abbrev n_law19_lists_1 : FuncId := 78
def T_law19_lists_1 : Tree :=
 (.call false 21 [(.sl 0 (.lit 0) (.var 1) (.var 2)), (.sl 3 (.lit 0) (.var 4) (.var 5))] .bool []
 (.ret (.bool (.var 6)) []))
theorem S_law19_lists_1 : FnIs Tryd.prog n_law19_lists_1 [.sl, .sl] T_law19_lists_1 := ⟨Tryd.f78, [], 4000, Tryd.func78, by kernel_rfl⟩
end Go.Proofs.YthabfpagilbplaaDoor
