/- The trees of this seat's functions, printed by a program of mine (SyGen), checked here by the kernel. -/
import Derived.Test.YtpbbnmjkbfbelaaDoorSyDef
import Derived.Test.YtpbbnmjkbfbelaaDoorProg
import Derived.KernelRfl
set_option maxRecDepth 100000
namespace Go.Proofs.YtpbbnmjkbfbelaaDoor
open Go Go.Sy
/-! 4 ablaut/ablautlaw30.AnalogyExtends  -/
abbrev n_law30_AnalogyExtends : FuncId := 4
def T_law30_AnalogyExtends : Tree :=
 (.join 0 [.bool] []
  (.call false 21 [(.sl 0 (.lit 0) (.var 1) (.var 2))] .bool []
  (.ite (.not (.var 6))
   (.again 0 0 [.bool] [(.bool (.lit true))] [])
   (.chk (.cmp .geq (.var 4) (.lit 0))
   (.again 0 0 [.bool] [(.bool (.cmp .gtr (.var 4) (.lit 100)))] []))))
 (.ite (.var 6)
  (.call false 14 [] .bool []
  (.ret (.bool (.var 7)) []))
  (.call false 22 [(.sl 0 (.lit 0) (.var 1) (.var 2)), (.sl 3 (.lit 0) (.var 4) (.var 5))] (.tup [.sl, (.int .i64), (.int .i64)]) []
  (.call false 23 [(.sl 0 (.lit 0) (.var 1) (.var 2)), (.sl 3 (.lit 0) (.var 4) (.var 5))] (.tup [.sl, (.int .i64), (.int .i64)]) []
  (.join 0 [.bool] []
   (.ite (.pick (.cmp .eql (.var 10) (.var 15)) (.cmp .eql (.var 11) (.var 16)) (.lit false))
    (.call false 20 [(.sl 7 (.lit 0) (.var 8) (.var 9)), (.sl 12 (.lit 0) (.var 13) (.var 14))] .bool []
    (.ite (.var 17)
     (.call false 14 [] .bool []
     (.again 0 0 [.bool] [(.bool (.var 18))] []))
     (.again 0 0 [.bool] [(.bool (.lit false))] [])))
    (.again 0 0 [.bool] [(.bool (.lit false))] []))
  (.ret (.bool (.var 17)) []))))))
theorem S_law30_AnalogyExtends : FnIs Tryd.prog n_law30_AnalogyExtends [.sl, .sl] T_law30_AnalogyExtends := ⟨Tryd.f4, [{ key := 200001, tmps := [(18, .bool)], join := true, dead := 1125899906578444 }, { key := 200005, tmps := [], join := true }], 4000, Tryd.func4, by kernel_rfl⟩
end Go.Proofs.YtpbbnmjkbfbelaaDoor
