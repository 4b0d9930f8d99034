/- The trees of this seat's functions, printed by a program of mine (SyGen), checked here by the kernel. -/
import Derived.Test.YtpbbnmjkbfbelaaDoorSyDef
import Derived.Test.YtpbbnmjkbfbelaaDoorProg
import Derived.KernelRfl
set_option maxRecDepth 100000
namespace Go.Proofs.YtpbbnmjkbfbelaaDoor
open Go Go.Sy
/-! 10 ablaut/ablautlaw30.AnalogyCounts  -/
abbrev n_law30_AnalogyCounts : FuncId := 10
def T_law30_AnalogyCounts : Tree :=
 (.join 0 [.bool] []
  (.call false 21 [(.sl 0 (.lit 0) (.var 1) (.var 2))] .bool []
  (.ite (.not (.var 9))
   (.again 0 0 [.bool] [(.bool (.lit true))] [])
   (.chk (.cmp .geq (.var 4) (.lit 0))
   (.ite (.cmp .gtr (.var 4) (.lit 100))
    (.again 0 0 [.bool] [(.bool (.lit true))] [])
    (.chk (.cmp .geq (.var 7) (.lit 0))
    (.again 0 0 [.bool] [(.bool (.cmp .gtr (.var 7) (.lit 100)))] []))))))
 (.ite (.var 9)
  (.call false 14 [] .bool []
  (.ret (.bool (.var 10)) []))
  (.call false 34 [(.sl 0 (.lit 0) (.var 1) (.var 2)), (.sl 3 (.lit 0) (.var 4) (.var 5)), (.sl 6 (.lit 0) (.var 7) (.var 8))] (.tup [(.int .i64), .bool, (.int .i64)]) []
  (.call false 35 [(.sl 0 (.lit 0) (.var 1) (.var 2)), (.sl 3 (.lit 0) (.var 4) (.var 5)), (.sl 6 (.lit 0) (.var 7) (.var 8))] (.tup [(.int .i64), .bool, (.int .i64)]) []
  (.call false 36 [(.sl 0 (.lit 0) (.var 1) (.var 2)), (.sl 3 (.lit 0) (.var 4) (.var 5)), (.sl 6 (.lit 0) (.var 7) (.var 8))] (.tup [(.int .i64), (.int .i64)]) []
  (.call false 37 [(.sl 0 (.lit 0) (.var 1) (.var 2)), (.sl 3 (.lit 0) (.var 4) (.var 5)), (.sl 6 (.lit 0) (.var 7) (.var 8))] (.tup [(.int .i64), (.int .i64)]) []
  (.join 0 [.bool] []
   (.ite (.pick (.pick (.pick (.pick (.cmp .eql (.var 10) (.var 13)) (.beq (.var 11) (.var 14)) (.lit false)) (.cmp .eql (.var 12) (.var 15)) (.lit false)) (.cmp .eql (.var 16) (.var 18)) (.lit false)) (.cmp .eql (.var 17) (.var 19)) (.lit false))
    (.call false 14 [] .bool []
    (.again 0 0 [.bool] [(.bool (.var 20))] []))
    (.again 0 0 [.bool] [(.bool (.lit false))] []))
  (.ret (.bool (.var 20)) []))))))))
theorem S_law30_AnalogyCounts : FnIs Tryd.prog n_law30_AnalogyCounts [.sl, .sl, .sl] T_law30_AnalogyCounts := ⟨Tryd.f10, [{ key := 200001, tmps := [(29, .bool)], join := true, dead := 154742504910672533825388600 }, { key := 200007, tmps := [], join := true }], 4000, Tryd.func10, by kernel_rfl⟩
end Go.Proofs.YtpbbnmjkbfbelaaDoor
