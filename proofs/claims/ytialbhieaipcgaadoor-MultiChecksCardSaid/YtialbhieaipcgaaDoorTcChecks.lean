/- The trees of this seat's functions, printed by a program of mine (SyGen), checked here by the kernel. -/
import Derived.Test.YtialbhieaipcgaaDoorSyDef
import Derived.Test.YtialbhieaipcgaaDoorProg
import Derived.KernelRfl
set_option maxRecDepth 100000
namespace Go.Proofs.YtialbhieaipcgaaDoor
open Go Go.Sy
/-! 12 ablaut/ablautlaw18.MultiChecks  -/
abbrev n_law18_MultiChecks : FuncId := 12
def T_law18_MultiChecks : Tree :=
 (.call false 15 [(.sl 0 (.lit 0) (.var 1) (.var 2)), (.sl 3 (.lit 0) (.var 4) (.var 5))] .bool []
 (.ite (.not (.var 7))
  (.call false 16 [] .bool []
  (.ret (.bool (.var 8)) []))
  (.call false 35 [(.sl 0 (.lit 0) (.var 1) (.var 2)), (.sl 3 (.lit 0) (.var 4) (.var 5)), (.int .i64 (.var 6))] (.tup [.sl, (.int .i64)]) []
  (.call false 36 [(.sl 0 (.lit 0) (.var 1) (.var 2)), (.sl 3 (.lit 0) (.var 4) (.var 5)), (.int .i64 (.var 6))] (.tup [.sl, (.int .i64)]) []
  (.call false 37 [(.sl 0 (.lit 0) (.var 1) (.var 2)), (.sl 3 (.lit 0) (.var 4) (.var 5))] (.tup [.sl, (.int .i64)]) []
  (.call false 38 [(.sl 0 (.lit 0) (.var 1) (.var 2)), (.sl 3 (.lit 0) (.var 4) (.var 5))] (.tup [.sl, (.int .i64)]) []
  (.call false 29 [(.sl 0 (.lit 0) (.var 1) (.var 2)), (.sl 3 (.lit 0) (.var 4) (.var 5)), (.int .i64 (.var 6))] (.tup [.sl, (.int .i64)]) []
  (.call false 39 [(.sl 0 (.lit 0) (.var 1) (.var 2)), (.sl 3 (.lit 0) (.var 4) (.var 5)), (.int .i64 (.var 6))] (.tup [.sl, (.int .i64)]) []
  (.join 0 [.bool] []
   (.call false 32 [(.sl 0 (.lit 0) (.var 1) (.var 2)), (.sl 3 (.lit 0) (.var 4) (.var 5))] (.int .i64) []
   (.call false 40 [(.sl 0 (.lit 0) (.var 1) (.var 2)), (.sl 3 (.lit 0) (.var 4) (.var 5))] (.int .i64) []
   (.ite (.pick (.pick (.pick (.cmp .neq (.var 32) (.var 33)) (.lit true) (.cmp .neq (.var 11) (.var 15))) (.lit true) (.cmp .neq (.var 19) (.var 23))) (.lit true) (.cmp .neq (.var 27) (.var 31)))
    (.again 0 0 [.bool] [(.bool (.lit true))] [])
    (.call false 41 [(.sl 8 (.lit 0) (.var 9) (.var 10)), (.sl 12 (.lit 0) (.var 13) (.var 14))] .bool []
    (.ite (.not (.var 34))
     (.again 0 0 [.bool] [(.bool (.lit true))] [])
     (.chk (.cmp .geq (.var 17) (.lit 0))
     (.chk (.cmp .geq (.var 21) (.lit 0))
     (.ite (.cmp .neq (.var 17) (.var 21))
      (.again 0 0 [.bool] [(.bool (.lit true))] [])
      (.call false 22 [(.sl 24 (.lit 0) (.var 25) (.var 26)), (.sl 28 (.lit 0) (.var 29) (.var 30))] .bool []
      (.again 0 0 [.bool] [(.bool (.not (.var 35)))] []))))))))))
  (.ite (.var 32)
   (.ret (.bool (.lit false)) [])
   (.loop 0 [.bool, (.int .i64)] [(.bool (.lit false)), (.int .i64 (.lit 0))] [] []
    (.chk (.cmp .geq (.var 17) (.lit 0))
    (.ite (.cmp .lss (.var 34) (.var 17))
     (.chk (.pick (.cmp .geq (.var 34) (.lit 0)) (.pick (.cmp .lss (.var 34) (.var 17)) (.some 16) (.lit false)) (.lit false))
     (.load 16 (.off (.var 34) 1 (.lit 0)) [.sl] []
     (.chk (.pick (.cmp .geq (.var 34) (.lit 0)) (.pick (.cmp .lss (.var 34) (.var 21)) (.some 20) (.lit false)) (.lit false))
     (.load 20 (.off (.var 34) 1 (.lit 0)) [.sl] []
     (.call false 41 [(.sl 35 (.lit 0) (.var 36) (.var 37)), (.sl 38 (.lit 0) (.var 39) (.var 40))] .bool []
     (.ite (.not (.var 41))
      (.ret (.bool (.lit false)) [])
      (.again 0 0 [.bool, (.int .i64)] [(.bool (.var 33)), (.int .i64 (.bin .add .i64 (.var 34) (.lit 1)))] [])))))))
     (.call false 16 [] .bool []
     (.ret (.bool (.var 35)) [])))))))))))))))
theorem S_law18_MultiChecks : FnIs Tryd.prog n_law18_MultiChecks [.sl, .sl, (.int .i64)] T_law18_MultiChecks := ⟨Tryd.f12, [{ key := 200009, tmps := [(105, .bool)], join := true, dead := 7974678372782971080628428155128905784 }], 4000, Tryd.func12, by kernel_rfl⟩
end Go.Proofs.YtialbhieaipcgaaDoor
