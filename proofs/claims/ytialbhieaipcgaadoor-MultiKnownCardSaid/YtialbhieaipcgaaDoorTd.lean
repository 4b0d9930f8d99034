/- The trees of this seat's functions, printed by a program of mine (SyGen), checked here by the kernel. -/
import Derived.Test.YtialbhieaipcgaaDoorSyDef
import Derived.Test.YtialbhieaipcgaaDoorProg
import Derived.KernelRfl
set_option maxRecDepth 100000
namespace Go.Proofs.YtialbhieaipcgaaDoor
open Go Go.Sy
/-! 18 ablaut/ablautref18.Score  -/
/-! 22 ablaut/ablautref18.Same  -/
abbrev n_ref18_Same : FuncId := 22
def T_ref18_Same : Tree :=
 (.chk (.cmp .geq (.var 1) (.lit 0))
 (.chk (.cmp .geq (.var 4) (.lit 0))
 (.ite (.cmp .neq (.var 1) (.var 4))
  (.ret (.bool (.lit false)) [])
  (.loop 0 [.bool, (.int .i64)] [(.bool (.lit false)), (.int .i64 (.lit 0))] [] []
   (.chk (.cmp .geq (.var 1) (.lit 0))
   (.ite (.cmp .lss (.var 7) (.var 1))
    (.chk (.pick (.cmp .geq (.var 7) (.lit 0)) (.pick (.cmp .lss (.var 7) (.var 1)) (.some 0) (.lit false)) (.lit false))
    (.load 0 (.off (.var 7) 1 (.lit 0)) [.sl] []
    (.chk (.cmp .geq (.var 9) (.lit 0))
    (.chk (.pick (.cmp .geq (.var 7) (.lit 0)) (.pick (.cmp .lss (.var 7) (.var 4)) (.some 3) (.lit false)) (.lit false))
    (.load 3 (.off (.var 7) 1 (.lit 0)) [.sl] []
    (.chk (.cmp .geq (.var 12) (.lit 0))
    (.ite (.cmp .neq (.var 9) (.var 12))
     (.ret (.bool (.lit false)) [])
     (.loop 1 [.bool, (.int .i64)] [(.bool (.var 6)), (.int .i64 (.lit 0))] [] []
      (.chk (.pick (.cmp .geq (.var 7) (.lit 0)) (.pick (.cmp .lss (.var 7) (.var 1)) (.some 0) (.lit false)) (.lit false))
      (.load 0 (.off (.var 7) 1 (.lit 0)) [.sl] []
      (.chk (.cmp .geq (.var 17) (.lit 0))
      (.ite (.cmp .lss (.var 15) (.var 17))
       (.chk (.pick (.cmp .geq (.var 7) (.lit 0)) (.pick (.cmp .lss (.var 7) (.var 1)) (.some 0) (.lit false)) (.lit false))
       (.load 0 (.off (.var 7) 1 (.lit 0)) [.sl] []
       (.chk (.pick (.cmp .geq (.var 15) (.lit 0)) (.pick (.cmp .lss (.var 15) (.var 20)) (.some 19) (.lit false)) (.lit false))
       (.load 19 (.off (.var 15) 1 (.lit 0)) [(.int .i64)] []
       (.chk (.pick (.cmp .geq (.var 7) (.lit 0)) (.pick (.cmp .lss (.var 7) (.var 4)) (.some 3) (.lit false)) (.lit false))
       (.load 3 (.off (.var 7) 1 (.lit 0)) [.sl] []
       (.chk (.pick (.cmp .geq (.var 15) (.lit 0)) (.pick (.cmp .lss (.var 15) (.var 24)) (.some 23) (.lit false)) (.lit false))
       (.load 23 (.off (.var 15) 1 (.lit 0)) [(.int .i64)] []
       (.ite (.cmp .neq (.var 22) (.var 26))
        (.ret (.bool (.lit false)) [])
        (.again 1 0 [.bool, (.int .i64)] [(.bool (.var 14)), (.int .i64 (.bin .add .i64 (.var 15) (.lit 1)))] []))))))))))
       (.again 0 0 [.bool, (.int .i64)] [(.bool (.var 14)), (.int .i64 (.bin .add .i64 (.var 7) (.lit 1)))] [])))))))))))))
    (.ret (.bool (.lit true)) [])))))))
theorem S_ref18_Same : FnIs Tryd.prog n_ref18_Same [.sl, .sl] T_ref18_Same := ⟨Tryd.f22, [], 4000, Tryd.func22, by kernel_rfl⟩
/-! 36 ablaut/ablautref18.Row  -/
/-! 38 ablaut/ablautref18.Cells  -/
/-! 39 ablaut/ablautref18.Without  -/
/-! 40 ablaut/ablautref18.Check  -/
/-! 52 ablaut/ablautref18.check  -/
/-! 53 ablaut/ablautref18.cost  -/
/-! 58 ablaut/ablautref18.words  -/
/-! 68 ablaut/ablautref18.column  -/
/-! 79 ablaut/ablautref18.Is  -/
/-! 83 ablaut/ablautref18.without  -/
/-! 92 ablaut/ablautref18.two  -/
end Go.Proofs.YtialbhieaipcgaaDoor
