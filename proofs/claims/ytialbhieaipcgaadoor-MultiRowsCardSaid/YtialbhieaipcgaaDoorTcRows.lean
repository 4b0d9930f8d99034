/- The trees of this seat's functions, printed by a program of mine (SyGen), checked here by the kernel. -/
import Derived.Test.YtialbhieaipcgaaDoorSyDef
import Derived.Test.YtialbhieaipcgaaDoorProg
import Derived.KernelRfl
set_option maxRecDepth 100000
namespace Go.Proofs.YtialbhieaipcgaaDoor
open Go Go.Sy
/-! 13 ablaut/ablautlaw18.MultiRows  -/
abbrev n_law18_MultiRows : FuncId := 13
def T_law18_MultiRows : Tree :=
 (.join 0 [.bool] []
  (.call false 25 [(.sl 0 (.lit 0) (.var 1) (.var 2)), (.int .i64 (.lit 8)), (.int .i64 (.lit 20))] .bool []
  (.ite (.not (.var 6))
   (.again 0 0 [.bool] [(.bool (.lit true))] [])
   (.chk (.cmp .geq (.var 4) (.lit 0))
   (.again 0 0 [.bool] [(.bool (.cmp .gtr (.var 4) (.lit 300)))] []))))
 (.ite (.var 6)
  (.call false 16 [] .bool []
  (.ret (.bool (.var 7)) []))
  (.call false 27 [(.sl 0 (.lit 0) (.var 1) (.var 2)), (.sl 3 (.lit 0) (.var 4) (.var 5))] .sl []
  (.call false 37 [(.sl 0 (.lit 0) (.var 1) (.var 2)), (.sl 7 (.lit 0) (.var 8) (.var 9))] (.tup [.sl, (.int .i64)]) []
  (.join 0 [.bool] []
   (.ite (.cmp .neq (.var 13) (.lit 0))
    (.again 0 0 [.bool] [(.bool (.lit true))] [])
    (.call false 32 [(.sl 0 (.lit 0) (.var 1) (.var 2)), (.sl 7 (.lit 0) (.var 8) (.var 9))] (.int .i64) []
    (.ite (.cmp .neq (.var 14) (.lit 0))
     (.again 0 0 [.bool] [(.bool (.lit true))] [])
     (.chk (.cmp .geq (.var 11) (.lit 0))
     (.chk (.cmp .geq (.var 8) (.lit 0))
     (.again 0 0 [.bool] [(.bool (.cmp .neq (.var 11) (.var 8)))] []))))))
  (.ite (.var 14)
   (.ret (.bool (.lit false)) [])
   (.chk (.cmp .geq (.var 8) (.lit 0))
   (.ext false ⟨(.makeSlice 49 (.tmp 0) (.tmp 0)), 49, [(.int .i64 (.var 8)), (.int .i64 (.var 8))]⟩ .sl []
   (.loop 0 [.bool, (.int .i64)] [(.bool (.lit false)), (.int .i64 (.lit 0))] [] []
    (.chk (.cmp .geq (.var 1) (.lit 0))
    (.ite (.cmp .lss (.var 19) (.var 1))
     (.call false 35 [(.sl 0 (.lit 0) (.var 1) (.var 2)), (.sl 7 (.lit 0) (.var 8) (.var 9)), (.int .i64 (.var 19))] (.tup [.sl, (.int .i64)]) []
     (.join 1 [.bool] []
      (.ite (.cmp .neq (.var 23) (.lit 0))
       (.again 1 0 [.bool] [(.bool (.lit true))] [])
       (.chk (.cmp .geq (.var 21) (.lit 0))
       (.chk (.cmp .geq (.var 8) (.lit 0))
       (.again 1 0 [.bool] [(.bool (.cmp .neq (.var 21) (.var 8)))] []))))
     (.ite (.var 24)
      (.ret (.bool (.lit false)) [])
      (.loop 1 [.bool, (.int .i64), (.int .i64)] [(.bool (.var 18)), (.int .i64 (.lit 0)), (.int .i64 (.lit 0))] [] []
       (.chk (.cmp .geq (.var 21) (.lit 0))
       (.ite (.cmp .lss (.var 27) (.var 21))
        (.join 2 [.bool] []
         (.chk (.pick (.cmp .geq (.var 27) (.lit 0)) (.pick (.cmp .lss (.var 27) (.var 11)) (.some 10) (.lit false)) (.lit false))
         (.load 10 (.off (.var 27) 1 (.lit 0)) [.sl] []
         (.chk (.cmp .geq (.var 29) (.lit 0))
         (.chk (.cmp .geq (.var 1) (.lit 0))
         (.ite (.cmp .neq (.var 29) (.var 1))
          (.again 2 0 [.bool] [(.bool (.lit true))] [])
          (.chk (.pick (.cmp .geq (.var 27) (.lit 0)) (.pick (.cmp .lss (.var 27) (.var 11)) (.some 10) (.lit false)) (.lit false))
          (.load 10 (.off (.var 27) 1 (.lit 0)) [.sl] []
          (.chk (.pick (.cmp .geq (.var 19) (.lit 0)) (.pick (.cmp .lss (.var 19) (.var 32)) (.some 31) (.lit false)) (.lit false))
          (.load 31 (.off (.var 19) 3 (.lit 0)) [(.int .i64), (.int .u32), (.int .u32)] []
          (.chk (.pick (.cmp .geq (.var 27) (.lit 0)) (.pick (.cmp .lss (.var 27) (.var 21)) (.some 20) (.lit false)) (.lit false))
          (.load 20 (.off (.var 27) 3 (.lit 0)) [(.int .i64), (.int .u32), (.int .u32)] []
          (.again 2 0 [.bool] [(.bool (.not (.pick (.cmp .eql (.var 34) (.var 37)) (.pick (.cmp .eql (.var 35) (.var 38)) (.cmp .eql (.var 36) (.var 39)) (.lit false)) (.lit false))))] []))))))))))))
        (.ite (.var 28)
         (.ret (.bool (.lit false)) [])
         (.chk (.pick (.cmp .geq (.var 27) (.lit 0)) (.pick (.cmp .lss (.var 27) (.var 21)) (.some 20) (.lit false)) (.lit false))
         (.chk (.pick (.cmp .geq (.off (.var 27) 3 (.lit 0)) (.lit 0)) (.some 20) (.lit false))
         (.load 20 (.off (.var 27) 3 (.lit 0)) [(.int .i64)] []
         (.join 2 [.bool, (.int .i64)] []
          (.ite (.cmp .eql (.var 29) (.lit 2))
           (.join 3 [.bool] []
            (.chk (.pick (.cmp .geq (.var 19) (.lit 0)) (.pick (.cmp .lss (.var 19) (.var 1)) (.some 0) (.lit false)) (.lit false))
            (.load 0 (.off (.var 19) 1 (.lit 0)) [.sl] []
            (.chk (.cmp .geq (.var 31) (.lit 0))
            (.ite (.cmp .geq (.var 26) (.var 31))
             (.again 3 0 [.bool] [(.bool (.lit true))] [])
             (.chk (.pick (.cmp .geq (.var 27) (.lit 0)) (.pick (.cmp .lss (.var 27) (.var 21)) (.some 20) (.lit false)) (.lit false))
             (.chk (.pick (.cmp .geq (.off (.var 27) 3 (.lit 0)) (.lit 0)) (.some 20) (.lit false))
             (.load 20 (.off (.lit 1) 1 (.off (.var 27) 3 (.lit 0))) [(.int .u32), (.int .u32)] []
             (.chk (.pick (.cmp .geq (.var 19) (.lit 0)) (.pick (.cmp .lss (.var 19) (.var 1)) (.some 0) (.lit false)) (.lit false))
             (.load 0 (.off (.var 19) 1 (.lit 0)) [.sl] []
             (.chk (.pick (.cmp .geq (.var 26) (.lit 0)) (.pick (.cmp .lss (.var 26) (.var 36)) (.some 35) (.lit false)) (.lit false))
             (.load 35 (.off (.var 26) 2 (.lit 0)) [(.int .u32), (.int .u32)] []
             (.again 3 0 [.bool] [(.bool (.not (.pick (.cmp .eql (.var 33) (.var 38)) (.cmp .eql (.var 34) (.var 39)) (.lit false))))] []))))))))))))
           (.ite (.var 30)
            (.ret (.bool (.lit false)) [])
            (.chk (.pick (.cmp .geq (.var 27) (.lit 0)) (.pick (.cmp .lss (.var 27) (.var 16)) (.some 15) (.lit false)) (.lit false))
            (.load 15 (.off (.var 27) 1 (.lit 0)) [(.int .i64)] []
            (.chk (.pick (.cmp .geq (.var 27) (.lit 0)) (.pick (.cmp .lss (.var 27) (.var 16)) (.some 15) (.lit false)) (.lit false))
            (.store false 15 (.off (.var 27) 1 (.lit 0)) [(.int .i64 (.bin .add .i64 (.var 31) (.lit 1)))] []
            (.again 2 0 [.bool, (.int .i64)] [(.bool (.var 25)), (.int .i64 (.bin .add .i64 (.var 26) (.lit 1)))] [])))))))
           (.join 3 [.bool] []
            (.chk (.pick (.cmp .geq (.var 27) (.lit 0)) (.pick (.cmp .lss (.var 27) (.var 21)) (.some 20) (.lit false)) (.lit false))
            (.chk (.pick (.cmp .geq (.off (.var 27) 3 (.lit 0)) (.lit 0)) (.some 20) (.lit false))
            (.load 20 (.off (.var 27) 3 (.lit 0)) [(.int .i64)] []
            (.ite (.cmp .neq (.var 30) (.lit 1))
             (.again 3 0 [.bool] [(.bool (.lit true))] [])
             (.chk (.pick (.cmp .geq (.var 27) (.lit 0)) (.pick (.cmp .lss (.var 27) (.var 21)) (.some 20) (.lit false)) (.lit false))
             (.chk (.pick (.cmp .geq (.off (.var 27) 3 (.lit 0)) (.lit 0)) (.some 20) (.lit false))
             (.load 20 (.off (.lit 1) 1 (.off (.var 27) 3 (.lit 0))) [(.int .u32), (.int .u32)] []
             (.again 3 0 [.bool] [(.bool (.not (.pick (.cmp .eql (.var 31) (.lit 0)) (.cmp .eql (.var 32) (.lit 0)) (.lit false))))] []))))))))
           (.ite (.var 30)
            (.ret (.bool (.lit false)) [])
            (.again 2 0 [.bool, (.int .i64)] [(.bool (.var 25)), (.int .i64 (.var 26))] []))))
         (.again 1 0 [.bool, (.int .i64), (.int .i64)] [(.bool (.var 30)), (.int .i64 (.var 31)), (.int .i64 (.bin .add .i64 (.var 27) (.lit 1)))] [])))))))
        (.chk (.pick (.cmp .geq (.var 19) (.lit 0)) (.pick (.cmp .lss (.var 19) (.var 1)) (.some 0) (.lit false)) (.lit false))
        (.load 0 (.off (.var 19) 1 (.lit 0)) [.sl] []
        (.chk (.cmp .geq (.var 29) (.lit 0))
        (.ite (.cmp .neq (.var 26) (.var 29))
         (.ret (.bool (.lit false)) [])
         (.again 0 0 [.bool, (.int .i64)] [(.bool (.var 25)), (.int .i64 (.bin .add .i64 (.var 19) (.lit 1)))] [])))))))))))
     (.loop 0 [.bool, (.int .i64)] [(.bool (.var 18)), (.int .i64 (.lit 0))] [] []
      (.chk (.cmp .geq (.var 8) (.lit 0))
      (.ite (.cmp .lss (.var 21) (.var 8))
       (.chk (.pick (.cmp .geq (.var 21) (.lit 0)) (.pick (.cmp .lss (.var 21) (.var 16)) (.some 15) (.lit false)) (.lit false))
       (.load 15 (.off (.var 21) 1 (.lit 0)) [(.int .i64)] []
       (.ite (.cmp .eql (.var 22) (.lit 0))
        (.ret (.bool (.lit false)) [])
        (.again 0 0 [.bool, (.int .i64)] [(.bool (.var 20)), (.int .i64 (.bin .add .i64 (.var 21) (.lit 1)))] []))))
       (.call false 16 [] .bool []
       (.ret (.bool (.var 22)) []))))))))))))))))
theorem S_law18_MultiRows : FnIs Tryd.prog n_law18_MultiRows [.sl, .sl] T_law18_MultiRows := ⟨Tryd.f13, [{ key := 200001, tmps := [(22, .bool)], join := true, dead := 2238652278485884850589413898382649082299064459952140 }, { key := 200005, tmps := [(47, .bool)], join := true }, { key := 200012, tmps := [(72, .bool)], join := true }, { key := 200018, tmps := [(100, .bool)], join := true }, { key := 21, tmps := [], join := true }, { key := 200021, tmps := [(128, .bool)], join := true }, { key := 200025, tmps := [(151, .bool)], join := true }], 4000, Tryd.func13, by kernel_rfl⟩
end Go.Proofs.YtialbhieaipcgaaDoor
