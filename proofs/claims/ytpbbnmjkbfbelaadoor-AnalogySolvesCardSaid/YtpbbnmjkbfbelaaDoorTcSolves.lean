/- The trees of this seat's functions, printed by a program of mine (SyGen), checked here by the kernel. -/
import Derived.Test.YtpbbnmjkbfbelaaDoorSyDef
import Derived.Test.YtpbbnmjkbfbelaaDoorProg
import Derived.KernelRfl
set_option maxRecDepth 100000
namespace Go.Proofs.YtpbbnmjkbfbelaaDoor
open Go Go.Sy
/-! 3 ablaut/ablautlaw30.AnalogySolves  -/
abbrev n_law30_AnalogySolves : FuncId := 3
def T_law30_AnalogySolves : Tree :=
 (.chk (.cmp .geq (.var 1) (.lit 0))
 (.ite (.cmp .gtr (.var 1) (.lit 100))
  (.call false 14 [] .bool []
  (.ret (.bool (.var 9)) []))
  (.chk (.cmp .geq (.var 4) (.lit 0))
  (.ite (.cmp .gtr (.var 4) (.lit 100))
   (.call false 14 [] .bool []
   (.ret (.bool (.var 9)) []))
   (.chk (.cmp .geq (.var 7) (.lit 0))
   (.ite (.cmp .gtr (.var 7) (.lit 100))
    (.call false 14 [] .bool []
    (.ret (.bool (.var 9)) []))
    (.call false 15 [(.sl 6 (.lit 0) (.var 7) (.var 8))] .sl []
    (.call false 16 [(.sl 0 (.lit 0) (.var 1) (.var 2)), (.sl 3 (.lit 0) (.var 4) (.var 5)), (.sl 6 (.lit 0) (.var 7) (.var 8))] (.tup [.sl, .bool, (.int .i64)]) []
    (.call false 17 [(.sl 0 (.lit 0) (.var 1) (.var 2)), (.sl 3 (.lit 0) (.var 4) (.var 5)), (.sl 6 (.lit 0) (.var 7) (.var 8))] (.tup [.sl, .bool, (.int .i64)]) []
    (.call false 18 [(.sl 0 (.lit 0) (.var 1) (.var 2)), (.sl 3 (.lit 0) (.var 4) (.var 5)), (.sl 6 (.lit 0) (.var 7) (.var 8))] (.tup [.sl, .bool, (.int .i64)]) []
    (.call false 19 [(.sl 0 (.lit 0) (.var 1) (.var 2)), (.sl 3 (.lit 0) (.var 4) (.var 5)), (.sl 6 (.lit 0) (.var 7) (.var 8))] (.tup [.sl, .bool, (.int .i64)]) []
    (.ite (.pick (.pick (.pick (.not (.beq (.var 15) (.var 20))) (.lit true) (.cmp .neq (.var 16) (.var 21))) (.lit true) (.not (.beq (.var 25) (.var 30)))) (.lit true) (.cmp .neq (.var 26) (.var 31)))
     (.ret (.bool (.lit false)) [])
     (.call false 20 [(.sl 12 (.lit 0) (.var 13) (.var 14)), (.sl 17 (.lit 0) (.var 18) (.var 19))] .bool []
     (.ite (.not (.var 32))
      (.ret (.bool (.lit false)) [])
      (.call false 20 [(.sl 22 (.lit 0) (.var 23) (.var 24)), (.sl 27 (.lit 0) (.var 28) (.var 29))] .bool []
      (.ite (.not (.var 33))
       (.ret (.bool (.lit false)) [])
       (.loop 0 [(.int .i64)] [(.int .i64 (.lit 0))] [] []
        (.chk (.cmp .geq (.var 13) (.lit 0))
        (.ite (.cmp .lss (.var 34) (.var 13))
         (.chk (.pick (.cmp .geq (.var 34) (.lit 0)) (.pick (.cmp .lss (.var 34) (.var 13)) (.some 12) (.lit false)) (.lit false))
         (.store false 12 (.off (.var 34) 2 (.lit 0)) [(.int .u32 (.lit 0)), (.int .u32 (.lit 0))] []
         (.again 0 0 [(.int .i64)] [(.int .i64 (.bin .add .i64 (.var 34) (.lit 1)))] [])))
         (.loop 0 [(.int .i64)] [(.int .i64 (.lit 0))] [] []
          (.chk (.cmp .geq (.var 23) (.lit 0))
          (.ite (.cmp .lss (.var 35) (.var 23))
           (.chk (.pick (.cmp .geq (.var 35) (.lit 0)) (.pick (.cmp .lss (.var 35) (.var 23)) (.some 22) (.lit false)) (.lit false))
           (.store false 22 (.off (.var 35) 2 (.lit 0)) [(.int .u32 (.lit 0)), (.int .u32 (.lit 0))] []
           (.again 0 0 [(.int .i64)] [(.int .i64 (.bin .add .i64 (.var 35) (.lit 1)))] [])))
           (.call false 20 [(.sl 6 (.lit 0) (.var 7) (.var 8)), (.sl 9 (.lit 0) (.var 10) (.var 11))] .bool []
           (.ite (.var 36)
            (.call false 14 [] .bool []
            (.ret (.bool (.var 37)) []))
            (.ret (.bool (.lit false)) [])))))))))))))))))))))))))
theorem S_law30_AnalogySolves : FnIs Tryd.prog n_law30_AnalogySolves [.sl, .sl, .sl] T_law30_AnalogySolves := ⟨Tryd.f3, [], 4000, Tryd.func3, by kernel_rfl⟩
end Go.Proofs.YtpbbnmjkbfbelaaDoor
