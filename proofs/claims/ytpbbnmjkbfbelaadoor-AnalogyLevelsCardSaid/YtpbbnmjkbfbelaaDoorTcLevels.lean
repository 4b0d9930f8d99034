/- The trees of this seat's functions, printed by a program of mine (SyGen), checked here by the kernel. -/
import Derived.Test.YtpbbnmjkbfbelaaDoorSyDef
import Derived.Test.YtpbbnmjkbfbelaaDoorProg
import Derived.KernelRfl
set_option maxRecDepth 100000
namespace Go.Proofs.YtpbbnmjkbfbelaaDoor
open Go Go.Sy
/-! 5 ablaut/ablautlaw30.AnalogyLevels  -/
abbrev n_law30_AnalogyLevels : FuncId := 5
def T_law30_AnalogyLevels : Tree :=
 (.chk (.cmp .geq (.var 1) (.lit 0))
 (.ite (.cmp .gtr (.var 1) (.lit 100))
  (.call false 14 [] .bool []
  (.ret (.bool (.var 5)) []))
  (.loop 0 [.bool, (.int .i64), (.int .i64)] [(.bool (.lit false)), (.int .i64 (.lit 0)), (.int .i64 (.lit 0))] [] []
   (.chk (.cmp .geq (.var 1) (.lit 0))
   (.ite (.cmp .lss (.var 7) (.var 1))
    (.chk (.pick (.cmp .geq (.var 7) (.lit 0)) (.pick (.cmp .lss (.var 7) (.var 1)) (.some 0) (.lit false)) (.lit false))
    (.load 0 (.off (.var 7) 1 (.lit 0)) [.sl] []
    (.chk (.cmp .geq (.var 9) (.lit 0))
    (.loop 1 [.bool, (.int .i64)] [(.bool (.var 5)), (.int .i64 (.lit 0))] [] []
     (.chk (.pick (.cmp .geq (.var 7) (.lit 0)) (.pick (.cmp .lss (.var 7) (.var 1)) (.some 0) (.lit false)) (.lit false))
     (.load 0 (.off (.var 7) 1 (.lit 0)) [.sl] []
     (.chk (.cmp .geq (.var 14) (.lit 0))
     (.ite (.pick (.cmp .lss (.var 12) (.var 14)) (.cmp .lss (.var 12) (.lit 301)) (.lit false))
      (.chk (.pick (.cmp .geq (.var 7) (.lit 0)) (.pick (.cmp .lss (.var 7) (.var 1)) (.some 0) (.lit false)) (.lit false))
      (.load 0 (.off (.var 7) 1 (.lit 0)) [.sl] []
      (.chk (.pick (.cmp .geq (.var 12) (.lit 0)) (.pick (.cmp .lss (.var 12) (.var 17)) (.some 16) (.lit false)) (.lit false))
      (.chk (.pick (.cmp .geq (.off (.var 12) 2 (.lit 0)) (.lit 0)) (.some 16) (.lit false))
      (.load 16 (.off (.lit 1) 1 (.off (.var 12) 2 (.lit 0))) [.sl] []
      (.chk (.cmp .geq (.var 20) (.lit 0))
      (.ite (.cmp .gtr (.var 20) (.lit 100))
       (.call false 14 [] .bool []
       (.ret (.bool (.var 22)) []))
       (.again 1 0 [.bool, (.int .i64)] [(.bool (.var 11)), (.int .i64 (.bin .add .i64 (.var 12) (.lit 1)))] []))))))))
      (.again 0 0 [.bool, (.int .i64), (.int .i64)] [(.bool (.var 11)), (.int .i64 (.bin .add .i64 (.var 6) (.var 9))), (.int .i64 (.bin .add .i64 (.var 7) (.lit 1)))] [])))))))))
    (.ite (.cmp .gtr (.var 6) (.lit 300))
     (.call false 14 [] .bool []
     (.ret (.bool (.var 8)) []))
     (.loop 0 [.sl, (.int .i64)] [(.cst (.slice none 0 0)), (.int .i64 (.lit 0))] [] []
      (.chk (.cmp .geq (.var 1) (.lit 0))
      (.ite (.cmp .lss (.var 11) (.var 1))
       (.loop 1 [.sl, (.int .i64)] [(.cst (.slice none 0 0)), (.int .i64 (.lit 0))] [] []
        (.chk (.pick (.cmp .geq (.var 11) (.lit 0)) (.pick (.cmp .lss (.var 11) (.var 1)) (.some 0) (.lit false)) (.lit false))
        (.load 0 (.off (.var 11) 1 (.lit 0)) [.sl] []
        (.chk (.cmp .geq (.var 17) (.lit 0))
        (.ite (.cmp .lss (.var 15) (.var 17))
         (.chk (.pick (.cmp .geq (.var 11) (.lit 0)) (.pick (.cmp .lss (.var 11) (.var 1)) (.some 0) (.lit false)) (.lit false))
         (.load 0 (.off (.var 11) 1 (.lit 0)) [.sl] []
         (.chk (.pick (.cmp .geq (.var 15) (.lit 0)) (.pick (.cmp .lss (.var 15) (.var 20)) (.some 19) (.lit false)) (.lit false))
         (.chk (.pick (.cmp .geq (.off (.var 15) 2 (.lit 0)) (.lit 0)) (.some 19) (.lit false))
         (.load 19 (.off (.var 15) 2 (.lit 0)) [.bool] []
         (.chk (.pick (.cmp .geq (.var 11) (.lit 0)) (.pick (.cmp .lss (.var 11) (.var 1)) (.some 0) (.lit false)) (.lit false))
         (.load 0 (.off (.var 11) 1 (.lit 0)) [.sl] []
         (.chk (.pick (.cmp .geq (.var 15) (.lit 0)) (.pick (.cmp .lss (.var 15) (.var 24)) (.some 23) (.lit false)) (.lit false))
         (.chk (.pick (.cmp .geq (.off (.var 15) 2 (.lit 0)) (.lit 0)) (.some 23) (.lit false))
         (.load 23 (.off (.lit 1) 1 (.off (.var 15) 2 (.lit 0))) [.sl] []
         (.call true 15 [(.sl 26 (.lit 0) (.var 27) (.var 28))] .sl []
         (.alloc
         (.ext false ⟨(.call ⟨.builtin .append, #[(.tmp 0), (.tmp 0)], #[39, 39]⟩), 39, [(.sl 12 (.lit 0) (.var 13) (.var 14)), (.slc 0 0 1 1)]⟩ .sl [⟨[(.bool (.var 22)), (.sl 29 (.lit 0) (.var 30) (.var 31))], 41⟩]
         (.again 1 0 [.sl, (.int .i64)] [(.sl 32 (.lit 0) (.var 33) (.var 34)), (.int .i64 (.bin .add .i64 (.var 15) (.lit 1)))] [⟨[(.bool (.var 22)), (.sl 29 (.lit 0) (.var 30) (.var 31))], 41⟩]))))))))))))))
         (.alloc
         (.ext false ⟨(.call ⟨.builtin .append, #[(.tmp 0), (.tmp 0)], #[38, 38]⟩), 38, [(.sl 8 (.lit 0) (.var 9) (.var 10)), (.slc 0 0 1 1)]⟩ .sl [⟨[(.sl 12 (.lit 0) (.var 13) (.var 14))], 39⟩]
         (.again 0 0 [.sl, (.int .i64)] [(.sl 19 (.lit 0) (.var 20) (.var 21)), (.int .i64 (.bin .add .i64 (.var 11) (.lit 1)))] [⟨[(.sl 12 (.lit 0) (.var 13) (.var 14))], 39⟩]))))))))
       (.call false 24 [(.sl 0 (.lit 0) (.var 1) (.var 2)), (.int .i64 (.var 3)), (.int .i64 (.var 4))] (.tup [.sl, (.int .i64)]) []
       (.call false 25 [(.sl 0 (.lit 0) (.var 1) (.var 2)), (.int .i64 (.var 3)), (.int .i64 (.var 4))] (.tup [.sl, (.int .i64)]) []
       (.join 0 [.bool] []
        (.ite (.cmp .neq (.var 15) (.var 19))
         (.again 0 0 [.bool] [(.bool (.lit true))] [])
         (.call false 26 [(.sl 12 (.lit 0) (.var 13) (.var 14)), (.sl 16 (.lit 0) (.var 17) (.var 18))] .bool []
         (.again 0 0 [.bool] [(.bool (.not (.var 20)))] [])))
       (.ite (.var 20)
        (.ret (.bool (.lit false)) [])
        (.loop 0 [(.int .i64)] [(.int .i64 (.lit 0))] [] []
         (.chk (.cmp .geq (.var 13) (.lit 0))
         (.ite (.cmp .lss (.var 21) (.var 13))
          (.loop 1 [(.int .i64)] [(.int .i64 (.lit 0))] [] []
           (.chk (.pick (.cmp .geq (.var 21) (.lit 0)) (.pick (.cmp .lss (.var 21) (.var 13)) (.some 12) (.lit false)) (.lit false))
           (.load 12 (.off (.var 21) 1 (.lit 0)) [.sl] []
           (.chk (.cmp .geq (.var 24) (.lit 0))
           (.ite (.cmp .lss (.var 22) (.var 24))
            (.loop 2 [(.int .i64)] [(.int .i64 (.lit 0))] [] []
             (.chk (.pick (.cmp .geq (.var 21) (.lit 0)) (.pick (.cmp .lss (.var 21) (.var 13)) (.some 12) (.lit false)) (.lit false))
             (.load 12 (.off (.var 21) 1 (.lit 0)) [.sl] []
             (.chk (.pick (.cmp .geq (.var 22) (.lit 0)) (.pick (.cmp .lss (.var 22) (.var 28)) (.some 27) (.lit false)) (.lit false))
             (.chk (.pick (.cmp .geq (.off (.var 22) 2 (.lit 0)) (.lit 0)) (.some 27) (.lit false))
             (.load 27 (.off (.lit 1) 1 (.off (.var 22) 2 (.lit 0))) [.sl] []
             (.chk (.cmp .geq (.var 31) (.lit 0))
             (.ite (.cmp .lss (.var 26) (.var 31))
              (.chk (.pick (.cmp .geq (.var 21) (.lit 0)) (.pick (.cmp .lss (.var 21) (.var 13)) (.some 12) (.lit false)) (.lit false))
              (.load 12 (.off (.var 21) 1 (.lit 0)) [.sl] []
              (.chk (.pick (.cmp .geq (.var 22) (.lit 0)) (.pick (.cmp .lss (.var 22) (.var 34)) (.some 33) (.lit false)) (.lit false))
              (.chk (.pick (.cmp .geq (.off (.var 22) 2 (.lit 0)) (.lit 0)) (.some 33) (.lit false))
              (.load 33 (.off (.lit 1) 1 (.off (.var 22) 2 (.lit 0))) [.sl] []
              (.chk (.pick (.cmp .geq (.var 26) (.lit 0)) (.pick (.cmp .lss (.var 26) (.var 37)) (.some 36) (.lit false)) (.lit false))
              (.store false 36 (.off (.var 26) 2 (.lit 0)) [(.int .u32 (.lit 1)), (.int .u32 (.lit 1))] []
              (.again 2 0 [(.int .i64)] [(.int .i64 (.bin .add .i64 (.var 26) (.lit 1)))] []))))))))
              (.chk (.pick (.cmp .geq (.var 21) (.lit 0)) (.pick (.cmp .lss (.var 21) (.var 13)) (.some 12) (.lit false)) (.lit false))
              (.load 12 (.off (.var 21) 1 (.lit 0)) [.sl] []
              (.chk (.pick (.cmp .geq (.var 21) (.lit 0)) (.pick (.cmp .lss (.var 21) (.var 13)) (.some 12) (.lit false)) (.lit false))
              (.load 12 (.off (.var 21) 1 (.lit 0)) [.sl] []
              (.chk (.pick (.cmp .geq (.var 22) (.lit 0)) (.pick (.cmp .lss (.var 22) (.var 37)) (.some 36) (.lit false)) (.lit false))
              (.chk (.pick (.cmp .geq (.off (.var 22) 2 (.lit 0)) (.lit 0)) (.some 36) (.lit false))
              (.load 36 (.off (.var 22) 2 (.lit 0)) [.bool] []
              (.chk (.pick (.cmp .geq (.var 22) (.lit 0)) (.pick (.cmp .lss (.var 22) (.var 34)) (.some 33) (.lit false)) (.lit false))
              (.chk (.pick (.cmp .geq (.off (.var 22) 2 (.lit 0)) (.lit 0)) (.some 33) (.lit false))
              (.store false 33 (.off (.var 22) 2 (.lit 0)) [(.bool (.not (.var 39)))] []
              (.again 1 0 [(.int .i64)] [(.int .i64 (.bin .add .i64 (.var 22) (.lit 1)))] [])))))))))))))))))))
            (.again 0 0 [(.int .i64)] [(.int .i64 (.bin .add .i64 (.var 21) (.lit 1)))] []))))))
          (.join 0 [.bool] []
           (.call false 26 [(.sl 0 (.lit 0) (.var 1) (.var 2)), (.sl 8 (.lit 0) (.var 9) (.var 10))] .bool []
           (.ite (.var 22)
            (.call false 14 [] .bool []
            (.again 0 0 [.bool] [(.bool (.var 23))] []))
            (.again 0 0 [.bool] [(.bool (.lit false))] [])))
          (.ret (.bool (.var 22)) []))))))))))))))))))
theorem S_law30_AnalogyLevels : FnIs Tryd.prog n_law30_AnalogyLevels [.sl, (.int .i64), (.int .i64)] T_law30_AnalogyLevels := ⟨Tryd.f5, [{ key := 200027, tmps := [(127, .bool)], join := true, dead := 784637716911915717248850971860568577414870333749601501240 }, { key := 200040, tmps := [], join := true }], 4000, Tryd.func5, by kernel_rfl⟩
end Go.Proofs.YtpbbnmjkbfbelaaDoor
