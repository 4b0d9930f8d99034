/- The trees of this seat's functions, printed by a program of mine (SyGen), checked here by the kernel. -/
import Derived.Test.YtpbbnmjkbfbelaaDoorSyDef
import Derived.Test.YtpbbnmjkbfbelaaDoorProg
import Derived.KernelRfl
set_option maxRecDepth 100000
namespace Go.Proofs.YtpbbnmjkbfbelaaDoor
open Go Go.Sy
/-! 11 ablaut/ablautlaw30.AnalogyMost  -/
abbrev n_law30_AnalogyMost : FuncId := 11
def T_law30_AnalogyMost : Tree :=
 (.join 0 [.bool] []
  (.chk (.cmp .geq (.var 1) (.lit 0))
  (.ite (.cmp .gtr (.var 1) (.lit 12))
   (.again 0 0 [.bool] [(.bool (.lit true))] [])
   (.alloc
   (.call false 27 [(.slc 0 0 1 1)] .bool [⟨[(.sl 3 (.lit 0) (.var 4) (.var 5))], 22⟩]
   (.again 0 0 [.bool] [(.bool (.not (.var 6)))] [⟨[(.sl 3 (.lit 0) (.var 4) (.var 5))], 22⟩])))))
 (.ite (.var 6)
  (.call false 14 [] .bool []
  (.ret (.bool (.var 7)) []))
  (.loop 0 [.bool, (.int .i64)] [(.bool (.lit false)), (.int .i64 (.lit 0))] [] []
   (.chk (.cmp .geq (.var 1) (.lit 0))
   (.ite (.cmp .lss (.var 8) (.var 1))
    (.chk (.pick (.cmp .geq (.var 8) (.lit 0)) (.pick (.cmp .lss (.var 8) (.var 1)) (.some 0) (.lit false)) (.lit false))
    (.chk (.pick (.cmp .geq (.off (.var 8) 2 (.lit 0)) (.lit 0)) (.some 0) (.lit false))
    (.load 0 (.off (.var 8) 2 (.lit 0)) [.sl] []
    (.chk (.pick (.cmp .geq (.var 8) (.lit 0)) (.pick (.cmp .lss (.var 8) (.var 1)) (.some 0) (.lit false)) (.lit false))
    (.chk (.pick (.cmp .geq (.off (.var 8) 2 (.lit 0)) (.lit 0)) (.some 0) (.lit false))
    (.load 0 (.off (.lit 1) 1 (.off (.var 8) 2 (.lit 0))) [.sl] []
    (.alloc
    (.call false 27 [(.slc 0 0 2 2)] .bool [⟨[(.sl 9 (.lit 0) (.var 10) (.var 11)), (.sl 12 (.lit 0) (.var 13) (.var 14))], 22⟩]
    (.ite (.not (.var 15))
     (.call false 14 [] .bool [⟨[(.sl 9 (.lit 0) (.var 10) (.var 11)), (.sl 12 (.lit 0) (.var 13) (.var 14))], 22⟩]
     (.ret (.bool (.var 16)) [⟨[(.sl 9 (.lit 0) (.var 10) (.var 11)), (.sl 12 (.lit 0) (.var 13) (.var 14))], 22⟩]))
     (.again 0 0 [.bool, (.int .i64)] [(.bool (.var 7)), (.int .i64 (.bin .add .i64 (.var 8) (.lit 1)))] [⟨[(.sl 9 (.lit 0) (.var 10) (.var 11)), (.sl 12 (.lit 0) (.var 13) (.var 14))], 22⟩]))))))))))
    (.call false 22 [(.sl 0 (.lit 0) (.var 1) (.var 2)), (.sl 3 (.lit 0) (.var 4) (.var 5))] (.tup [.sl, (.int .i64), (.int .i64)]) []
    (.loop 0 [.bool, .bool, (.int .i64)] [(.bool (.var 7)), (.bool (.lit false)), (.int .i64 (.lit 0))] [] []
     (.chk (.cmp .geq (.var 1) (.lit 0))
     (.ite (.cmp .lss (.var 16) (.var 1))
      (.loop 1 [.bool, .bool, (.int .i64)] [(.bool (.var 14)), (.bool (.var 15)), (.int .i64 (.lit 0))] [] []
       (.ite (.cmp .lss (.var 19) (.lit 2))
        (.join 2 [.bool, .bool] []
         (.chk (.pick (.cmp .geq (.var 16) (.lit 0)) (.pick (.cmp .lss (.var 16) (.var 1)) (.some 0) (.lit false)) (.lit false))
         (.chk (.pick (.cmp .geq (.off (.var 16) 2 (.lit 0)) (.lit 0)) (.some 0) (.lit false))
         (.load 0 (.off (.var 16) 2 (.lit 0)) [.sl] []
         (.chk (.pick (.cmp .geq (.var 16) (.lit 0)) (.pick (.cmp .lss (.var 16) (.var 1)) (.some 0) (.lit false)) (.lit false))
         (.chk (.pick (.cmp .geq (.off (.var 16) 2 (.lit 0)) (.lit 0)) (.some 0) (.lit false))
         (.load 0 (.off (.lit 1) 1 (.off (.var 16) 2 (.lit 0))) [.sl] []
         (.call false 16 [(.sl 20 (.lit 0) (.var 21) (.var 22)), (.sl 23 (.lit 0) (.var 24) (.var 25)), (.sl 3 (.lit 0) (.var 4) (.var 5))] (.tup [.sl, .bool, (.int .i64)]) []
         (.join 3 [.sl, .bool, (.int .i64)] []
          (.ite (.cmp .eql (.var 19) (.lit 1))
           (.chk (.pick (.cmp .geq (.var 16) (.lit 0)) (.pick (.cmp .lss (.var 16) (.var 1)) (.some 0) (.lit false)) (.lit false))
           (.chk (.pick (.cmp .geq (.off (.var 16) 2 (.lit 0)) (.lit 0)) (.some 0) (.lit false))
           (.load 0 (.off (.var 16) 2 (.lit 0)) [.sl] []
           (.chk (.pick (.cmp .geq (.var 16) (.lit 0)) (.pick (.cmp .lss (.var 16) (.var 1)) (.some 0) (.lit false)) (.lit false))
           (.chk (.pick (.cmp .geq (.off (.var 16) 2 (.lit 0)) (.lit 0)) (.some 0) (.lit false))
           (.load 0 (.off (.lit 1) 1 (.off (.var 16) 2 (.lit 0))) [.sl] []
           (.call false 18 [(.sl 31 (.lit 0) (.var 32) (.var 33)), (.sl 34 (.lit 0) (.var 35) (.var 36)), (.sl 3 (.lit 0) (.var 4) (.var 5))] (.tup [.sl, .bool, (.int .i64)]) []
           (.again 3 0 [.sl, .bool, (.int .i64)] [(.sl 37 (.lit 0) (.var 38) (.var 39)), (.bool (.var 40)), (.int .i64 (.var 41))] []))))))))
           (.again 3 0 [.sl, .bool, (.int .i64)] [(.sl 26 (.lit 0) (.var 27) (.var 28)), (.bool (.var 29)), (.int .i64 (.var 30))] []))
         (.ite (.pick (.cmp .neq (.var 35) (.lit 0)) (.lit true) (.not (.var 34)))
          (.again 2 0 [.bool, .bool] [(.bool (.var 17)), (.bool (.var 18))] [])
          (.call false 36 [(.sl 0 (.lit 0) (.var 1) (.var 2)), (.sl 3 (.lit 0) (.var 4) (.var 5)), (.sl 31 (.lit 0) (.var 32) (.var 33))] (.tup [(.int .i64), (.int .i64)]) []
          (.join 3 [.bool] []
           (.ite (.not (.pick (.pick (.pick (.cmp .neq (.var 37) (.lit 0)) (.lit true) (.cmp .lss (.var 36) (.lit 1))) (.lit true) (.cmp .neq (.var 13) (.lit 0))) (.lit true) (.cmp .gtr (.var 36) (.var 12))))
            (.ite (.cmp .eql (.var 36) (.var 12))
             (.call false 38 [(.sl 31 (.lit 0) (.var 32) (.var 33)), (.sl 9 (.lit 0) (.var 10) (.var 11))] (.int .i64) []
             (.again 3 0 [.bool] [(.bool (.cmp .lss (.var 38) (.lit 0)))] []))
             (.again 3 0 [.bool] [(.bool (.lit false))] []))
            (.again 3 0 [.bool] [(.bool (.lit true))] []))
          (.ite (.var 38)
           (.ret (.bool (.lit false)) [])
           (.again 2 0 [.bool, .bool] [(.bool (.var 17)), (.bool (.lit true))] [])))))))))))))
        (.again 1 0 [.bool, .bool, (.int .i64)] [(.bool (.var 20)), (.bool (.var 21)), (.int .i64 (.bin .add .i64 (.var 19) (.lit 1)))] []))
        (.again 0 0 [.bool, .bool, (.int .i64)] [(.bool (.var 17)), (.bool (.var 18)), (.int .i64 (.bin .add .i64 (.var 16) (.lit 1)))] [])))
      (.ite (.cmp .neq (.var 13) (.lit 0))
       (.join 0 [.bool] []
        (.ite (.pick (.cmp .eql (.var 13) (.lit 5)) (.not (.var 15)) (.lit false))
         (.chk (.cmp .geq (.var 10) (.lit 0))
         (.ite (.pick (.cmp .eql (.var 10) (.lit 0)) (.cmp .eql (.var 12) (.lit 0)) (.lit false))
          (.call false 14 [] .bool []
          (.again 0 0 [.bool] [(.bool (.var 17))] []))
          (.again 0 0 [.bool] [(.bool (.lit false))] [])))
         (.again 0 0 [.bool] [(.bool (.lit false))] []))
       (.ret (.bool (.var 17)) []))
       (.call false 36 [(.sl 0 (.lit 0) (.var 1) (.var 2)), (.sl 3 (.lit 0) (.var 4) (.var 5)), (.sl 9 (.lit 0) (.var 10) (.var 11))] (.tup [(.int .i64), (.int .i64)]) []
       (.join 0 [.bool] []
        (.ite (.pick (.pick (.pick (.var 15) (.cmp .eql (.var 18) (.lit 0)) (.lit false)) (.cmp .eql (.var 17) (.var 12)) (.lit false)) (.cmp .geq (.var 12) (.lit 1)) (.lit false))
         (.call false 14 [] .bool []
         (.again 0 0 [.bool] [(.bool (.var 19))] []))
         (.again 0 0 [.bool] [(.bool (.lit false))] []))
       (.ret (.bool (.var 19)) [])))))))))))))
theorem S_law30_AnalogyMost : FnIs Tryd.prog n_law30_AnalogyMost [.sl, .sl] T_law30_AnalogyMost := ⟨Tryd.f11, [{ key := 200001, tmps := [(27, .bool)], join := true, dead := 12259964326925368621148100447440662271262123865249677324 }, { key := 100005, tmps := [], join := true }, { key := 18, tmps := [], join := true }, { key := 200022, tmps := [(138, .bool)], join := true }, { key := 200025, tmps := [], join := true }, { key := 200027, tmps := [], join := true }], 4000, Tryd.func11, by kernel_rfl⟩
end Go.Proofs.YtpbbnmjkbfbelaaDoor
