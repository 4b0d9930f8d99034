/- The trees of this seat's functions, printed by a program of mine (SyGen), checked here by the kernel. -/
import Derived.Test.YtpbbnmjkbfbelaaDoorSyDef
import Derived.Test.YtpbbnmjkbfbelaaDoorProg
import Derived.KernelRfl
set_option maxRecDepth 100000
namespace Go.Proofs.YtpbbnmjkbfbelaaDoor
open Go Go.Sy
/-! 13 ablaut/ablautlaw30.AnalogySums  -/
abbrev n_law30_AnalogySums : FuncId := 13
def T_law30_AnalogySums : Tree :=
 (.join 0 [.bool] []
  (.chk (.cmp .geq (.var 1) (.lit 0))
  (.ite (.cmp .gtr (.var 1) (.lit 12))
   (.again 0 0 [.bool] [(.bool (.lit true))] [])
   (.alloc
   (.call false 27 [(.slc 0 0 2 2)] .bool [⟨[(.sl 3 (.lit 0) (.var 4) (.var 5)), (.sl 6 (.lit 0) (.var 7) (.var 8))], 22⟩]
   (.again 0 0 [.bool] [(.bool (.not (.var 9)))] [⟨[(.sl 3 (.lit 0) (.var 4) (.var 5)), (.sl 6 (.lit 0) (.var 7) (.var 8))], 22⟩])))))
 (.ite (.var 9)
  (.call false 14 [] .bool []
  (.ret (.bool (.var 10)) []))
  (.loop 0 [.bool, (.int .i64)] [(.bool (.lit false)), (.int .i64 (.lit 0))] [] []
   (.chk (.cmp .geq (.var 1) (.lit 0))
   (.ite (.cmp .lss (.var 11) (.var 1))
    (.chk (.pick (.cmp .geq (.var 11) (.lit 0)) (.pick (.cmp .lss (.var 11) (.var 1)) (.some 0) (.lit false)) (.lit false))
    (.chk (.pick (.cmp .geq (.off (.var 11) 2 (.lit 0)) (.lit 0)) (.some 0) (.lit false))
    (.load 0 (.off (.var 11) 2 (.lit 0)) [.sl] []
    (.chk (.pick (.cmp .geq (.var 11) (.lit 0)) (.pick (.cmp .lss (.var 11) (.var 1)) (.some 0) (.lit false)) (.lit false))
    (.chk (.pick (.cmp .geq (.off (.var 11) 2 (.lit 0)) (.lit 0)) (.some 0) (.lit false))
    (.load 0 (.off (.lit 1) 1 (.off (.var 11) 2 (.lit 0))) [.sl] []
    (.alloc
    (.call false 27 [(.slc 0 0 2 2)] .bool [⟨[(.sl 12 (.lit 0) (.var 13) (.var 14)), (.sl 15 (.lit 0) (.var 16) (.var 17))], 22⟩]
    (.ite (.not (.var 18))
     (.call false 14 [] .bool [⟨[(.sl 12 (.lit 0) (.var 13) (.var 14)), (.sl 15 (.lit 0) (.var 16) (.var 17))], 22⟩]
     (.ret (.bool (.var 19)) [⟨[(.sl 12 (.lit 0) (.var 13) (.var 14)), (.sl 15 (.lit 0) (.var 16) (.var 17))], 22⟩]))
     (.again 0 0 [.bool, (.int .i64)] [(.bool (.var 10)), (.int .i64 (.bin .add .i64 (.var 11) (.lit 1)))] [⟨[(.sl 12 (.lit 0) (.var 13) (.var 14)), (.sl 15 (.lit 0) (.var 16) (.var 17))], 22⟩]))))))))))
    (.loop 0 [.bool, (.int .i64), (.int .i64), (.int .i64)] [(.bool (.var 10)), (.int .i64 (.lit 0)), (.int .i64 (.lit (-1))), (.int .i64 (.lit 0))] [] []
     (.chk (.cmp .geq (.var 1) (.lit 0))
     (.ite (.cmp .lss (.var 15) (.var 1))
      (.chk (.pick (.cmp .geq (.var 15) (.lit 0)) (.pick (.cmp .lss (.var 15) (.var 1)) (.some 0) (.lit false)) (.lit false))
      (.chk (.pick (.cmp .geq (.off (.var 15) 2 (.lit 0)) (.lit 0)) (.some 0) (.lit false))
      (.load 0 (.off (.var 15) 2 (.lit 0)) [.sl] []
      (.chk (.pick (.cmp .geq (.var 15) (.lit 0)) (.pick (.cmp .lss (.var 15) (.var 1)) (.some 0) (.lit false)) (.lit false))
      (.chk (.pick (.cmp .geq (.off (.var 15) 2 (.lit 0)) (.lit 0)) (.some 0) (.lit false))
      (.load 0 (.off (.lit 1) 1 (.off (.var 15) 2 (.lit 0))) [.sl] []
      (.call false 31 [(.sl 16 (.lit 0) (.var 17) (.var 18)), (.sl 19 (.lit 0) (.var 20) (.var 21)), (.sl 3 (.lit 0) (.var 4) (.var 5)), (.sl 6 (.lit 0) (.var 7) (.var 8))] (.tup [.bool, (.int .i64)]) []
      (.ite (.cmp .neq (.var 23) (.lit 0))
       (.ret (.bool (.lit false)) [])
       (.join 1 [(.int .i64), (.int .i64)] []
        (.ite (.var 22)
         (.join 2 [(.int .i64)] []
          (.ite (.cmp .lss (.var 14) (.lit 0))
           (.again 2 0 [(.int .i64)] [(.int .i64 (.var 15))] [])
           (.again 2 0 [(.int .i64)] [(.int .i64 (.var 14))] []))
         (.again 1 0 [(.int .i64), (.int .i64)] [(.int .i64 (.bin .add .i64 (.var 13) (.lit 1))), (.int .i64 (.var 24))] []))
         (.again 1 0 [(.int .i64), (.int .i64)] [(.int .i64 (.var 13)), (.int .i64 (.var 14))] []))
       (.again 0 0 [.bool, (.int .i64), (.int .i64), (.int .i64)] [(.bool (.var 12)), (.int .i64 (.var 24)), (.int .i64 (.var 25)), (.int .i64 (.bin .add .i64 (.var 15) (.lit 1)))] []))))))))))
      (.call false 36 [(.sl 0 (.lit 0) (.var 1) (.var 2)), (.sl 3 (.lit 0) (.var 4) (.var 5)), (.sl 6 (.lit 0) (.var 7) (.var 8))] (.tup [(.int .i64), (.int .i64)]) []
      (.call false 34 [(.sl 0 (.lit 0) (.var 1) (.var 2)), (.sl 3 (.lit 0) (.var 4) (.var 5)), (.sl 6 (.lit 0) (.var 7) (.var 8))] (.tup [(.int .i64), .bool, (.int .i64)]) []
      (.join 0 [.bool] []
       (.ite (.pick (.pick (.pick (.pick (.cmp .eql (.var 17) (.lit 0)) (.cmp .eql (.var 20) (.lit 0)) (.lit false)) (.cmp .eql (.var 16) (.var 13)) (.lit false)) (.beq (.var 19) (.cmp .geq (.var 14) (.lit 0))) (.lit false)) (.cmp .eql (.var 18) (.mx (.var 14) (.lit 0))) (.lit false))
        (.call false 14 [] .bool []
        (.again 0 0 [.bool] [(.bool (.var 21))] []))
        (.again 0 0 [.bool] [(.bool (.lit false))] []))
      (.ret (.bool (.var 21)) []))))))))))))
theorem S_law30_AnalogySums : FnIs Tryd.prog n_law30_AnalogySums [.sl, .sl, .sl] T_law30_AnalogySums := ⟨Tryd.f13, [{ key := 200001, tmps := [(27, .bool)], join := true, dead := 1329227995784750590072262281152692280 }, { key := 16, tmps := [], join := true }, { key := 18, tmps := [], join := true }, { key := 200021, tmps := [], join := true }], 4000, Tryd.func13, by kernel_rfl⟩
end Go.Proofs.YtpbbnmjkbfbelaaDoor
