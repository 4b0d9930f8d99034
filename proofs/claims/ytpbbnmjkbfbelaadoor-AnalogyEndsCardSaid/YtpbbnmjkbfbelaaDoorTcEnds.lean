/- The trees of this seat's functions, printed by a program of mine (SyGen), checked here by the kernel. -/
import Derived.Test.YtpbbnmjkbfbelaaDoorSyDef
import Derived.Test.YtpbbnmjkbfbelaaDoorProg
import Derived.KernelRfl
set_option maxRecDepth 100000
namespace Go.Proofs.YtpbbnmjkbfbelaaDoor
open Go Go.Sy
/-! 9 ablaut/ablautlaw30.AnalogyEnds  -/
abbrev n_law30_AnalogyEnds : FuncId := 9
def T_law30_AnalogyEnds : Tree :=
 (.join 0 [.bool] []
  (.alloc
  (.call false 27 [(.slc 0 0 4 4)] .bool [⟨[(.sl 0 (.lit 0) (.var 1) (.var 2)), (.sl 3 (.lit 0) (.var 4) (.var 5)), (.sl 6 (.lit 0) (.var 7) (.var 8)), (.sl 9 (.lit 0) (.var 10) (.var 11))], 22⟩]
  (.ite (.not (.var 12))
   (.again 0 0 [.bool] [(.bool (.lit true))] [⟨[(.sl 0 (.lit 0) (.var 1) (.var 2)), (.sl 3 (.lit 0) (.var 4) (.var 5)), (.sl 6 (.lit 0) (.var 7) (.var 8)), (.sl 9 (.lit 0) (.var 10) (.var 11))], 22⟩])
   (.chk (.cmp .geq (.var 1) (.lit 0))
   (.chk (.cmp .geq (.var 4) (.lit 0))
   (.ite (.cmp .gtr (.bin .add .i64 (.var 1) (.var 4)) (.lit 32))
    (.again 0 0 [.bool] [(.bool (.lit true))] [⟨[(.sl 0 (.lit 0) (.var 1) (.var 2)), (.sl 3 (.lit 0) (.var 4) (.var 5)), (.sl 6 (.lit 0) (.var 7) (.var 8)), (.sl 9 (.lit 0) (.var 10) (.var 11))], 22⟩])
    (.chk (.cmp .geq (.var 1) (.lit 0))
    (.chk (.cmp .geq (.var 10) (.lit 0))
    (.ite (.cmp .gtr (.bin .add .i64 (.var 1) (.var 10)) (.lit 32))
     (.again 0 0 [.bool] [(.bool (.lit true))] [⟨[(.sl 0 (.lit 0) (.var 1) (.var 2)), (.sl 3 (.lit 0) (.var 4) (.var 5)), (.sl 6 (.lit 0) (.var 7) (.var 8)), (.sl 9 (.lit 0) (.var 10) (.var 11))], 22⟩])
     (.chk (.cmp .geq (.var 7) (.lit 0))
     (.chk (.cmp .geq (.var 4) (.lit 0))
     (.ite (.cmp .gtr (.bin .add .i64 (.var 7) (.var 4)) (.lit 32))
      (.again 0 0 [.bool] [(.bool (.lit true))] [⟨[(.sl 0 (.lit 0) (.var 1) (.var 2)), (.sl 3 (.lit 0) (.var 4) (.var 5)), (.sl 6 (.lit 0) (.var 7) (.var 8)), (.sl 9 (.lit 0) (.var 10) (.var 11))], 22⟩])
      (.chk (.cmp .geq (.var 7) (.lit 0))
      (.chk (.cmp .geq (.var 10) (.lit 0))
      (.again 0 0 [.bool] [(.bool (.cmp .gtr (.bin .add .i64 (.var 7) (.var 10)) (.lit 32)))] [⟨[(.sl 0 (.lit 0) (.var 1) (.var 2)), (.sl 3 (.lit 0) (.var 4) (.var 5)), (.sl 6 (.lit 0) (.var 7) (.var 8)), (.sl 9 (.lit 0) (.var 10) (.var 11))], 22⟩])))))))))))))))
 (.ite (.var 12)
  (.call false 14 [] .bool []
  (.ret (.bool (.var 13)) []))
  (.call false 33 [(.sl 0 (.lit 0) (.var 1) (.var 2)), (.sl 3 (.lit 0) (.var 4) (.var 5))] .sl []
  (.call false 33 [(.sl 0 (.lit 0) (.var 1) (.var 2)), (.sl 9 (.lit 0) (.var 10) (.var 11))] .sl []
  (.call false 33 [(.sl 6 (.lit 0) (.var 7) (.var 8)), (.sl 3 (.lit 0) (.var 4) (.var 5))] .sl []
  (.call false 16 [(.sl 13 (.lit 0) (.var 14) (.var 15)), (.sl 16 (.lit 0) (.var 17) (.var 18)), (.sl 19 (.lit 0) (.var 20) (.var 21))] (.tup [.sl, .bool, (.int .i64)]) []
  (.call false 16 [(.sl 13 (.lit 0) (.var 14) (.var 15)), (.sl 16 (.lit 0) (.var 17) (.var 18)), (.sl 13 (.lit 0) (.var 14) (.var 15))] (.tup [.sl, .bool, (.int .i64)]) []
  (.call false 31 [(.sl 13 (.lit 0) (.var 14) (.var 15)), (.sl 16 (.lit 0) (.var 17) (.var 18)), (.sl 13 (.lit 0) (.var 14) (.var 15)), (.sl 16 (.lit 0) (.var 17) (.var 18))] (.tup [.bool, (.int .i64)]) []
  (.join 0 [.bool] []
   (.ite (.pick (.pick (.pick (.cmp .neq (.var 26) (.lit 0)) (.lit true) (.cmp .neq (.var 31) (.lit 0))) (.lit true) (.cmp .neq (.var 33) (.lit 0))) (.lit true) (.not (.var 30)))
    (.again 0 0 [.bool] [(.bool (.lit true))] [])
    (.call false 29 [(.sl 27 (.lit 0) (.var 28) (.var 29)), (.sl 16 (.lit 0) (.var 17) (.var 18))] .bool []
    (.again 0 0 [.bool] [(.bool (.pick (.not (.var 34)) (.lit true) (.not (.var 32))))] [])))
  (.ite (.var 34)
   (.ret (.bool (.lit false)) [])
   (.ite (.not (.var 25))
    (.ret (.bool (.lit false)) [])
    (.call false 33 [(.sl 6 (.lit 0) (.var 7) (.var 8)), (.sl 9 (.lit 0) (.var 10) (.var 11))] .sl []
    (.call false 29 [(.sl 22 (.lit 0) (.var 23) (.var 24)), (.sl 35 (.lit 0) (.var 36) (.var 37))] .bool []
    (.ite (.not (.var 38))
     (.ret (.bool (.lit false)) [])
     (.call false 31 [(.sl 13 (.lit 0) (.var 14) (.var 15)), (.sl 16 (.lit 0) (.var 17) (.var 18)), (.sl 19 (.lit 0) (.var 20) (.var 21)), (.sl 22 (.lit 0) (.var 23) (.var 24))] (.tup [.bool, (.int .i64)]) []
     (.call false 33 [(.sl 3 (.lit 0) (.var 4) (.var 5)), (.sl 0 (.lit 0) (.var 1) (.var 2))] .sl []
     (.call false 33 [(.sl 9 (.lit 0) (.var 10) (.var 11)), (.sl 0 (.lit 0) (.var 1) (.var 2))] .sl []
     (.call false 33 [(.sl 3 (.lit 0) (.var 4) (.var 5)), (.sl 6 (.lit 0) (.var 7) (.var 8))] .sl []
     (.call false 18 [(.sl 41 (.lit 0) (.var 42) (.var 43)), (.sl 44 (.lit 0) (.var 45) (.var 46)), (.sl 47 (.lit 0) (.var 48) (.var 49))] (.tup [.sl, .bool, (.int .i64)]) []
     (.ite (.pick (.pick (.cmp .neq (.var 40) (.lit 0)) (.lit true) (.not (.var 39))) (.lit true) (.cmp .neq (.var 54) (.lit 0)))
      (.ret (.bool (.lit false)) [])
      (.ite (.var 53)
       (.call false 33 [(.sl 9 (.lit 0) (.var 10) (.var 11)), (.sl 6 (.lit 0) (.var 7) (.var 8))] .sl []
       (.call false 29 [(.sl 50 (.lit 0) (.var 51) (.var 52)), (.sl 55 (.lit 0) (.var 56) (.var 57))] .bool []
       (.ite (.var 58)
        (.call false 14 [] .bool []
        (.ret (.bool (.var 59)) []))
        (.ret (.bool (.lit false)) []))))
       (.ret (.bool (.lit false)) []))))))))))))))))))))))
theorem S_law30_AnalogyEnds : FnIs Tryd.prog n_law30_AnalogyEnds [.sl, .sl, .sl, .sl] T_law30_AnalogyEnds := ⟨Tryd.f9, [{ key := 200001, tmps := [(63, .bool)], join := true, dead := 47878793638957654682961356042245969696082738513182960 }, { key := 200007, tmps := [(121, .bool)], join := true }], 4000, Tryd.func9, by kernel_rfl⟩
end Go.Proofs.YtpbbnmjkbfbelaaDoor
