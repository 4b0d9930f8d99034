/- The trees of this seat's functions, printed by a program of mine (SyGen), checked here by the kernel. -/
import Derived.Test.YtpbbnmjkbfbelaaDoorSyDef
import Derived.Test.YtpbbnmjkbfbelaaDoorProg
import Derived.KernelRfl
set_option maxRecDepth 100000
namespace Go.Proofs.YtpbbnmjkbfbelaaDoor
open Go Go.Sy
/-! 8 ablaut/ablautlaw30.AnalogyHolds  -/
abbrev n_law30_AnalogyHolds : FuncId := 8
def T_law30_AnalogyHolds : Tree :=
 (.alloc
 (.join 0 [.bool] [⟨[(.sl 0 (.lit 0) (.var 1) (.var 2)), (.sl 3 (.lit 0) (.var 4) (.var 5)), (.sl 6 (.lit 0) (.var 7) (.var 8)), (.sl 9 (.lit 0) (.var 10) (.var 11))], 57⟩]
  (.chk (.cmp .geq (.var 1) (.lit 0))
  (.ite (.cmp .gtr (.var 1) (.lit 100))
   (.again 0 1 [.bool] [(.bool (.lit true))] [⟨[(.sl 0 (.lit 0) (.var 1) (.var 2)), (.sl 3 (.lit 0) (.var 4) (.var 5)), (.sl 6 (.lit 0) (.var 7) (.var 8)), (.sl 9 (.lit 0) (.var 10) (.var 11))], 57⟩])
   (.chk (.cmp .geq (.var 4) (.lit 0))
   (.ite (.cmp .gtr (.var 4) (.lit 100))
    (.again 0 1 [.bool] [(.bool (.lit true))] [⟨[(.sl 0 (.lit 0) (.var 1) (.var 2)), (.sl 3 (.lit 0) (.var 4) (.var 5)), (.sl 6 (.lit 0) (.var 7) (.var 8)), (.sl 9 (.lit 0) (.var 10) (.var 11))], 57⟩])
    (.chk (.cmp .geq (.var 7) (.lit 0))
    (.ite (.cmp .gtr (.var 7) (.lit 100))
     (.again 0 1 [.bool] [(.bool (.lit true))] [⟨[(.sl 0 (.lit 0) (.var 1) (.var 2)), (.sl 3 (.lit 0) (.var 4) (.var 5)), (.sl 6 (.lit 0) (.var 7) (.var 8)), (.sl 9 (.lit 0) (.var 10) (.var 11))], 57⟩])
     (.chk (.cmp .geq (.var 10) (.lit 0))
     (.again 0 1 [.bool] [(.bool (.cmp .gtr (.var 10) (.lit 100)))] [⟨[(.sl 0 (.lit 0) (.var 1) (.var 2)), (.sl 3 (.lit 0) (.var 4) (.var 5)), (.sl 6 (.lit 0) (.var 7) (.var 8)), (.sl 9 (.lit 0) (.var 10) (.var 11))], 57⟩]))))))))
 (.ite (.var 12)
  (.call false 14 [] .bool [⟨[(.sl 0 (.lit 0) (.var 1) (.var 2)), (.sl 3 (.lit 0) (.var 4) (.var 5)), (.sl 6 (.lit 0) (.var 7) (.var 8)), (.sl 9 (.lit 0) (.var 10) (.var 11))], 57⟩]
  (.ret (.bool (.var 13)) [⟨[(.sl 0 (.lit 0) (.var 1) (.var 2)), (.sl 3 (.lit 0) (.var 4) (.var 5)), (.sl 6 (.lit 0) (.var 7) (.var 8)), (.sl 9 (.lit 0) (.var 10) (.var 11))], 57⟩]))
  (.call false 31 [(.sl 0 (.lit 0) (.var 1) (.var 2)), (.sl 3 (.lit 0) (.var 4) (.var 5)), (.sl 6 (.lit 0) (.var 7) (.var 8)), (.sl 9 (.lit 0) (.var 10) (.var 11))] (.tup [.bool, (.int .i64)]) [⟨[(.sl 0 (.lit 0) (.var 1) (.var 2)), (.sl 3 (.lit 0) (.var 4) (.var 5)), (.sl 6 (.lit 0) (.var 7) (.var 8)), (.sl 9 (.lit 0) (.var 10) (.var 11))], 57⟩]
  (.call false 32 [(.sl 0 (.lit 0) (.var 1) (.var 2)), (.sl 3 (.lit 0) (.var 4) (.var 5)), (.sl 6 (.lit 0) (.var 7) (.var 8)), (.sl 9 (.lit 0) (.var 10) (.var 11))] (.tup [.bool, (.int .i64)]) [⟨[(.sl 0 (.lit 0) (.var 1) (.var 2)), (.sl 3 (.lit 0) (.var 4) (.var 5)), (.sl 6 (.lit 0) (.var 7) (.var 8)), (.sl 9 (.lit 0) (.var 10) (.var 11))], 57⟩]
  (.join 0 [.bool] [⟨[(.sl 0 (.lit 0) (.var 1) (.var 2)), (.sl 3 (.lit 0) (.var 4) (.var 5)), (.sl 6 (.lit 0) (.var 7) (.var 8)), (.sl 9 (.lit 0) (.var 10) (.var 11))], 57⟩]
   (.ite (.pick (.beq (.var 13) (.var 15)) (.cmp .eql (.var 14) (.var 16)) (.lit false))
    (.call false 14 [] .bool [⟨[(.sl 0 (.lit 0) (.var 1) (.var 2)), (.sl 3 (.lit 0) (.var 4) (.var 5)), (.sl 6 (.lit 0) (.var 7) (.var 8)), (.sl 9 (.lit 0) (.var 10) (.var 11))], 57⟩]
    (.again 0 1 [.bool] [(.bool (.var 17))] [⟨[(.sl 0 (.lit 0) (.var 1) (.var 2)), (.sl 3 (.lit 0) (.var 4) (.var 5)), (.sl 6 (.lit 0) (.var 7) (.var 8)), (.sl 9 (.lit 0) (.var 10) (.var 11))], 57⟩]))
    (.again 0 1 [.bool] [(.bool (.lit false))] [⟨[(.sl 0 (.lit 0) (.var 1) (.var 2)), (.sl 3 (.lit 0) (.var 4) (.var 5)), (.sl 6 (.lit 0) (.var 7) (.var 8)), (.sl 9 (.lit 0) (.var 10) (.var 11))], 57⟩]))
  (.ret (.bool (.var 17)) [⟨[(.sl 0 (.lit 0) (.var 1) (.var 2)), (.sl 3 (.lit 0) (.var 4) (.var 5)), (.sl 6 (.lit 0) (.var 7) (.var 8)), (.sl 9 (.lit 0) (.var 10) (.var 11))], 57⟩])))))))
theorem S_law30_AnalogyHolds : FnIs Tryd.prog n_law30_AnalogyHolds [(.agg [.sl, .sl, .sl, .sl])] T_law30_AnalogyHolds := ⟨Tryd.f8, [{ key := 200001, tmps := [(28, .bool)], join := true, dead := 36893488147150667648 }, { key := 200005, tmps := [], join := true }], 4000, Tryd.func8, by kernel_rfl⟩
end Go.Proofs.YtpbbnmjkbfbelaaDoor
