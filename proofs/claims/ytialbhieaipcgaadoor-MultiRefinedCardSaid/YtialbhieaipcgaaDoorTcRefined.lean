/- The trees of this seat's functions, printed by a program of mine (SyGen), checked here by the kernel. -/
import Derived.Test.YtialbhieaipcgaaDoorSyDef
import Derived.Test.YtialbhieaipcgaaDoorProg
import Derived.KernelRfl
set_option maxRecDepth 100000
namespace Go.Proofs.YtialbhieaipcgaaDoor
open Go Go.Sy
/-! 11 ablaut/ablautlaw18.MultiRefined  -/
abbrev n_law18_MultiRefined : FuncId := 11
def T_law18_MultiRefined : Tree :=
 (.alloc
 (.join 0 [.bool] [⟨[(.sl 3 (.lit 0) (.var 4) (.var 5)), (.int .i64 (.var 6))], 26⟩]
  (.call false 25 [(.sl 0 (.lit 0) (.var 1) (.var 2)), (.int .i64 (.lit 4)), (.int .i64 (.lit 8))] .bool [⟨[(.sl 3 (.lit 0) (.var 4) (.var 5)), (.int .i64 (.var 6))], 26⟩]
  (.ite (.not (.var 10))
   (.again 0 1 [.bool] [(.bool (.lit true))] [⟨[(.sl 3 (.lit 0) (.var 4) (.var 5)), (.int .i64 (.var 6))], 26⟩])
   (.chk (.cmp .geq (.var 8) (.lit 0))
   (.ite (.cmp .gtr (.var 8) (.lit 100))
    (.again 0 1 [.bool] [(.bool (.lit true))] [⟨[(.sl 3 (.lit 0) (.var 4) (.var 5)), (.int .i64 (.var 6))], 26⟩])
    (.call false 26 [(.agg [(.sl 3 (.lit 0) (.var 4) (.var 5)), (.int .i64 (.var 6))])] (.int .i64) [⟨[(.sl 3 (.lit 0) (.var 4) (.var 5)), (.int .i64 (.var 6))], 26⟩]
    (.again 0 1 [.bool] [(.bool (.cmp .neq (.var 11) (.lit 0)))] [⟨[(.sl 3 (.lit 0) (.var 4) (.var 5)), (.int .i64 (.var 6))], 26⟩]))))))
 (.ite (.var 10)
  (.call false 16 [] .bool [⟨[(.sl 3 (.lit 0) (.var 4) (.var 5)), (.int .i64 (.var 6))], 26⟩]
  (.ret (.bool (.var 11)) [⟨[(.sl 3 (.lit 0) (.var 4) (.var 5)), (.int .i64 (.var 6))], 26⟩]))
  (.call false 27 [(.sl 0 (.lit 0) (.var 1) (.var 2)), (.sl 7 (.lit 0) (.var 8) (.var 9))] .sl [⟨[(.sl 3 (.lit 0) (.var 4) (.var 5)), (.int .i64 (.var 6))], 26⟩]
  (.call false 33 [(.sl 0 (.lit 0) (.var 1) (.var 2)), (.sl 11 (.lit 0) (.var 12) (.var 13)), (.agg [(.sl 3 (.lit 0) (.var 4) (.var 5)), (.int .i64 (.var 6))])] (.tup [.sl, (.int .i64)]) [⟨[(.sl 3 (.lit 0) (.var 4) (.var 5)), (.int .i64 (.var 6))], 26⟩]
  (.call false 33 [(.sl 0 (.lit 0) (.var 1) (.var 2)), (.sl 14 (.lit 0) (.var 15) (.var 16)), (.agg [(.sl 3 (.lit 0) (.var 4) (.var 5)), (.int .i64 (.var 6))])] (.tup [.sl, (.int .i64)]) [⟨[(.sl 3 (.lit 0) (.var 4) (.var 5)), (.int .i64 (.var 6))], 26⟩]
  (.call false 17 [(.sl 0 (.lit 0) (.var 1) (.var 2)), (.sl 11 (.lit 0) (.var 12) (.var 13)), (.agg [(.sl 3 (.lit 0) (.var 4) (.var 5)), (.int .i64 (.var 6))])] (.tup [(.int .i64), (.int .i64)]) [⟨[(.sl 3 (.lit 0) (.var 4) (.var 5)), (.int .i64 (.var 6))], 26⟩]
  (.call false 17 [(.sl 0 (.lit 0) (.var 1) (.var 2)), (.sl 14 (.lit 0) (.var 15) (.var 16)), (.agg [(.sl 3 (.lit 0) (.var 4) (.var 5)), (.int .i64 (.var 6))])] (.tup [(.int .i64), (.int .i64)]) [⟨[(.sl 3 (.lit 0) (.var 4) (.var 5)), (.int .i64 (.var 6))], 26⟩]
  (.join 0 [.bool] [⟨[(.sl 3 (.lit 0) (.var 4) (.var 5)), (.int .i64 (.var 6))], 26⟩]
   (.ite (.pick (.pick (.pick (.cmp .neq (.var 17) (.lit 0)) (.lit true) (.cmp .neq (.var 21) (.lit 0))) (.lit true) (.cmp .neq (.var 23) (.lit 0))) (.lit true) (.cmp .neq (.var 25) (.lit 0)))
    (.again 0 1 [.bool] [(.bool (.lit true))] [⟨[(.sl 3 (.lit 0) (.var 4) (.var 5)), (.int .i64 (.var 6))], 26⟩])
    (.call false 28 [(.sl 14 (.lit 0) (.var 15) (.var 16)), (.sl 18 (.lit 0) (.var 19) (.var 20))] .bool [⟨[(.sl 3 (.lit 0) (.var 4) (.var 5)), (.int .i64 (.var 6))], 26⟩]
    (.ite (.not (.pick (.not (.var 26)) (.lit true) (.cmp .gtr (.var 24) (.var 22))))
     (.ite (.cmp .eql (.var 24) (.var 22))
      (.call false 28 [(.sl 14 (.lit 0) (.var 15) (.var 16)), (.sl 11 (.lit 0) (.var 12) (.var 13))] .bool [⟨[(.sl 3 (.lit 0) (.var 4) (.var 5)), (.int .i64 (.var 6))], 26⟩]
      (.again 0 1 [.bool] [(.bool (.not (.var 27)))] [⟨[(.sl 3 (.lit 0) (.var 4) (.var 5)), (.int .i64 (.var 6))], 26⟩]))
      (.again 0 1 [.bool] [(.bool (.lit false))] [⟨[(.sl 3 (.lit 0) (.var 4) (.var 5)), (.int .i64 (.var 6))], 26⟩]))
     (.again 0 1 [.bool] [(.bool (.lit true))] [⟨[(.sl 3 (.lit 0) (.var 4) (.var 5)), (.int .i64 (.var 6))], 26⟩]))))
  (.ite (.var 26)
   (.ret (.bool (.lit false)) [⟨[(.sl 3 (.lit 0) (.var 4) (.var 5)), (.int .i64 (.var 6))], 26⟩])
   (.chk (.cmp .geq (.var 1) (.lit 0))
   (.ite (.cmp .eql (.var 1) (.lit 0))
    (.join 0 [.bool] [⟨[(.sl 3 (.lit 0) (.var 4) (.var 5)), (.int .i64 (.var 6))], 26⟩]
     (.chk (.cmp .geq (.var 15) (.lit 0))
     (.ite (.cmp .eql (.var 15) (.lit 0))
      (.call false 16 [] .bool [⟨[(.sl 3 (.lit 0) (.var 4) (.var 5)), (.int .i64 (.var 6))], 26⟩]
      (.again 0 1 [.bool] [(.bool (.var 27))] [⟨[(.sl 3 (.lit 0) (.var 4) (.var 5)), (.int .i64 (.var 6))], 26⟩]))
      (.again 0 1 [.bool] [(.bool (.lit false))] [⟨[(.sl 3 (.lit 0) (.var 4) (.var 5)), (.int .i64 (.var 6))], 26⟩])))
    (.ret (.bool (.var 27)) [⟨[(.sl 3 (.lit 0) (.var 4) (.var 5)), (.int .i64 (.var 6))], 26⟩]))
    (.chk (.cmp .geq (.var 1) (.lit 0))
    (.call false 29 [(.sl 0 (.lit 0) (.var 1) (.var 2)), (.sl 14 (.lit 0) (.var 15) (.var 16)), (.int .i64 (.bin .sub .i64 (.var 1) (.lit 1)))] (.tup [.sl, (.int .i64)]) [⟨[(.sl 3 (.lit 0) (.var 4) (.var 5)), (.int .i64 (.var 6))], 26⟩]
    (.chk (.pick (.cmp .leq (.lit 0) (.bin .sub .i64 (.var 1) (.lit 1))) (.cmp .leq (.bin .sub .i64 (.var 1) (.lit 1)) (.var 2)) (.lit false))
    (.chk (.pick (.cmp .geq (.bin .sub .i64 (.var 1) (.lit 1)) (.lit 0)) (.pick (.cmp .lss (.bin .sub .i64 (.var 1) (.lit 1)) (.var 1)) (.some 0) (.lit false)) (.lit false))
    (.load 0 (.off (.bin .sub .i64 (.var 1) (.lit 1)) 1 (.lit 0)) [.sl] [⟨[(.sl 3 (.lit 0) (.var 4) (.var 5)), (.int .i64 (.var 6))], 26⟩]
    (.call false 30 [(.sl 0 (.ifeq (.var 2) (.lit 0) (.lit 0) (.lit 0)) (.bin .sub .i64 (.var 1) (.lit 1)) (.var 2)), (.sl 27 (.lit 0) (.var 28) (.var 29)), (.sl 31 (.lit 0) (.var 32) (.var 33)), (.agg [(.sl 3 (.lit 0) (.var 4) (.var 5)), (.int .i64 (.var 6))])] (.tup [.sl, (.int .i64)]) [⟨[(.sl 3 (.lit 0) (.var 4) (.var 5)), (.int .i64 (.var 6))], 26⟩]
    (.call false 17 [(.sl 0 (.lit 0) (.var 1) (.var 2)), (.sl 34 (.lit 0) (.var 35) (.var 36)), (.agg [(.sl 3 (.lit 0) (.var 4) (.var 5)), (.int .i64 (.var 6))])] (.tup [(.int .i64), (.int .i64)]) [⟨[(.sl 3 (.lit 0) (.var 4) (.var 5)), (.int .i64 (.var 6))], 26⟩]
    (.join 0 [.bool] [⟨[(.sl 3 (.lit 0) (.var 4) (.var 5)), (.int .i64 (.var 6))], 26⟩]
     (.ite (.pick (.pick (.pick (.cmp .eql (.var 30) (.lit 0)) (.cmp .eql (.var 37) (.lit 0)) (.lit false)) (.cmp .eql (.var 39) (.lit 0)) (.lit false)) (.cmp .geq (.var 38) (.var 24)) (.lit false))
      (.call false 16 [] .bool [⟨[(.sl 3 (.lit 0) (.var 4) (.var 5)), (.int .i64 (.var 6))], 26⟩]
      (.again 0 1 [.bool] [(.bool (.var 40))] [⟨[(.sl 3 (.lit 0) (.var 4) (.var 5)), (.int .i64 (.var 6))], 26⟩]))
      (.again 0 1 [.bool] [(.bool (.lit false))] [⟨[(.sl 3 (.lit 0) (.var 4) (.var 5)), (.int .i64 (.var 6))], 26⟩]))
    (.ret (.bool (.var 40)) [⟨[(.sl 3 (.lit 0) (.var 4) (.var 5)), (.int .i64 (.var 6))], 26⟩])))))))))))))))))))))
theorem S_law18_MultiRefined : FnIs Tryd.prog n_law18_MultiRefined [.sl, (.agg [.sl, (.int .i64)]), .sl] T_law18_MultiRefined := ⟨Tryd.f11, [{ key := 200001, tmps := [(35, .bool)], join := true, dead := 2923003274661805745136526449000049131514866171944 }, { key := 200008, tmps := [(103, .bool)], join := true }, { key := 200011, tmps := [], join := true }, { key := 200016, tmps := [], join := true }], 4000, Tryd.func11, by kernel_rfl⟩
end Go.Proofs.YtialbhieaipcgaaDoor
