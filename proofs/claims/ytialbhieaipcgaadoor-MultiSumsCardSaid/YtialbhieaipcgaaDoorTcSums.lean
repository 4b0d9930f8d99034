/- The trees of this seat's functions, printed by a program of mine (SyGen), checked here by the kernel. -/
import Derived.Test.YtialbhieaipcgaaDoorSyDef
import Derived.Test.YtialbhieaipcgaaDoorProg
import Derived.KernelRfl
set_option maxRecDepth 100000
namespace Go.Proofs.YtialbhieaipcgaaDoor
open Go Go.Sy
/-! 7 ablaut/ablautlaw18.MultiSums  -/
abbrev n_law18_MultiSums : FuncId := 7
def T_law18_MultiSums : Tree :=
 (.alloc
 (.join 0 [.bool] [⟨[(.sl 3 (.lit 0) (.var 4) (.var 5)), (.int .i64 (.var 6))], 26⟩]
  (.call false 25 [(.sl 0 (.lit 0) (.var 1) (.var 2)), (.int .i64 (.lit 5)), (.int .i64 (.lit 20))] .bool [⟨[(.sl 3 (.lit 0) (.var 4) (.var 5)), (.int .i64 (.var 6))], 26⟩]
  (.ite (.not (.var 10))
   (.again 0 1 [.bool] [(.bool (.lit true))] [⟨[(.sl 3 (.lit 0) (.var 4) (.var 5)), (.int .i64 (.var 6))], 26⟩])
   (.chk (.cmp .geq (.var 8) (.lit 0))
   (.ite (.cmp .gtr (.var 8) (.lit 300))
    (.again 0 1 [.bool] [(.bool (.lit true))] [⟨[(.sl 3 (.lit 0) (.var 4) (.var 5)), (.int .i64 (.var 6))], 26⟩])
    (.call false 26 [(.agg [(.sl 3 (.lit 0) (.var 4) (.var 5)), (.int .i64 (.var 6))])] (.int .i64) [⟨[(.sl 3 (.lit 0) (.var 4) (.var 5)), (.int .i64 (.var 6))], 26⟩]
    (.again 0 1 [.bool] [(.bool (.cmp .neq (.var 11) (.lit 0)))] [⟨[(.sl 3 (.lit 0) (.var 4) (.var 5)), (.int .i64 (.var 6))], 26⟩]))))))
 (.ite (.var 10)
  (.call false 16 [] .bool [⟨[(.sl 3 (.lit 0) (.var 4) (.var 5)), (.int .i64 (.var 6))], 26⟩]
  (.ret (.bool (.var 11)) [⟨[(.sl 3 (.lit 0) (.var 4) (.var 5)), (.int .i64 (.var 6))], 26⟩]))
  (.call false 27 [(.sl 0 (.lit 0) (.var 1) (.var 2)), (.sl 7 (.lit 0) (.var 8) (.var 9))] .sl [⟨[(.sl 3 (.lit 0) (.var 4) (.var 5)), (.int .i64 (.var 6))], 26⟩]
  (.call false 17 [(.sl 0 (.lit 0) (.var 1) (.var 2)), (.sl 11 (.lit 0) (.var 12) (.var 13)), (.agg [(.sl 3 (.lit 0) (.var 4) (.var 5)), (.int .i64 (.var 6))])] (.tup [(.int .i64), (.int .i64)]) [⟨[(.sl 3 (.lit 0) (.var 4) (.var 5)), (.int .i64 (.var 6))], 26⟩]
  (.ite (.cmp .neq (.var 15) (.lit 0))
   (.ret (.bool (.lit false)) [⟨[(.sl 3 (.lit 0) (.var 4) (.var 5)), (.int .i64 (.var 6))], 26⟩])
   (.loop 0 [.bool, (.int .i64), (.int .i64)] [(.bool (.lit false)), (.int .i64 (.lit 0)), (.int .i64 (.lit 0))] [⟨[(.sl 3 (.lit 0) (.var 4) (.var 5)), (.int .i64 (.var 6))], 26⟩] [⟨[(.sl 3 (.lit 0) (.var 4) (.var 5)), (.int .i64 (.var 6))], 26⟩]
    (.chk (.cmp .geq (.var 1) (.lit 0))
    (.ite (.cmp .lss (.var 18) (.var 1))
     (.loop 1 [.bool, (.int .i64), (.int .i64)] [(.bool (.var 16)), (.int .i64 (.var 17)), (.int .i64 (.bin .add .i64 (.var 18) (.lit 1)))] [⟨[(.sl 3 (.lit 0) (.var 4) (.var 5)), (.int .i64 (.var 6))], 26⟩] [⟨[(.sl 3 (.lit 0) (.var 4) (.var 5)), (.int .i64 (.var 6))], 26⟩]
      (.chk (.cmp .geq (.var 1) (.lit 0))
      (.ite (.cmp .lss (.var 21) (.var 1))
       (.alloc
       (.ext false ⟨(.call ⟨.builtin .append, #[(.tmp 0), (.tmp 0)], #[22, 22]⟩), 22, [(.slc 1 0 0 0), (.sl 0 (.lit 0) (.var 1) (.var 2))]⟩ .sl [⟨[(.sl 3 (.lit 0) (.var 4) (.var 5)), (.int .i64 (.var 6))], 26⟩, ⟨[], 46⟩]
       (.chk (.cmp .geq (.var 1) (.lit 0))
       (.loop 2 [.bool, .sl, .sl, (.int .i64)] [(.bool (.var 19)), (.sl 11 (.lit 0) (.var 12) (.var 13)), (.sl 22 (.lit 0) (.var 23) (.var 24)), (.int .i64 (.bin .sub .i64 (.var 1) (.lit 1)))] [⟨[(.sl 3 (.lit 0) (.var 4) (.var 5)), (.int .i64 (.var 6))], 26⟩, ⟨[], 46⟩] [⟨[(.sl 3 (.lit 0) (.var 4) (.var 5)), (.int .i64 (.var 6))], 26⟩, ⟨[], 46⟩]
        (.ite (.cmp .geq (.var 32) (.lit 0))
         (.join 3 [.bool, .sl, .sl] [⟨[(.sl 3 (.lit 0) (.var 4) (.var 5)), (.int .i64 (.var 6))], 26⟩, ⟨[], 46⟩]
          (.ite (.pick (.cmp .eql (.var 32) (.var 18)) (.lit true) (.cmp .eql (.var 32) (.var 21)))
           (.again 3 2 [.bool, .sl, .sl] [(.bool (.var 25)), (.sl 26 (.lit 0) (.var 27) (.var 28)), (.sl 29 (.lit 0) (.var 30) (.var 31))] [⟨[(.sl 3 (.lit 0) (.var 4) (.var 5)), (.int .i64 (.var 6))], 26⟩, ⟨[], 46⟩])
           (.call false 29 [(.sl 29 (.lit 0) (.var 30) (.var 31)), (.sl 26 (.lit 0) (.var 27) (.var 28)), (.int .i64 (.var 32))] (.tup [.sl, (.int .i64)]) [⟨[(.sl 3 (.lit 0) (.var 4) (.var 5)), (.int .i64 (.var 6))], 26⟩, ⟨[], 46⟩]
           (.ite (.cmp .neq (.var 36) (.lit 0))
            (.ret (.bool (.lit false)) [⟨[(.sl 3 (.lit 0) (.var 4) (.var 5)), (.int .i64 (.var 6))], 26⟩, ⟨[], 46⟩])
            (.chk (.pick (.cmp .leq (.lit 0) (.var 32)) (.cmp .leq (.var 32) (.var 31)) (.lit false))
            (.chk (.pick (.cmp .leq (.lit 0) (.bin .add .i64 (.var 32) (.lit 1))) (.pick (.cmp .leq (.bin .add .i64 (.var 32) (.lit 1)) (.var 30)) (.cmp .leq (.var 30) (.var 31)) (.lit false)) (.lit false))
            (.alloc
            (.ext false ⟨(.call ⟨.builtin .append, #[(.tmp 0), (.tmp 0)], #[22, 22]⟩), 22, [(.slc 2 0 0 0), (.sl 29 (.ifeq (.var 31) (.lit 0) (.lit 0) (.lit 0)) (.var 32) (.var 31))]⟩ .sl [⟨[(.sl 3 (.lit 0) (.var 4) (.var 5)), (.int .i64 (.var 6))], 26⟩, ⟨[], 46⟩, ⟨[], 46⟩]
            (.ext false ⟨(.call ⟨.builtin .append, #[(.tmp 0), (.tmp 0)], #[22, 22]⟩), 22, [(.sl 37 (.lit 0) (.var 38) (.var 39)), (.sl 29 (.ifeq (.var 31) (.bin .add .i64 (.var 32) (.lit 1)) (.lit 0) (.off (.bin .add .i64 (.var 32) (.lit 1)) 1 (.lit 0))) (.dif (.var 30) (.bin .add .i64 (.var 32) (.lit 1))) (.dif (.var 31) (.bin .add .i64 (.var 32) (.lit 1))))]⟩ .sl [⟨[(.sl 3 (.lit 0) (.var 4) (.var 5)), (.int .i64 (.var 6))], 26⟩, ⟨[], 46⟩, ⟨[], 46⟩]
            (.again 3 2 [.bool, .sl, .sl] [(.bool (.var 25)), (.sl 33 (.lit 0) (.var 34) (.var 35)), (.sl 40 (.lit 0) (.var 41) (.var 42))] [⟨[(.sl 3 (.lit 0) (.var 4) (.var 5)), (.int .i64 (.var 6))], 26⟩, ⟨[], 46⟩, ⟨[], 46⟩])))))))))
         (.again 2 2 [.bool, .sl, .sl, (.int .i64)] [(.bool (.var 33)), (.sl 34 (.lit 0) (.var 35) (.var 36)), (.sl 37 (.lit 0) (.var 38) (.var 39)), (.int .i64 (.bin .sub .i64 (.var 32) (.lit 1)))] [⟨[(.sl 3 (.lit 0) (.var 4) (.var 5)), (.int .i64 (.var 6))], 26⟩, ⟨[], 46⟩]))
         (.call false 17 [(.sl 29 (.lit 0) (.var 30) (.var 31)), (.sl 26 (.lit 0) (.var 27) (.var 28)), (.agg [(.sl 3 (.lit 0) (.var 4) (.var 5)), (.int .i64 (.var 6))])] (.tup [(.int .i64), (.int .i64)]) [⟨[(.sl 3 (.lit 0) (.var 4) (.var 5)), (.int .i64 (.var 6))], 26⟩, ⟨[], 46⟩]
         (.ite (.cmp .neq (.var 34) (.lit 0))
          (.ret (.bool (.lit false)) [⟨[(.sl 3 (.lit 0) (.var 4) (.var 5)), (.int .i64 (.var 6))], 26⟩, ⟨[], 46⟩])
          (.again 1 1 [.bool, (.int .i64), (.int .i64)] [(.bool (.var 25)), (.int .i64 (.bin .add .i64 (.var 20) (.var 33))), (.int .i64 (.bin .add .i64 (.var 21) (.lit 1)))] [⟨[(.sl 3 (.lit 0) (.var 4) (.var 5)), (.int .i64 (.var 6))], 26⟩, ⟨[], 46⟩]))))))))
       (.again 0 1 [.bool, (.int .i64), (.int .i64)] [(.bool (.var 19)), (.int .i64 (.var 20)), (.int .i64 (.bin .add .i64 (.var 18) (.lit 1)))] [⟨[(.sl 3 (.lit 0) (.var 4) (.var 5)), (.int .i64 (.var 6))], 26⟩]))))
     (.join 0 [.bool] [⟨[(.sl 3 (.lit 0) (.var 4) (.var 5)), (.int .i64 (.var 6))], 26⟩]
      (.ite (.cmp .eql (.var 17) (.var 14))
       (.call false 16 [] .bool [⟨[(.sl 3 (.lit 0) (.var 4) (.var 5)), (.int .i64 (.var 6))], 26⟩]
       (.again 0 1 [.bool] [(.bool (.var 19))] [⟨[(.sl 3 (.lit 0) (.var 4) (.var 5)), (.int .i64 (.var 6))], 26⟩]))
       (.again 0 1 [.bool] [(.bool (.lit false))] [⟨[(.sl 3 (.lit 0) (.var 4) (.var 5)), (.int .i64 (.var 6))], 26⟩]))
     (.ret (.bool (.var 19)) [⟨[(.sl 3 (.lit 0) (.var 4) (.var 5)), (.int .i64 (.var 6))], 26⟩])))))))))))
theorem S_law18_MultiSums : FnIs Tryd.prog n_law18_MultiSums [.sl, (.agg [.sl, (.int .i64)]), .sl] T_law18_MultiSums := ⟨Tryd.f7, [{ key := 200001, tmps := [(32, .bool)], join := true, dead := 165991240041240239091389606818480168 }, { key := 100005, tmps := [], join := true }, { key := 200027, tmps := [], join := true }], 4000, Tryd.func7, by kernel_rfl⟩
end Go.Proofs.YtialbhieaipcgaaDoor
