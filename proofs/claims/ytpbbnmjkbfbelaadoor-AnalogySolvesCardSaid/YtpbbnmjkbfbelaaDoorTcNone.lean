/- The trees of this seat's functions, printed by a program of mine (SyGen), checked here by the kernel. -/
import Derived.Test.YtpbbnmjkbfbelaaDoorSyDef
import Derived.Test.YtpbbnmjkbfbelaaDoorProg
import Derived.KernelRfl
set_option maxRecDepth 100000
namespace Go.Proofs.YtpbbnmjkbfbelaaDoor
open Go Go.Sy
/-! 6 ablaut/ablautlaw30.AnalogyNone  -/
abbrev n_law30_AnalogyNone : FuncId := 6
def T_law30_AnalogyNone : Tree :=
 (.alloc
 (.call false 27 [(.slc 0 0 3 3)] .bool [⟨[(.sl 0 (.lit 0) (.var 1) (.var 2)), (.sl 3 (.lit 0) (.var 4) (.var 5)), (.sl 6 (.lit 0) (.var 7) (.var 8))], 22⟩]
 (.ite (.not (.var 9))
  (.call false 14 [] .bool [⟨[(.sl 0 (.lit 0) (.var 1) (.var 2)), (.sl 3 (.lit 0) (.var 4) (.var 5)), (.sl 6 (.lit 0) (.var 7) (.var 8))], 22⟩]
  (.ret (.bool (.var 10)) [⟨[(.sl 0 (.lit 0) (.var 1) (.var 2)), (.sl 3 (.lit 0) (.var 4) (.var 5)), (.sl 6 (.lit 0) (.var 7) (.var 8))], 22⟩]))
  (.call false 28 [(.sl 0 (.lit 0) (.var 1) (.var 2)), (.sl 3 (.lit 0) (.var 4) (.var 5))] (.tup [(.int .i64), (.int .i64)]) [⟨[(.sl 0 (.lit 0) (.var 1) (.var 2)), (.sl 3 (.lit 0) (.var 4) (.var 5)), (.sl 6 (.lit 0) (.var 7) (.var 8))], 22⟩]
  (.chk (.pick (.cmp .leq (.lit 0) (.var 10)) (.pick (.cmp .leq (.var 10) (.var 1)) (.cmp .leq (.var 1) (.var 2)) (.lit false)) (.lit false))
  (.chk (.pick (.cmp .leq (.lit 0) (.var 10)) (.pick (.cmp .leq (.var 10) (.var 4)) (.cmp .leq (.var 4) (.var 5)) (.lit false)) (.lit false))
  (.join 0 [.bool] [⟨[(.sl 0 (.lit 0) (.var 1) (.var 2)), (.sl 3 (.lit 0) (.var 4) (.var 5)), (.sl 6 (.lit 0) (.var 7) (.var 8))], 22⟩]
   (.chk (.cmp .geq (.var 7) (.lit 0))
   (.chk (.cmp .geq (.dif (.var 1) (.var 10)) (.lit 0))
   (.ite (.cmp .geq (.var 7) (.dif (.var 1) (.var 10)))
    (.chk (.cmp .geq (.var 7) (.lit 0))
    (.chk (.cmp .geq (.dif (.var 1) (.var 10)) (.lit 0))
    (.chk (.cmp .geq (.var 7) (.lit 0))
    (.chk (.pick (.cmp .leq (.lit 0) (.bin .sub .i64 (.var 7) (.mn (.dif (.var 1) (.var 10)) (.var 7)))) (.pick (.cmp .leq (.bin .sub .i64 (.var 7) (.mn (.dif (.var 1) (.var 10)) (.var 7))) (.var 7)) (.cmp .leq (.var 7) (.var 8)) (.lit false)) (.lit false))
    (.call false 29 [(.sl 6 (.ifeq (.var 8) (.bin .sub .i64 (.var 7) (.mn (.dif (.var 1) (.var 10)) (.var 7))) (.lit 0) (.off (.bin .sub .i64 (.var 7) (.mn (.dif (.var 1) (.var 10)) (.var 7))) 2 (.lit 0))) (.dif (.var 7) (.bin .sub .i64 (.var 7) (.mn (.dif (.var 1) (.var 10)) (.var 7)))) (.dif (.var 8) (.bin .sub .i64 (.var 7) (.mn (.dif (.var 1) (.var 10)) (.var 7))))), (.sl 0 (.ifeq (.var 2) (.var 10) (.lit 0) (.off (.var 10) 2 (.lit 0))) (.dif (.var 1) (.var 10)) (.dif (.var 2) (.var 10)))] .bool [⟨[(.sl 0 (.lit 0) (.var 1) (.var 2)), (.sl 3 (.lit 0) (.var 4) (.var 5)), (.sl 6 (.lit 0) (.var 7) (.var 8))], 22⟩]
    (.again 0 1 [.bool] [(.bool (.var 12))] [⟨[(.sl 0 (.lit 0) (.var 1) (.var 2)), (.sl 3 (.lit 0) (.var 4) (.var 5)), (.sl 6 (.lit 0) (.var 7) (.var 8))], 22⟩]))))))
    (.again 0 1 [.bool] [(.bool (.lit false))] [⟨[(.sl 0 (.lit 0) (.var 1) (.var 2)), (.sl 3 (.lit 0) (.var 4) (.var 5)), (.sl 6 (.lit 0) (.var 7) (.var 8))], 22⟩]))))
  (.call false 16 [(.sl 0 (.lit 0) (.var 1) (.var 2)), (.sl 3 (.lit 0) (.var 4) (.var 5)), (.sl 6 (.lit 0) (.var 7) (.var 8))] (.tup [.sl, .bool, (.int .i64)]) [⟨[(.sl 0 (.lit 0) (.var 1) (.var 2)), (.sl 3 (.lit 0) (.var 4) (.var 5)), (.sl 6 (.lit 0) (.var 7) (.var 8))], 22⟩]
  (.ite (.var 12)
   (.chk (.cmp .geq (.var 7) (.lit 0))
   (.chk (.cmp .geq (.dif (.var 1) (.var 10)) (.lit 0))
   (.chk (.cmp .geq (.dif (.var 4) (.var 10)) (.lit 0))
   (.ite (.cmp .gtr (.bin .add .i64 (.bin .sub .i64 (.var 7) (.dif (.var 1) (.var 10))) (.dif (.var 4) (.var 10))) (.lit 32))
    (.join 0 [.bool] [⟨[(.sl 0 (.lit 0) (.var 1) (.var 2)), (.sl 3 (.lit 0) (.var 4) (.var 5)), (.sl 6 (.lit 0) (.var 7) (.var 8))], 22⟩]
     (.ite (.pick (.cmp .eql (.var 17) (.lit 11)) (.not (.var 16)) (.lit false))
      (.chk (.cmp .geq (.var 14) (.lit 0))
      (.ite (.cmp .eql (.var 14) (.lit 0))
       (.call false 14 [] .bool [⟨[(.sl 0 (.lit 0) (.var 1) (.var 2)), (.sl 3 (.lit 0) (.var 4) (.var 5)), (.sl 6 (.lit 0) (.var 7) (.var 8))], 22⟩]
       (.again 0 1 [.bool] [(.bool (.var 18))] [⟨[(.sl 0 (.lit 0) (.var 1) (.var 2)), (.sl 3 (.lit 0) (.var 4) (.var 5)), (.sl 6 (.lit 0) (.var 7) (.var 8))], 22⟩]))
       (.again 0 1 [.bool] [(.bool (.lit false))] [⟨[(.sl 0 (.lit 0) (.var 1) (.var 2)), (.sl 3 (.lit 0) (.var 4) (.var 5)), (.sl 6 (.lit 0) (.var 7) (.var 8))], 22⟩])))
      (.again 0 1 [.bool] [(.bool (.lit false))] [⟨[(.sl 0 (.lit 0) (.var 1) (.var 2)), (.sl 3 (.lit 0) (.var 4) (.var 5)), (.sl 6 (.lit 0) (.var 7) (.var 8))], 22⟩]))
    (.ret (.bool (.var 18)) [⟨[(.sl 0 (.lit 0) (.var 1) (.var 2)), (.sl 3 (.lit 0) (.var 4) (.var 5)), (.sl 6 (.lit 0) (.var 7) (.var 8))], 22⟩]))
    (.ite (.pick (.cmp .neq (.var 17) (.lit 0)) (.lit true) (.not (.beq (.var 16) (.lit true))))
     (.ret (.bool (.lit false)) [⟨[(.sl 0 (.lit 0) (.var 1) (.var 2)), (.sl 3 (.lit 0) (.var 4) (.var 5)), (.sl 6 (.lit 0) (.var 7) (.var 8))], 22⟩])
     (.join 0 [.bool] [⟨[(.sl 0 (.lit 0) (.var 1) (.var 2)), (.sl 3 (.lit 0) (.var 4) (.var 5)), (.sl 6 (.lit 0) (.var 7) (.var 8))], 22⟩]
      (.alloc
      (.chk (.cmp .geq (.var 7) (.lit 0))
      (.chk (.cmp .geq (.dif (.var 1) (.var 10)) (.lit 0))
      (.chk (.pick (.cmp .leq (.lit 0) (.bin .sub .i64 (.var 7) (.dif (.var 1) (.var 10)))) (.cmp .leq (.bin .sub .i64 (.var 7) (.dif (.var 1) (.var 10))) (.var 8)) (.lit false))
      (.ext false ⟨(.call ⟨.builtin .append, #[(.tmp 0), (.tmp 0)], #[22, 22]⟩), 22, [(.slc 1 0 0 0), (.sl 6 (.ifeq (.var 8) (.lit 0) (.lit 0) (.lit 0)) (.bin .sub .i64 (.var 7) (.dif (.var 1) (.var 10))) (.var 8))]⟩ .sl [⟨[(.sl 0 (.lit 0) (.var 1) (.var 2)), (.sl 3 (.lit 0) (.var 4) (.var 5)), (.sl 6 (.lit 0) (.var 7) (.var 8))], 22⟩, ⟨[], 31⟩]
      (.ext false ⟨(.call ⟨.builtin .append, #[(.tmp 0), (.tmp 0)], #[22, 22]⟩), 22, [(.sl 18 (.lit 0) (.var 19) (.var 20)), (.sl 3 (.ifeq (.var 5) (.var 10) (.lit 0) (.off (.var 10) 2 (.lit 0))) (.dif (.var 4) (.var 10)) (.dif (.var 5) (.var 10)))]⟩ .sl [⟨[(.sl 0 (.lit 0) (.var 1) (.var 2)), (.sl 3 (.lit 0) (.var 4) (.var 5)), (.sl 6 (.lit 0) (.var 7) (.var 8))], 22⟩, ⟨[], 31⟩]
      (.call false 29 [(.sl 13 (.lit 0) (.var 14) (.var 15)), (.sl 21 (.lit 0) (.var 22) (.var 23))] .bool [⟨[(.sl 0 (.lit 0) (.var 1) (.var 2)), (.sl 3 (.lit 0) (.var 4) (.var 5)), (.sl 6 (.lit 0) (.var 7) (.var 8))], 22⟩, ⟨[], 31⟩]
      (.ite (.var 24)
       (.call false 14 [] .bool [⟨[(.sl 0 (.lit 0) (.var 1) (.var 2)), (.sl 3 (.lit 0) (.var 4) (.var 5)), (.sl 6 (.lit 0) (.var 7) (.var 8))], 22⟩, ⟨[], 31⟩]
       (.again 0 1 [.bool] [(.bool (.var 25))] [⟨[(.sl 0 (.lit 0) (.var 1) (.var 2)), (.sl 3 (.lit 0) (.var 4) (.var 5)), (.sl 6 (.lit 0) (.var 7) (.var 8))], 22⟩, ⟨[], 31⟩]))
       (.again 0 1 [.bool] [(.bool (.lit false))] [⟨[(.sl 0 (.lit 0) (.var 1) (.var 2)), (.sl 3 (.lit 0) (.var 4) (.var 5)), (.sl 6 (.lit 0) (.var 7) (.var 8))], 22⟩, ⟨[], 31⟩])))))))))
     (.ret (.bool (.var 18)) [⟨[(.sl 0 (.lit 0) (.var 1) (.var 2)), (.sl 3 (.lit 0) (.var 4) (.var 5)), (.sl 6 (.lit 0) (.var 7) (.var 8))], 22⟩])))))))
   (.ite (.pick (.cmp .neq (.var 17) (.lit 0)) (.lit true) (.not (.beq (.var 16) (.lit false))))
    (.ret (.bool (.lit false)) [⟨[(.sl 0 (.lit 0) (.var 1) (.var 2)), (.sl 3 (.lit 0) (.var 4) (.var 5)), (.sl 6 (.lit 0) (.var 7) (.var 8))], 22⟩])
    (.join 0 [.bool] [⟨[(.sl 0 (.lit 0) (.var 1) (.var 2)), (.sl 3 (.lit 0) (.var 4) (.var 5)), (.sl 6 (.lit 0) (.var 7) (.var 8))], 22⟩]
     (.chk (.cmp .geq (.var 14) (.lit 0))
     (.ite (.cmp .eql (.var 14) (.lit 0))
      (.call false 14 [] .bool [⟨[(.sl 0 (.lit 0) (.var 1) (.var 2)), (.sl 3 (.lit 0) (.var 4) (.var 5)), (.sl 6 (.lit 0) (.var 7) (.var 8))], 22⟩]
      (.again 0 1 [.bool] [(.bool (.var 18))] [⟨[(.sl 0 (.lit 0) (.var 1) (.var 2)), (.sl 3 (.lit 0) (.var 4) (.var 5)), (.sl 6 (.lit 0) (.var 7) (.var 8))], 22⟩]))
      (.again 0 1 [.bool] [(.bool (.lit false))] [⟨[(.sl 0 (.lit 0) (.var 1) (.var 2)), (.sl 3 (.lit 0) (.var 4) (.var 5)), (.sl 6 (.lit 0) (.var 7) (.var 8))], 22⟩])))
    (.ret (.bool (.var 18)) [⟨[(.sl 0 (.lit 0) (.var 1) (.var 2)), (.sl 3 (.lit 0) (.var 4) (.var 5)), (.sl 6 (.lit 0) (.var 7) (.var 8))], 22⟩]))))))))))))
theorem S_law30_AnalogyNone : FnIs Tryd.prog n_law30_AnalogyNone [.sl, .sl, .sl] T_law30_AnalogyNone := ⟨Tryd.f6, [{ key := 200005, tmps := [(11, .bool)], join := true, dead := 332306949428622674444257899458822456 }, { key := 200008, tmps := [], join := true }, { key := 200012, tmps := [], join := true }, { key := 200013, tmps := [], join := true }], 4000, Tryd.func6, by kernel_rfl⟩
end Go.Proofs.YtpbbnmjkbfbelaaDoor
