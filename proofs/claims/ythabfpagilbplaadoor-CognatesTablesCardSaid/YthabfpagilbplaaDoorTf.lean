/- The trees of this seat's functions, printed by a program of mine (SyGen), checked here by the kernel. -/
import Derived.Test.YthabfpagilbplaaDoorSyDef
import Derived.Test.YthabfpagilbplaaDoorProg
import Derived.KernelRfl
set_option maxRecDepth 100000
namespace Go.Proofs.YthabfpagilbplaaDoor
open Go Go.Sy
/-! 18 ablaut/ablautref19.Labels  -/
abbrev n_ref19_Labels : FuncId := 18
def T_ref19_Labels : Tree :=
 (.alloc
 (.alloc
 (.call false 56 [(.sl 0 (.lit 0) (.var 1) (.var 2)), (.agg [(.sl 3 (.lit 0) (.var 4) (.var 5)), (.int .i64 (.var 6))]), (.agg [(.int .i64 (.var 7)), (.int .i64 (.var 8))])] (.int .i64) [⟨[(.sl 3 (.lit 0) (.var 4) (.var 5)), (.int .i64 (.var 6))], 25⟩, ⟨[(.int .i64 (.var 7)), (.int .i64 (.var 8))], 27⟩]
 (.ite (.cmp .neq (.var 9) (.lit 0))
  (.ret (.tup [(.cst (.slice none 0 0)), (.int .i64 (.var 9))]) [⟨[(.sl 3 (.lit 0) (.var 4) (.var 5)), (.int .i64 (.var 6))], 25⟩, ⟨[(.int .i64 (.var 7)), (.int .i64 (.var 8))], 27⟩])
  (.call false 57 [(.sl 0 (.lit 0) (.var 1) (.var 2))] .sl [⟨[(.sl 3 (.lit 0) (.var 4) (.var 5)), (.int .i64 (.var 6))], 25⟩, ⟨[(.int .i64 (.var 7)), (.int .i64 (.var 8))], 27⟩]
  (.loop 0 [.sl, (.int .i64)] [(.sl 10 (.lit 0) (.var 11) (.var 12)), (.int .i64 (.lit 0))] [⟨[(.sl 3 (.lit 0) (.var 4) (.var 5)), (.int .i64 (.var 6))], 25⟩, ⟨[(.int .i64 (.var 7)), (.int .i64 (.var 8))], 27⟩] [⟨[(.sl 3 (.lit 0) (.var 4) (.var 5)), (.int .i64 (.var 6))], 25⟩, ⟨[(.int .i64 (.var 7)), (.int .i64 (.var 8))], 27⟩]
   (.chk (.cmp .geq (.var 1) (.lit 0))
   (.ite (.cmp .lss (.var 16) (.var 1))
    (.loop 1 [.sl, (.int .i64)] [(.sl 13 (.lit 0) (.var 14) (.var 15)), (.int .i64 (.lit 0))] [⟨[(.sl 3 (.lit 0) (.var 4) (.var 5)), (.int .i64 (.var 6))], 25⟩, ⟨[(.int .i64 (.var 7)), (.int .i64 (.var 8))], 27⟩] [⟨[(.sl 3 (.lit 0) (.var 4) (.var 5)), (.int .i64 (.var 6))], 25⟩, ⟨[(.int .i64 (.var 7)), (.int .i64 (.var 8))], 27⟩]
     (.ite (.cmp .lss (.var 20) (.var 16))
      (.chk (.pick (.cmp .geq (.var 16) (.lit 0)) (.pick (.cmp .lss (.var 16) (.var 1)) (.some 0) (.lit false)) (.lit false))
      (.chk (.pick (.cmp .geq (.off (.var 16) 2 (.lit 0)) (.lit 0)) (.some 0) (.lit false))
      (.load 0 (.off (.var 16) 2 (.lit 0)) [.bool] [⟨[(.sl 3 (.lit 0) (.var 4) (.var 5)), (.int .i64 (.var 6))], 25⟩, ⟨[(.int .i64 (.var 7)), (.int .i64 (.var 8))], 27⟩]
      (.ite (.var 21)
       (.chk (.pick (.cmp .geq (.var 20) (.lit 0)) (.pick (.cmp .lss (.var 20) (.var 1)) (.some 0) (.lit false)) (.lit false))
       (.chk (.pick (.cmp .geq (.off (.var 20) 2 (.lit 0)) (.lit 0)) (.some 0) (.lit false))
       (.load 0 (.off (.var 20) 2 (.lit 0)) [.bool] [⟨[(.sl 3 (.lit 0) (.var 4) (.var 5)), (.int .i64 (.var 6))], 25⟩, ⟨[(.int .i64 (.var 7)), (.int .i64 (.var 8))], 27⟩]
       (.ite (.var 22)
        (.chk (.pick (.cmp .geq (.var 16) (.lit 0)) (.pick (.cmp .lss (.var 16) (.var 1)) (.some 0) (.lit false)) (.lit false))
        (.chk (.pick (.cmp .geq (.off (.var 16) 2 (.lit 0)) (.lit 0)) (.some 0) (.lit false))
        (.load 0 (.off (.lit 1) 1 (.off (.var 16) 2 (.lit 0))) [.sl] [⟨[(.sl 3 (.lit 0) (.var 4) (.var 5)), (.int .i64 (.var 6))], 25⟩, ⟨[(.int .i64 (.var 7)), (.int .i64 (.var 8))], 27⟩]
        (.chk (.pick (.cmp .geq (.var 20) (.lit 0)) (.pick (.cmp .lss (.var 20) (.var 1)) (.some 0) (.lit false)) (.lit false))
        (.chk (.pick (.cmp .geq (.off (.var 20) 2 (.lit 0)) (.lit 0)) (.some 0) (.lit false))
        (.load 0 (.off (.lit 1) 1 (.off (.var 20) 2 (.lit 0))) [.sl] [⟨[(.sl 3 (.lit 0) (.var 4) (.var 5)), (.int .i64 (.var 6))], 25⟩, ⟨[(.int .i64 (.var 7)), (.int .i64 (.var 8))], 27⟩]
        (.call false 58 [(.sl 23 (.lit 0) (.var 24) (.var 25)), (.sl 26 (.lit 0) (.var 27) (.var 28)), (.agg [(.sl 3 (.lit 0) (.var 4) (.var 5)), (.int .i64 (.var 6))])] (.tup [(.agg [(.int .i64), (.int .i64)]), (.int .i64)]) [⟨[(.sl 3 (.lit 0) (.var 4) (.var 5)), (.int .i64 (.var 6))], 25⟩, ⟨[(.int .i64 (.var 7)), (.int .i64 (.var 8))], 27⟩]
        (.alloc
        (.call false 59 [(.agg [(.int .i64 (.var 29)), (.int .i64 (.var 30))]), (.agg [(.int .i64 (.var 7)), (.int .i64 (.var 8))])] .bool [⟨[(.sl 3 (.lit 0) (.var 4) (.var 5)), (.int .i64 (.var 6))], 25⟩, ⟨[(.int .i64 (.var 7)), (.int .i64 (.var 8))], 27⟩, ⟨[(.int .i64 (.var 29)), (.int .i64 (.var 30))], 27⟩]
        (.ite (.var 32)
         (.chk (.pick (.cmp .geq (.var 16) (.lit 0)) (.pick (.cmp .lss (.var 16) (.var 18)) (.some 17) (.lit false)) (.lit false))
         (.load 17 (.off (.var 16) 1 (.lit 0)) [(.int .i64)] [⟨[(.sl 3 (.lit 0) (.var 4) (.var 5)), (.int .i64 (.var 6))], 25⟩, ⟨[(.int .i64 (.var 7)), (.int .i64 (.var 8))], 27⟩, ⟨[(.int .i64 (.var 29)), (.int .i64 (.var 30))], 27⟩]
         (.chk (.pick (.cmp .geq (.var 20) (.lit 0)) (.pick (.cmp .lss (.var 20) (.var 18)) (.some 17) (.lit false)) (.lit false))
         (.load 17 (.off (.var 20) 1 (.lit 0)) [(.int .i64)] [⟨[(.sl 3 (.lit 0) (.var 4) (.var 5)), (.int .i64 (.var 6))], 25⟩, ⟨[(.int .i64 (.var 7)), (.int .i64 (.var 8))], 27⟩, ⟨[(.int .i64 (.var 29)), (.int .i64 (.var 30))], 27⟩]
         (.call false 60 [(.sl 17 (.lit 0) (.var 18) (.var 19)), (.int .i64 (.var 33)), (.int .i64 (.var 34))] .sl [⟨[(.sl 3 (.lit 0) (.var 4) (.var 5)), (.int .i64 (.var 6))], 25⟩, ⟨[(.int .i64 (.var 7)), (.int .i64 (.var 8))], 27⟩, ⟨[(.int .i64 (.var 29)), (.int .i64 (.var 30))], 27⟩]
         (.again 1 2 [.sl, (.int .i64)] [(.sl 35 (.lit 0) (.var 36) (.var 37)), (.int .i64 (.bin .add .i64 (.var 20) (.lit 1)))] [⟨[(.sl 3 (.lit 0) (.var 4) (.var 5)), (.int .i64 (.var 6))], 25⟩, ⟨[(.int .i64 (.var 7)), (.int .i64 (.var 8))], 27⟩, ⟨[(.int .i64 (.var 29)), (.int .i64 (.var 30))], 27⟩]))))))
         (.again 1 2 [.sl, (.int .i64)] [(.sl 17 (.lit 0) (.var 18) (.var 19)), (.int .i64 (.bin .add .i64 (.var 20) (.lit 1)))] [⟨[(.sl 3 (.lit 0) (.var 4) (.var 5)), (.int .i64 (.var 6))], 25⟩, ⟨[(.int .i64 (.var 7)), (.int .i64 (.var 8))], 27⟩, ⟨[(.int .i64 (.var 29)), (.int .i64 (.var 30))], 27⟩])))))))))))
        (.again 1 2 [.sl, (.int .i64)] [(.sl 17 (.lit 0) (.var 18) (.var 19)), (.int .i64 (.bin .add .i64 (.var 20) (.lit 1)))] [⟨[(.sl 3 (.lit 0) (.var 4) (.var 5)), (.int .i64 (.var 6))], 25⟩, ⟨[(.int .i64 (.var 7)), (.int .i64 (.var 8))], 27⟩])))))
       (.again 1 2 [.sl, (.int .i64)] [(.sl 17 (.lit 0) (.var 18) (.var 19)), (.int .i64 (.bin .add .i64 (.var 20) (.lit 1)))] [⟨[(.sl 3 (.lit 0) (.var 4) (.var 5)), (.int .i64 (.var 6))], 25⟩, ⟨[(.int .i64 (.var 7)), (.int .i64 (.var 8))], 27⟩])))))
      (.again 0 2 [.sl, (.int .i64)] [(.sl 17 (.lit 0) (.var 18) (.var 19)), (.int .i64 (.bin .add .i64 (.var 16) (.lit 1)))] [⟨[(.sl 3 (.lit 0) (.var 4) (.var 5)), (.int .i64 (.var 6))], 25⟩, ⟨[(.int .i64 (.var 7)), (.int .i64 (.var 8))], 27⟩])))
    (.ret (.tup [(.sl 13 (.lit 0) (.var 14) (.var 15)), (.int .i64 (.lit 0))]) [⟨[(.sl 3 (.lit 0) (.var 4) (.var 5)), (.int .i64 (.var 6))], 25⟩, ⟨[(.int .i64 (.var 7)), (.int .i64 (.var 8))], 27⟩])))))))))
theorem S_ref19_Labels : FnIs Tryd.prog n_ref19_Labels [.sl, (.agg [.sl, (.int .i64)]), (.agg [(.int .i64), (.int .i64)])] T_ref19_Labels := ⟨Tryd.f18, [], 4000, Tryd.func18, by kernel_rfl⟩
/-! 20 ablaut/ablautref19.Average  -/
/-! 23 ablaut/ablautref19.Compare  -/
/-! 25 ablaut/ablautref19.Cubed  -/
/-! 37 ablaut/ablautref19.Shared  -/
/-! 56 ablaut/ablautref19.check  -/
abbrev n_ref19_check : FuncId := 56
def T_ref19_check : Tree :=
 (.alloc
 (.alloc
 (.call false 86 [(.agg [(.sl 3 (.lit 0) (.var 4) (.var 5)), (.int .i64 (.var 6))])] (.int .i64) [⟨[(.sl 3 (.lit 0) (.var 4) (.var 5)), (.int .i64 (.var 6))], 25⟩, ⟨[(.int .i64 (.var 7)), (.int .i64 (.var 8))], 27⟩]
 (.ite (.cmp .neq (.var 9) (.lit 0))
  (.ret (.int .i64 (.lit 2)) [⟨[(.sl 3 (.lit 0) (.var 4) (.var 5)), (.int .i64 (.var 6))], 25⟩, ⟨[(.int .i64 (.var 7)), (.int .i64 (.var 8))], 27⟩])
  (.chk (.cmp .geq (.var 1) (.lit 0))
  (.ite (.cmp .gtr (.var 1) (.lit 16))
   (.ret (.int .i64 (.lit 12)) [⟨[(.sl 3 (.lit 0) (.var 4) (.var 5)), (.int .i64 (.var 6))], 25⟩, ⟨[(.int .i64 (.var 7)), (.int .i64 (.var 8))], 27⟩])
   (.call false 87 [(.sl 0 (.lit 0) (.var 1) (.var 2))] .bool [⟨[(.sl 3 (.lit 0) (.var 4) (.var 5)), (.int .i64 (.var 6))], 25⟩, ⟨[(.int .i64 (.var 7)), (.int .i64 (.var 8))], 27⟩]
   (.ite (.not (.var 10))
    (.ret (.int .i64 (.lit 2)) [⟨[(.sl 3 (.lit 0) (.var 4) (.var 5)), (.int .i64 (.var 6))], 25⟩, ⟨[(.int .i64 (.var 7)), (.int .i64 (.var 8))], 27⟩])
    (.call false 88 [(.sl 0 (.lit 0) (.var 1) (.var 2))] (.int .i64) [⟨[(.sl 3 (.lit 0) (.var 4) (.var 5)), (.int .i64 (.var 6))], 25⟩, ⟨[(.int .i64 (.var 7)), (.int .i64 (.var 8))], 27⟩]
    (.ite (.cmp .eql (.var 11) (.lit 0))
     (.call false 89 [(.agg [(.int .i64 (.var 7)), (.int .i64 (.var 8))])] .bool [⟨[(.sl 3 (.lit 0) (.var 4) (.var 5)), (.int .i64 (.var 6))], 25⟩, ⟨[(.int .i64 (.var 7)), (.int .i64 (.var 8))], 27⟩]
     (.ite (.not (.var 12))
      (.ret (.int .i64 (.lit 2)) [⟨[(.sl 3 (.lit 0) (.var 4) (.var 5)), (.int .i64 (.var 6))], 25⟩, ⟨[(.int .i64 (.var 7)), (.int .i64 (.var 8))], 27⟩])
      (.ret (.int .i64 (.var 11)) [⟨[(.sl 3 (.lit 0) (.var 4) (.var 5)), (.int .i64 (.var 6))], 25⟩, ⟨[(.int .i64 (.var 7)), (.int .i64 (.var 8))], 27⟩])))
     (.ret (.int .i64 (.var 11)) [⟨[(.sl 3 (.lit 0) (.var 4) (.var 5)), (.int .i64 (.var 6))], 25⟩, ⟨[(.int .i64 (.var 7)), (.int .i64 (.var 8))], 27⟩])))))))))))
theorem S_ref19_check : FnIs Tryd.prog n_ref19_check [.sl, (.agg [.sl, (.int .i64)]), (.agg [(.int .i64), (.int .i64)])] T_ref19_check := ⟨Tryd.f56, [], 4000, Tryd.func56, by kernel_rfl⟩
/-! 57 ablaut/ablautref19.alone  -/
abbrev n_ref19_alone : FuncId := 57
def T_ref19_alone : Tree :=
 (.loop 0 [.sl, (.int .i64)] [(.cst (.slice none 0 0)), (.int .i64 (.lit 0))] [] []
  (.chk (.cmp .geq (.var 1) (.lit 0))
  (.ite (.cmp .lss (.var 6) (.var 1))
   (.chk (.pick (.cmp .geq (.var 6) (.lit 0)) (.pick (.cmp .lss (.var 6) (.var 1)) (.some 0) (.lit false)) (.lit false))
   (.chk (.pick (.cmp .geq (.off (.var 6) 2 (.lit 0)) (.lit 0)) (.some 0) (.lit false))
   (.load 0 (.off (.var 6) 2 (.lit 0)) [.bool] []
   (.ite (.var 7)
    (.alloc
    (.ext false ⟨(.call ⟨.builtin .append, #[(.tmp 0), (.tmp 0)], #[30, 30]⟩), 30, [(.sl 3 (.lit 0) (.var 4) (.var 5)), (.slc 0 0 1 1)]⟩ .sl [⟨[(.int .i64 (.var 6))], 3⟩]
    (.again 0 0 [.sl, (.int .i64)] [(.sl 8 (.lit 0) (.var 9) (.var 10)), (.int .i64 (.bin .add .i64 (.var 6) (.lit 1)))] [⟨[(.int .i64 (.var 6))], 3⟩])))
    (.alloc
    (.ext false ⟨(.call ⟨.builtin .append, #[(.tmp 0), (.tmp 0)], #[30, 30]⟩), 30, [(.sl 3 (.lit 0) (.var 4) (.var 5)), (.slc 0 0 1 1)]⟩ .sl [⟨[(.int .i64 (.lit (-1)))], 3⟩]
    (.again 0 0 [.sl, (.int .i64)] [(.sl 8 (.lit 0) (.var 9) (.var 10)), (.int .i64 (.bin .add .i64 (.var 6) (.lit 1)))] [⟨[(.int .i64 (.lit (-1)))], 3⟩])))))))
   (.ret (.sl 3 (.lit 0) (.var 4) (.var 5)) []))))
theorem S_ref19_alone : FnIs Tryd.prog n_ref19_alone [.sl] T_ref19_alone := ⟨Tryd.f57, [], 4000, Tryd.func57, by kernel_rfl⟩
/-! 59 ablaut/ablautref19.AtMost  -/
abbrev n_ref19_AtMost : FuncId := 59
def T_ref19_AtMost : Tree :=
 (.alloc
 (.alloc
 (.chk (.cmp .neq (.var 1) (.lit 0))
 (.chk (.cmp .neq (.var 3) (.lit 0))
 (.ite (.cmp .neq (.bin .quo .i64 (.var 0) (.var 1)) (.bin .quo .i64 (.var 2) (.var 3)))
  (.ret (.bool (.cmp .lss (.bin .quo .i64 (.var 0) (.var 1)) (.bin .quo .i64 (.var 2) (.var 3)))) [⟨[(.int .i64 (.var 0)), (.int .i64 (.var 1))], 27⟩, ⟨[(.int .i64 (.var 2)), (.int .i64 (.var 3))], 27⟩])
  (.chk (.cmp .neq (.var 1) (.lit 0))
  (.chk (.cmp .neq (.var 3) (.lit 0))
  (.ite (.pick (.cmp .eql (.bin .rem .i64 (.var 0) (.var 1)) (.lit 0)) (.lit true) (.cmp .eql (.bin .rem .i64 (.var 2) (.var 3)) (.lit 0)))
   (.ret (.bool (.cmp .eql (.bin .rem .i64 (.var 0) (.var 1)) (.lit 0))) [⟨[(.int .i64 (.var 0)), (.int .i64 (.var 1))], 27⟩, ⟨[(.int .i64 (.var 2)), (.int .i64 (.var 3))], 27⟩])
   (.call false 59 [(.agg [(.int .i64 (.var 3)), (.int .i64 (.bin .rem .i64 (.var 2) (.var 3)))]), (.agg [(.int .i64 (.var 1)), (.int .i64 (.bin .rem .i64 (.var 0) (.var 1)))])] .bool [⟨[(.int .i64 (.var 0)), (.int .i64 (.var 1))], 27⟩, ⟨[(.int .i64 (.var 2)), (.int .i64 (.var 3))], 27⟩]
   (.ret (.bool (.var 4)) [⟨[(.int .i64 (.var 0)), (.int .i64 (.var 1))], 27⟩, ⟨[(.int .i64 (.var 2)), (.int .i64 (.var 3))], 27⟩]))))))))))
theorem S_ref19_AtMost : FnIs Tryd.prog n_ref19_AtMost [(.agg [(.int .i64), (.int .i64)]), (.agg [(.int .i64), (.int .i64)])] T_ref19_AtMost := ⟨Tryd.f59, [], 4000, Tryd.func59, by kernel_rfl⟩
/-! 60 ablaut/ablautref19.unite  -/
abbrev n_ref19_unite : FuncId := 60
def T_ref19_unite : Tree :=
 (.loop 0 [.sl, (.int .i64)] [(.cst (.slice none 0 0)), (.int .i64 (.lit 0))] [] []
  (.chk (.cmp .geq (.var 1) (.lit 0))
  (.ite (.cmp .lss (.var 8) (.var 1))
   (.chk (.pick (.cmp .geq (.var 8) (.lit 0)) (.pick (.cmp .lss (.var 8) (.var 1)) (.some 0) (.lit false)) (.lit false))
   (.load 0 (.off (.var 8) 1 (.lit 0)) [(.int .i64)] []
   (.ite (.cmp .eql (.var 9) (.var 3))
    (.alloc
    (.ext false ⟨(.call ⟨.builtin .append, #[(.tmp 0), (.tmp 0)], #[30, 30]⟩), 30, [(.sl 5 (.lit 0) (.var 6) (.var 7)), (.slc 0 0 1 1)]⟩ .sl [⟨[(.int .i64 (.mn (.var 3) (.var 4)))], 3⟩]
    (.again 0 0 [.sl, (.int .i64)] [(.sl 10 (.lit 0) (.var 11) (.var 12)), (.int .i64 (.bin .add .i64 (.var 8) (.lit 1)))] [⟨[(.int .i64 (.mn (.var 3) (.var 4)))], 3⟩])))
    (.chk (.pick (.cmp .geq (.var 8) (.lit 0)) (.pick (.cmp .lss (.var 8) (.var 1)) (.some 0) (.lit false)) (.lit false))
    (.load 0 (.off (.var 8) 1 (.lit 0)) [(.int .i64)] []
    (.ite (.cmp .eql (.var 10) (.var 4))
     (.alloc
     (.ext false ⟨(.call ⟨.builtin .append, #[(.tmp 0), (.tmp 0)], #[30, 30]⟩), 30, [(.sl 5 (.lit 0) (.var 6) (.var 7)), (.slc 0 0 1 1)]⟩ .sl [⟨[(.int .i64 (.mn (.var 3) (.var 4)))], 3⟩]
     (.again 0 0 [.sl, (.int .i64)] [(.sl 11 (.lit 0) (.var 12) (.var 13)), (.int .i64 (.bin .add .i64 (.var 8) (.lit 1)))] [⟨[(.int .i64 (.mn (.var 3) (.var 4)))], 3⟩])))
     (.chk (.pick (.cmp .geq (.var 8) (.lit 0)) (.pick (.cmp .lss (.var 8) (.var 1)) (.some 0) (.lit false)) (.lit false))
     (.load 0 (.off (.var 8) 1 (.lit 0)) [(.int .i64)] []
     (.alloc
     (.ext false ⟨(.call ⟨.builtin .append, #[(.tmp 0), (.tmp 0)], #[30, 30]⟩), 30, [(.sl 5 (.lit 0) (.var 6) (.var 7)), (.slc 0 0 1 1)]⟩ .sl [⟨[(.int .i64 (.var 11))], 3⟩]
     (.again 0 0 [.sl, (.int .i64)] [(.sl 12 (.lit 0) (.var 13) (.var 14)), (.int .i64 (.bin .add .i64 (.var 8) (.lit 1)))] [⟨[(.int .i64 (.var 11))], 3⟩])))))))))))
   (.ret (.sl 5 (.lit 0) (.var 6) (.var 7)) []))))
theorem S_ref19_unite : FnIs Tryd.prog n_ref19_unite [.sl, (.int .i64), (.int .i64)] T_ref19_unite := ⟨Tryd.f60, [], 4000, Tryd.func60, by kernel_rfl⟩
/-! 62 ablaut/ablautref19.ratio  -/
/-! 67 ablaut/ablautref19.wrong  -/
/-! 68 ablaut/ablautref19.pairs  -/
/-! 69 ablaut/ablautref19.share  -/
/-! 71 ablaut/ablautref19.cubed  -/
/-! 87 ablaut/ablautref19.empty  -/
abbrev n_ref19_empty : FuncId := 87
def T_ref19_empty : Tree :=
 (.loop 0 [.bool, (.int .i64)] [(.bool (.lit false)), (.int .i64 (.lit 0))] [] []
  (.chk (.cmp .geq (.var 1) (.lit 0))
  (.ite (.cmp .lss (.var 4) (.var 1))
   (.chk (.pick (.cmp .geq (.var 4) (.lit 0)) (.pick (.cmp .lss (.var 4) (.var 1)) (.some 0) (.lit false)) (.lit false))
   (.chk (.pick (.cmp .geq (.off (.var 4) 2 (.lit 0)) (.lit 0)) (.some 0) (.lit false))
   (.load 0 (.off (.var 4) 2 (.lit 0)) [.bool] []
   (.ite (.not (.var 5))
    (.chk (.pick (.cmp .geq (.var 4) (.lit 0)) (.pick (.cmp .lss (.var 4) (.var 1)) (.some 0) (.lit false)) (.lit false))
    (.chk (.pick (.cmp .geq (.off (.var 4) 2 (.lit 0)) (.lit 0)) (.some 0) (.lit false))
    (.load 0 (.off (.lit 1) 1 (.off (.var 4) 2 (.lit 0))) [.sl] []
    (.chk (.cmp .geq (.var 7) (.lit 0))
    (.ite (.cmp .gtr (.var 7) (.lit 0))
     (.ret (.bool (.lit false)) [])
     (.again 0 0 [.bool, (.int .i64)] [(.bool (.var 3)), (.int .i64 (.bin .add .i64 (.var 4) (.lit 1)))] []))))))
    (.again 0 0 [.bool, (.int .i64)] [(.bool (.var 3)), (.int .i64 (.bin .add .i64 (.var 4) (.lit 1)))] [])))))
   (.ret (.bool (.lit true)) []))))
theorem S_ref19_empty : FnIs Tryd.prog n_ref19_empty [.sl] T_ref19_empty := ⟨Tryd.f87, [], 4000, Tryd.func87, by kernel_rfl⟩
/-! 88 ablaut/ablautref19.words  -/
abbrev n_ref19_words : FuncId := 88
def T_ref19_words : Tree :=
 (.loop 0 [(.int .i64), (.int .i64)] [(.int .i64 (.lit 0)), (.int .i64 (.lit 0))] [] []
  (.chk (.cmp .geq (.var 1) (.lit 0))
  (.ite (.cmp .lss (.var 4) (.var 1))
   (.chk (.pick (.cmp .geq (.var 4) (.lit 0)) (.pick (.cmp .lss (.var 4) (.var 1)) (.some 0) (.lit false)) (.lit false))
   (.chk (.pick (.cmp .geq (.off (.var 4) 2 (.lit 0)) (.lit 0)) (.some 0) (.lit false))
   (.load 0 (.off (.lit 1) 1 (.off (.var 4) 2 (.lit 0))) [.sl] []
   (.call false 104 [(.sl 5 (.lit 0) (.var 6) (.var 7))] (.int .i64) []
   (.ite (.cmp .neq (.var 8) (.lit 0))
    (.ret (.int .i64 (.var 8)) [])
    (.again 0 0 [(.int .i64), (.int .i64)] [(.int .i64 (.var 3)), (.int .i64 (.bin .add .i64 (.var 4) (.lit 1)))] []))))))
   (.ret (.int .i64 (.lit 0)) []))))
theorem S_ref19_words : FnIs Tryd.prog n_ref19_words [.sl] T_ref19_words := ⟨Tryd.f88, [], 4000, Tryd.func88, by kernel_rfl⟩
/-! 89 ablaut/ablautref19.limits  -/
abbrev n_ref19_limits : FuncId := 89
def T_ref19_limits : Tree :=
 (.alloc
 (.ret (.bool (.pick (.cmp .geq (.var 1) (.lit 1)) (.cmp .geq (.var 0) (.lit 0)) (.lit false))) [⟨[(.int .i64 (.var 0)), (.int .i64 (.var 1))], 27⟩]))
theorem S_ref19_limits : FnIs Tryd.prog n_ref19_limits [(.agg [(.int .i64), (.int .i64)])] T_ref19_limits := ⟨Tryd.f89, [], 4000, Tryd.func89, by kernel_rfl⟩
/-! 95 ablaut/ablautref19.both  -/
/-! 96 ablaut/ablautref19.divisor  -/
end Go.Proofs.YthabfpagilbplaaDoor
