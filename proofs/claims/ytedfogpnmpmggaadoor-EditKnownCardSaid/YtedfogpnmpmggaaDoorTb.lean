/- The trees of this seat's functions, printed by a program of mine (SyGen), checked here by the kernel. -/
import Derived.Test.YtedfogpnmpmggaaDoorSyDef
import Derived.Test.YtedfogpnmpmggaaDoorProg
import Derived.KernelRfl
set_option maxRecDepth 100000
namespace Go.Proofs.YtedfogpnmpmggaaDoor
open Go Go.Sy
/-! 15 ablaut/edit.Dist  -/
abbrev n_edit_Dist : FuncId := 15
def T_edit_Dist : Tree :=
 (.alloc
 (.call false 41 [(.sl 0 (.lit 0) (.var 1) (.var 2)), (.sl 3 (.lit 0) (.var 4) (.var 5)), (.agg [(.sl 6 (.lit 0) (.var 7) (.var 8)), (.int .i64 (.var 9))])] (.tup [.ptr, (.int .i64)]) [⟨[(.sl 6 (.lit 0) (.var 7) (.var 8)), (.int .i64 (.var 9))], 25⟩]
 (.ite (.cmp .neq (.var 11) (.lit 0))
  (.ret (.tup [(.int .i64 (.lit 0)), (.int .i64 (.var 11))]) [⟨[(.sl 6 (.lit 0) (.var 7) (.var 8)), (.int .i64 (.var 9))], 25⟩])
  (.chk (.some 10)
  (.chk (.some 10)
  (.chk (.some 10)
  (.chk (.some 10)
  (.load 10 (.lit 4) [(.int .i64)] [⟨[(.sl 6 (.lit 0) (.var 7) (.var 8)), (.int .i64 (.var 9))], 25⟩]
  (.ret (.tup [(.int .i64 (.var 12)), (.int .i64 (.lit 0))]) [⟨[(.sl 6 (.lit 0) (.var 7) (.var 8)), (.int .i64 (.var 9))], 25⟩])))))))))
theorem S_edit_Dist : FnIs Tryd.prog n_edit_Dist [.sl, .sl, (.agg [.sl, (.int .i64)])] T_edit_Dist := ⟨Tryd.f15, [], 4000, Tryd.func15, by kernel_rfl⟩
/-! 17 ablaut/edit.Align  -/
abbrev n_edit_Align : FuncId := 17
def T_edit_Align : Tree :=
 (.alloc
 (.call false 41 [(.sl 0 (.lit 0) (.var 1) (.var 2)), (.sl 3 (.lit 0) (.var 4) (.var 5)), (.agg [(.sl 6 (.lit 0) (.var 7) (.var 8)), (.int .i64 (.var 9))])] (.tup [.ptr, (.int .i64)]) [⟨[(.sl 6 (.lit 0) (.var 7) (.var 8)), (.int .i64 (.var 9))], 25⟩]
 (.ite (.cmp .neq (.var 11) (.lit 0))
  (.ret (.tup [(.cst (.slice none 0 0)), (.int .i64 (.var 11))]) [⟨[(.sl 6 (.lit 0) (.var 7) (.var 8)), (.int .i64 (.var 9))], 25⟩])
  (.alloc
  (.allocc 3 ([(.int .i64 (.lit 0))])
  (.allocc 3 ([(.int .i64 (.lit 0))])
  (.store false 12 (.lit 0) [(.int .i64 (.lit 0))] [⟨[(.sl 6 (.lit 0) (.var 7) (.var 8)), (.int .i64 (.var 9))], 25⟩, ⟨[(.cst (.slice none 0 0))], 33⟩]
  (.store false 13 (.lit 0) [(.int .i64 (.lit 0))] [⟨[(.sl 6 (.lit 0) (.var 7) (.var 8)), (.int .i64 (.var 9))], 25⟩, ⟨[(.cst (.slice none 0 0))], 33⟩]
  (.loop 0 [.ptr, .ptr, .sl] [(.ptr 12 (.lit 0)), (.ptr 13 (.lit 0)), (.cst (.slice none 0 0))] [⟨[(.sl 6 (.lit 0) (.var 7) (.var 8)), (.int .i64 (.var 9))], 25⟩, ⟨[(.cst (.slice none 0 0))], 33⟩] [⟨[(.sl 6 (.lit 0) (.var 7) (.var 8)), (.int .i64 (.var 9))], 25⟩, ⟨[(.sl 16 (.lit 0) (.var 17) (.var 18))], 33⟩]
   (.join 1 [.bool] [⟨[(.sl 6 (.lit 0) (.var 7) (.var 8)), (.int .i64 (.var 9))], 25⟩, ⟨[(.sl 16 (.lit 0) (.var 17) (.var 18))], 33⟩]
    (.load 14 (.lit 0) [(.int .i64)] [⟨[(.sl 6 (.lit 0) (.var 7) (.var 8)), (.int .i64 (.var 9))], 25⟩, ⟨[(.sl 16 (.lit 0) (.var 17) (.var 18))], 33⟩]
    (.chk (.cmp .geq (.var 1) (.lit 0))
    (.ite (.cmp .lss (.var 19) (.var 1))
     (.again 1 2 [.bool] [(.bool (.lit true))] [⟨[(.sl 6 (.lit 0) (.var 7) (.var 8)), (.int .i64 (.var 9))], 25⟩, ⟨[(.sl 16 (.lit 0) (.var 17) (.var 18))], 33⟩])
     (.load 15 (.lit 0) [(.int .i64)] [⟨[(.sl 6 (.lit 0) (.var 7) (.var 8)), (.int .i64 (.var 9))], 25⟩, ⟨[(.sl 16 (.lit 0) (.var 17) (.var 18))], 33⟩]
     (.chk (.cmp .geq (.var 4) (.lit 0))
     (.again 1 2 [.bool] [(.bool (.cmp .lss (.var 20) (.var 4)))] [⟨[(.sl 6 (.lit 0) (.var 7) (.var 8)), (.int .i64 (.var 9))], 25⟩, ⟨[(.sl 16 (.lit 0) (.var 17) (.var 18))], 33⟩]))))))
   (.ite (.var 19)
    (.load 14 (.lit 0) [(.int .i64)] [⟨[(.sl 6 (.lit 0) (.var 7) (.var 8)), (.int .i64 (.var 9))], 25⟩, ⟨[(.sl 16 (.lit 0) (.var 17) (.var 18))], 33⟩]
    (.load 15 (.lit 0) [(.int .i64)] [⟨[(.sl 6 (.lit 0) (.var 7) (.var 8)), (.int .i64 (.var 9))], 25⟩, ⟨[(.sl 16 (.lit 0) (.var 17) (.var 18))], 33⟩]
    (.call false 44 [(.ptr 10 (.lit 0)), (.int .i64 (.var 20)), (.int .i64 (.var 21))] .val [⟨[(.sl 6 (.lit 0) (.var 7) (.var 8)), (.int .i64 (.var 9))], 25⟩, ⟨[(.sl 16 (.lit 0) (.var 17) (.var 18))], 33⟩]
    (.join 1 [.sl] [⟨[(.sl 6 (.lit 0) (.var 7) (.var 8)), (.int .i64 (.var 9))], 25⟩, ⟨[(.sl 23 (.lit 0) (.var 24) (.var 25))], 33⟩]
     (.range (.val 22) [(.agg [(.int .i64), (.int .i64), (.int .i64)])] [.sl] [(.sl 16 (.lit 0) (.var 17) (.var 18))] [⟨[(.sl 6 (.lit 0) (.var 7) (.var 8)), (.int .i64 (.var 9))], 25⟩, ⟨[(.sl 16 (.lit 0) (.var 17) (.var 18))], 33⟩] [⟨[(.sl 6 (.lit 0) (.var 7) (.var 8)), (.int .i64 (.var 9))], 25⟩, ⟨[(.sl 23 (.lit 0) (.var 24) (.var 25))], 33⟩]
      (.alloc
      (.load 14 (.lit 0) [(.int .i64)] [⟨[(.sl 6 (.lit 0) (.var 7) (.var 8)), (.int .i64 (.var 9))], 25⟩, ⟨[(.sl 23 (.lit 0) (.var 24) (.var 25))], 33⟩, ⟨[(.int .i64 (.var 26)), (.int .i64 (.var 27)), (.int .i64 (.var 28))], 87⟩]
      (.load 15 (.lit 0) [(.int .i64)] [⟨[(.sl 6 (.lit 0) (.var 7) (.var 8)), (.int .i64 (.var 9))], 25⟩, ⟨[(.sl 23 (.lit 0) (.var 24) (.var 25))], 33⟩, ⟨[(.int .i64 (.var 26)), (.int .i64 (.var 27)), (.int .i64 (.var 28))], 87⟩]
      (.alloc
      (.load 14 (.lit 0) [(.int .i64)] [⟨[(.sl 6 (.lit 0) (.var 7) (.var 8)), (.int .i64 (.var 9))], 25⟩, ⟨[(.sl 23 (.lit 0) (.var 24) (.var 25))], 33⟩, ⟨[(.int .i64 (.var 26)), (.int .i64 (.var 27)), (.int .i64 (.var 28))], 87⟩, ⟨[(.int .i64 (.var 29)), (.int .i64 (.var 30))], 57⟩]
      (.join 0 [(.int .i64), (.int .i64)] [⟨[(.sl 6 (.lit 0) (.var 7) (.var 8)), (.int .i64 (.var 9))], 25⟩, ⟨[(.sl 23 (.lit 0) (.var 24) (.var 25))], 33⟩, ⟨[(.int .i64 (.var 26)), (.int .i64 (.var 27)), (.int .i64 (.var 28))], 87⟩, ⟨[(.int .i64 (.var 32)), (.int .i64 (.var 33))], 57⟩]
       (.ite (.cmp .eql (.var 26) (.var 31))
        (.again 0 4 [(.int .i64), (.int .i64)] [(.int .i64 (.lit (-1))), (.int .i64 (.var 30))] [⟨[(.sl 6 (.lit 0) (.var 7) (.var 8)), (.int .i64 (.var 9))], 25⟩, ⟨[(.sl 23 (.lit 0) (.var 24) (.var 25))], 33⟩, ⟨[(.int .i64 (.var 26)), (.int .i64 (.var 27)), (.int .i64 (.var 28))], 87⟩, ⟨[(.int .i64 (.lit (-1))), (.int .i64 (.var 30))], 57⟩])
        (.again 0 4 [(.int .i64), (.int .i64)] [(.int .i64 (.var 29)), (.int .i64 (.var 30))] [⟨[(.sl 6 (.lit 0) (.var 7) (.var 8)), (.int .i64 (.var 9))], 25⟩, ⟨[(.sl 23 (.lit 0) (.var 24) (.var 25))], 33⟩, ⟨[(.int .i64 (.var 26)), (.int .i64 (.var 27)), (.int .i64 (.var 28))], 87⟩, ⟨[(.int .i64 (.var 29)), (.int .i64 (.var 30))], 57⟩]))
      (.load 15 (.lit 0) [(.int .i64)] [⟨[(.sl 6 (.lit 0) (.var 7) (.var 8)), (.int .i64 (.var 9))], 25⟩, ⟨[(.sl 23 (.lit 0) (.var 24) (.var 25))], 33⟩, ⟨[(.int .i64 (.var 26)), (.int .i64 (.var 27)), (.int .i64 (.var 28))], 87⟩, ⟨[(.int .i64 (.var 32)), (.int .i64 (.var 33))], 57⟩]
      (.join 0 [(.int .i64), (.int .i64)] [⟨[(.sl 6 (.lit 0) (.var 7) (.var 8)), (.int .i64 (.var 9))], 25⟩, ⟨[(.sl 23 (.lit 0) (.var 24) (.var 25))], 33⟩, ⟨[(.int .i64 (.var 26)), (.int .i64 (.var 27)), (.int .i64 (.var 28))], 87⟩, ⟨[(.int .i64 (.var 35)), (.int .i64 (.var 36))], 57⟩]
       (.ite (.cmp .eql (.var 27) (.var 34))
        (.again 0 4 [(.int .i64), (.int .i64)] [(.int .i64 (.var 32)), (.int .i64 (.lit (-1)))] [⟨[(.sl 6 (.lit 0) (.var 7) (.var 8)), (.int .i64 (.var 9))], 25⟩, ⟨[(.sl 23 (.lit 0) (.var 24) (.var 25))], 33⟩, ⟨[(.int .i64 (.var 26)), (.int .i64 (.var 27)), (.int .i64 (.var 28))], 87⟩, ⟨[(.int .i64 (.var 32)), (.int .i64 (.lit (-1)))], 57⟩])
        (.again 0 4 [(.int .i64), (.int .i64)] [(.int .i64 (.var 32)), (.int .i64 (.var 33))] [⟨[(.sl 6 (.lit 0) (.var 7) (.var 8)), (.int .i64 (.var 9))], 25⟩, ⟨[(.sl 23 (.lit 0) (.var 24) (.var 25))], 33⟩, ⟨[(.int .i64 (.var 26)), (.int .i64 (.var 27)), (.int .i64 (.var 28))], 87⟩, ⟨[(.int .i64 (.var 32)), (.int .i64 (.var 33))], 57⟩]))
      (.alloc
      (.ext false ⟨(.call ⟨.builtin .append, #[(.tmp 0), (.tmp 0)], #[33, 33]⟩), 33, [(.sl 23 (.lit 0) (.var 24) (.var 25)), (.slc 4 0 1 1)]⟩ .sl [⟨[(.sl 6 (.lit 0) (.var 7) (.var 8)), (.int .i64 (.var 9))], 25⟩, ⟨[(.sl 23 (.lit 0) (.var 24) (.var 25))], 33⟩, ⟨[(.int .i64 (.var 26)), (.int .i64 (.var 27)), (.int .i64 (.var 28))], 87⟩, ⟨[(.int .i64 (.var 35)), (.int .i64 (.var 36))], 57⟩, ⟨[(.int .i64 (.var 35)), (.int .i64 (.var 36))], 57⟩]
      (.store true 14 (.lit 0) [(.int .i64 (.var 26))] [⟨[(.sl 6 (.lit 0) (.var 7) (.var 8)), (.int .i64 (.var 9))], 25⟩, ⟨[(.sl 37 (.lit 0) (.var 38) (.var 39))], 33⟩, ⟨[(.int .i64 (.var 26)), (.int .i64 (.var 27)), (.int .i64 (.var 28))], 87⟩, ⟨[(.int .i64 (.var 35)), (.int .i64 (.var 36))], 57⟩, ⟨[(.int .i64 (.var 35)), (.int .i64 (.var 36))], 57⟩]
      (.store false 15 (.lit 0) [(.int .i64 (.var 27))] [⟨[(.sl 6 (.lit 0) (.var 7) (.var 8)), (.int .i64 (.var 9))], 25⟩, ⟨[(.sl 37 (.lit 0) (.var 38) (.var 39))], 33⟩, ⟨[(.int .i64 (.var 26)), (.int .i64 (.var 27)), (.int .i64 (.var 28))], 87⟩, ⟨[(.int .i64 (.var 35)), (.int .i64 (.var 36))], 57⟩, ⟨[(.int .i64 (.var 35)), (.int .i64 (.var 36))], 57⟩]
      (.leave 4 2 [.sl] [(.sl 37 (.lit 0) (.var 38) (.var 39))] [⟨[(.sl 6 (.lit 0) (.var 7) (.var 8)), (.int .i64 (.var 9))], 25⟩, ⟨[(.sl 37 (.lit 0) (.var 38) (.var 39))], 33⟩, ⟨[(.int .i64 (.var 26)), (.int .i64 (.var 27)), (.int .i64 (.var 28))], 87⟩, ⟨[(.int .i64 (.var 35)), (.int .i64 (.var 36))], 57⟩, ⟨[(.int .i64 (.var 35)), (.int .i64 (.var 36))], 57⟩])))))))))))))
      (.ite (.cmp .eql (.var 26) (.lit 4))
       (.again 1 2 [.sl] [(.sl 23 (.lit 0) (.var 24) (.var 25))] [⟨[(.sl 6 (.lit 0) (.var 7) (.var 8)), (.int .i64 (.var 9))], 25⟩, ⟨[(.sl 23 (.lit 0) (.var 24) (.var 25))], 33⟩])
       (.again 1 2 [.sl] [(.sl 23 (.lit 0) (.var 24) (.var 25))] [⟨[(.sl 6 (.lit 0) (.var 7) (.var 8)), (.int .i64 (.var 9))], 25⟩, ⟨[(.sl 23 (.lit 0) (.var 24) (.var 25))], 33⟩])))
    (.load 14 (.lit 0) [(.int .i64)] [⟨[(.sl 6 (.lit 0) (.var 7) (.var 8)), (.int .i64 (.var 9))], 25⟩, ⟨[(.sl 23 (.lit 0) (.var 24) (.var 25))], 33⟩]
    (.load 15 (.lit 0) [(.int .i64)] [⟨[(.sl 6 (.lit 0) (.var 7) (.var 8)), (.int .i64 (.var 9))], 25⟩, ⟨[(.sl 23 (.lit 0) (.var 24) (.var 25))], 33⟩]
    (.allocc 3 ([(.int .i64 (.lit 0))])
    (.store false 28 (.lit 0) [(.int .i64 (.var 26))] [⟨[(.sl 6 (.lit 0) (.var 7) (.var 8)), (.int .i64 (.var 9))], 25⟩, ⟨[(.sl 23 (.lit 0) (.var 24) (.var 25))], 33⟩]
    (.allocc 3 ([(.int .i64 (.lit 0))])
    (.store false 29 (.lit 0) [(.int .i64 (.var 27))] [⟨[(.sl 6 (.lit 0) (.var 7) (.var 8)), (.int .i64 (.var 9))], 25⟩, ⟨[(.sl 23 (.lit 0) (.var 24) (.var 25))], 33⟩]
    (.again 0 2 [.ptr, .ptr, .sl] [(.ptr 28 (.lit 0)), (.ptr 29 (.lit 0)), (.sl 23 (.lit 0) (.var 24) (.var 25))] [⟨[(.sl 6 (.lit 0) (.var 7) (.var 8)), (.int .i64 (.var 9))], 25⟩, ⟨[(.sl 23 (.lit 0) (.var 24) (.var 25))], 33⟩])))))))))))
    (.ret (.tup [(.sl 16 (.lit 0) (.var 17) (.var 18)), (.int .i64 (.lit 0))]) [⟨[(.sl 6 (.lit 0) (.var 7) (.var 8)), (.int .i64 (.var 9))], 25⟩, ⟨[(.sl 16 (.lit 0) (.var 17) (.var 18))], 33⟩]))))))))))))
theorem S_edit_Align : FnIs Tryd.prog n_edit_Align [.sl, .sl, (.agg [.sl, (.int .i64)])] T_edit_Align := ⟨Tryd.f17, [{ key := 200006, tmps := [(34, .bool)], join := true, dead := 11526892035688595480 }, { key := 100002, tmps := [], join := true }, { key := 11, tmps := [], join := true }, { key := 13, tmps := [], join := true }, { key := 999999, tmps := [], join := false, dead := 6144 }], 4000, Tryd.func17, by kernel_rfl⟩
/-! 19 ablaut/edit.Ways  -/
abbrev n_edit_Ways : FuncId := 19
def T_edit_Ways : Tree :=
 (.alloc
 (.call false 41 [(.sl 0 (.lit 0) (.var 1) (.var 2)), (.sl 3 (.lit 0) (.var 4) (.var 5)), (.agg [(.sl 6 (.lit 0) (.var 7) (.var 8)), (.int .i64 (.var 9))])] (.tup [.ptr, (.int .i64)]) [⟨[(.sl 6 (.lit 0) (.var 7) (.var 8)), (.int .i64 (.var 9))], 25⟩]
 (.ite (.cmp .neq (.var 11) (.lit 0))
  (.ret (.tup [(.int .i64 (.lit 0)), (.int .i64 (.var 11))]) [⟨[(.sl 6 (.lit 0) (.var 7) (.var 8)), (.int .i64 (.var 9))], 25⟩])
  (.allocb 90 none
  (.chk (.cmp .geq (.var 1) (.lit 0))
  (.alloc
  (.loop 0 [.ptr, (.int .i64)] [(.loc 1 0), (.int .i64 (.var 1))] [⟨[(.sl 6 (.lit 0) (.var 7) (.var 8)), (.int .i64 (.var 9))], 25⟩, ⟨[(.int .i64 (.var 1))], 3⟩] [⟨[(.sl 6 (.lit 0) (.var 7) (.var 8)), (.int .i64 (.var 9))], 25⟩, ⟨[(.int .i64 (.var 14))], 3⟩]
   (.load 13 (.lit 0) [(.int .i64)] [⟨[(.sl 6 (.lit 0) (.var 7) (.var 8)), (.int .i64 (.var 9))], 25⟩, ⟨[(.int .i64 (.var 14))], 3⟩]
   (.ite (.cmp .geq (.var 15) (.lit 0))
    (.chk (.cmp .geq (.var 4) (.lit 0))
    (.alloc
    (.loop 1 [.ptr, (.int .i64)] [(.loc 2 0), (.int .i64 (.var 4))] [⟨[(.sl 6 (.lit 0) (.var 7) (.var 8)), (.int .i64 (.var 9))], 25⟩, ⟨[(.int .i64 (.var 14))], 3⟩, ⟨[(.int .i64 (.var 4))], 3⟩] [⟨[(.sl 6 (.lit 0) (.var 7) (.var 8)), (.int .i64 (.var 9))], 25⟩, ⟨[(.int .i64 (.var 14))], 3⟩, ⟨[(.int .i64 (.var 17))], 3⟩]
     (.load 16 (.lit 0) [(.int .i64)] [⟨[(.sl 6 (.lit 0) (.var 7) (.var 8)), (.int .i64 (.var 9))], 25⟩, ⟨[(.int .i64 (.var 14))], 3⟩, ⟨[(.int .i64 (.var 17))], 3⟩]
     (.ite (.cmp .geq (.var 18) (.lit 0))
      (.join 2 [.bool] [⟨[(.sl 6 (.lit 0) (.var 7) (.var 8)), (.int .i64 (.var 9))], 25⟩, ⟨[(.int .i64 (.var 14))], 3⟩, ⟨[(.int .i64 (.var 17))], 3⟩]
       (.load 13 (.lit 0) [(.int .i64)] [⟨[(.sl 6 (.lit 0) (.var 7) (.var 8)), (.int .i64 (.var 9))], 25⟩, ⟨[(.int .i64 (.var 14))], 3⟩, ⟨[(.int .i64 (.var 17))], 3⟩]
       (.chk (.cmp .geq (.var 1) (.lit 0))
       (.ite (.cmp .eql (.var 19) (.var 1))
        (.load 16 (.lit 0) [(.int .i64)] [⟨[(.sl 6 (.lit 0) (.var 7) (.var 8)), (.int .i64 (.var 9))], 25⟩, ⟨[(.int .i64 (.var 14))], 3⟩, ⟨[(.int .i64 (.var 17))], 3⟩]
        (.chk (.cmp .geq (.var 4) (.lit 0))
        (.again 2 3 [.bool] [(.bool (.cmp .eql (.var 20) (.var 4)))] [⟨[(.sl 6 (.lit 0) (.var 7) (.var 8)), (.int .i64 (.var 9))], 25⟩, ⟨[(.int .i64 (.var 14))], 3⟩, ⟨[(.int .i64 (.var 17))], 3⟩])))
        (.again 2 3 [.bool] [(.bool (.lit false))] [⟨[(.sl 6 (.lit 0) (.var 7) (.var 8)), (.int .i64 (.var 9))], 25⟩, ⟨[(.int .i64 (.var 14))], 3⟩, ⟨[(.int .i64 (.var 17))], 3⟩]))))
      (.join 2 [] [⟨[(.sl 6 (.lit 0) (.var 7) (.var 8)), (.int .i64 (.var 9))], 25⟩, ⟨[(.int .i64 (.var 14))], 3⟩, ⟨[(.int .i64 (.var 17))], 3⟩]
       (.ite (.var 19)
        (.load 13 (.lit 0) [(.int .i64)] [⟨[(.sl 6 (.lit 0) (.var 7) (.var 8)), (.int .i64 (.var 9))], 25⟩, ⟨[(.int .i64 (.var 14))], 3⟩, ⟨[(.int .i64 (.var 17))], 3⟩]
        (.load 16 (.lit 0) [(.int .i64)] [⟨[(.sl 6 (.lit 0) (.var 7) (.var 8)), (.int .i64 (.var 9))], 25⟩, ⟨[(.int .i64 (.var 14))], 3⟩, ⟨[(.int .i64 (.var 17))], 3⟩]
        (.chk (.pick (.cmp .geq (.var 20) (.lit 0)) (.pick (.cmp .lss (.var 20) (.lit 33)) (.some 12) (.lit false)) (.lit false))
        (.chk (.pick (.cmp .geq (.off (.var 20) 33 (.lit 0)) (.lit 0)) (.pick (.cmp .geq (.var 21) (.lit 0)) (.pick (.cmp .lss (.var 21) (.lit 33)) (.some 12) (.lit false)) (.lit false)) (.lit false))
        (.store false 12 (.off (.var 21) 1 (.off (.var 20) 33 (.lit 0))) [(.int .u64 (.lit 1))] [⟨[(.sl 6 (.lit 0) (.var 7) (.var 8)), (.int .i64 (.var 9))], 25⟩, ⟨[(.int .i64 (.var 14))], 3⟩, ⟨[(.int .i64 (.var 17))], 3⟩]
        (.again 2 3 [] [] [⟨[(.sl 6 (.lit 0) (.var 7) (.var 8)), (.int .i64 (.var 9))], 25⟩, ⟨[(.int .i64 (.var 14))], 3⟩, ⟨[(.int .i64 (.var 17))], 3⟩]))))))
        (.again 2 3 [] [] [⟨[(.sl 6 (.lit 0) (.var 7) (.var 8)), (.int .i64 (.var 9))], 25⟩, ⟨[(.int .i64 (.var 14))], 3⟩, ⟨[(.int .i64 (.var 17))], 3⟩]))
      (.load 13 (.lit 0) [(.int .i64)] [⟨[(.sl 6 (.lit 0) (.var 7) (.var 8)), (.int .i64 (.var 9))], 25⟩, ⟨[(.int .i64 (.var 14))], 3⟩, ⟨[(.int .i64 (.var 17))], 3⟩]
      (.load 16 (.lit 0) [(.int .i64)] [⟨[(.sl 6 (.lit 0) (.var 7) (.var 8)), (.int .i64 (.var 9))], 25⟩, ⟨[(.int .i64 (.var 14))], 3⟩, ⟨[(.int .i64 (.var 17))], 3⟩]
      (.call false 44 [(.ptr 10 (.lit 0)), (.int .i64 (.var 20)), (.int .i64 (.var 21))] .val [⟨[(.sl 6 (.lit 0) (.var 7) (.var 8)), (.int .i64 (.var 9))], 25⟩, ⟨[(.int .i64 (.var 14))], 3⟩, ⟨[(.int .i64 (.var 17))], 3⟩]
      (.range (.val 22) [(.agg [(.int .i64), (.int .i64), (.int .i64)])] [] [] [⟨[(.sl 6 (.lit 0) (.var 7) (.var 8)), (.int .i64 (.var 9))], 25⟩, ⟨[(.int .i64 (.var 14))], 3⟩, ⟨[(.int .i64 (.var 17))], 3⟩] [⟨[(.sl 6 (.lit 0) (.var 7) (.var 8)), (.int .i64 (.var 9))], 25⟩, ⟨[(.int .i64 (.var 14))], 3⟩, ⟨[(.int .i64 (.var 17))], 3⟩]
       (.alloc
       (.load 13 (.lit 0) [(.int .i64)] [⟨[(.sl 6 (.lit 0) (.var 7) (.var 8)), (.int .i64 (.var 9))], 25⟩, ⟨[(.int .i64 (.var 14))], 3⟩, ⟨[(.int .i64 (.var 17))], 3⟩, ⟨[(.int .i64 (.var 23)), (.int .i64 (.var 24)), (.int .i64 (.var 25))], 87⟩]
       (.load 16 (.lit 0) [(.int .i64)] [⟨[(.sl 6 (.lit 0) (.var 7) (.var 8)), (.int .i64 (.var 9))], 25⟩, ⟨[(.int .i64 (.var 14))], 3⟩, ⟨[(.int .i64 (.var 17))], 3⟩, ⟨[(.int .i64 (.var 23)), (.int .i64 (.var 24)), (.int .i64 (.var 25))], 87⟩]
       (.chk (.pick (.cmp .geq (.var 26) (.lit 0)) (.pick (.cmp .lss (.var 26) (.lit 33)) (.some 12) (.lit false)) (.lit false))
       (.chk (.pick (.cmp .geq (.off (.var 26) 33 (.lit 0)) (.lit 0)) (.pick (.cmp .geq (.var 27) (.lit 0)) (.pick (.cmp .lss (.var 27) (.lit 33)) (.some 12) (.lit false)) (.lit false)) (.lit false))
       (.load 12 (.off (.var 27) 1 (.off (.var 26) 33 (.lit 0))) [(.int .u64)] [⟨[(.sl 6 (.lit 0) (.var 7) (.var 8)), (.int .i64 (.var 9))], 25⟩, ⟨[(.int .i64 (.var 14))], 3⟩, ⟨[(.int .i64 (.var 17))], 3⟩, ⟨[(.int .i64 (.var 23)), (.int .i64 (.var 24)), (.int .i64 (.var 25))], 87⟩]
       (.load 13 (.lit 0) [(.int .i64)] [⟨[(.sl 6 (.lit 0) (.var 7) (.var 8)), (.int .i64 (.var 9))], 25⟩, ⟨[(.int .i64 (.var 14))], 3⟩, ⟨[(.int .i64 (.var 17))], 3⟩, ⟨[(.int .i64 (.var 23)), (.int .i64 (.var 24)), (.int .i64 (.var 25))], 87⟩]
       (.load 16 (.lit 0) [(.int .i64)] [⟨[(.sl 6 (.lit 0) (.var 7) (.var 8)), (.int .i64 (.var 9))], 25⟩, ⟨[(.int .i64 (.var 14))], 3⟩, ⟨[(.int .i64 (.var 17))], 3⟩, ⟨[(.int .i64 (.var 23)), (.int .i64 (.var 24)), (.int .i64 (.var 25))], 87⟩]
       (.chk (.pick (.cmp .geq (.var 29) (.lit 0)) (.pick (.cmp .lss (.var 29) (.lit 33)) (.some 12) (.lit false)) (.lit false))
       (.chk (.pick (.cmp .geq (.off (.var 29) 33 (.lit 0)) (.lit 0)) (.pick (.cmp .geq (.var 30) (.lit 0)) (.pick (.cmp .lss (.var 30) (.lit 33)) (.some 12) (.lit false)) (.lit false)) (.lit false))
       (.load 12 (.off (.var 30) 1 (.off (.var 29) 33 (.lit 0))) [(.int .u64)] [⟨[(.sl 6 (.lit 0) (.var 7) (.var 8)), (.int .i64 (.var 9))], 25⟩, ⟨[(.int .i64 (.var 14))], 3⟩, ⟨[(.int .i64 (.var 17))], 3⟩, ⟨[(.int .i64 (.var 23)), (.int .i64 (.var 24)), (.int .i64 (.var 25))], 87⟩]
       (.chk (.pick (.cmp .geq (.var 23) (.lit 0)) (.pick (.cmp .lss (.var 23) (.lit 33)) (.some 12) (.lit false)) (.lit false))
       (.chk (.pick (.cmp .geq (.off (.var 23) 33 (.lit 0)) (.lit 0)) (.pick (.cmp .geq (.var 24) (.lit 0)) (.pick (.cmp .lss (.var 24) (.lit 33)) (.some 12) (.lit false)) (.lit false)) (.lit false))
       (.load 12 (.off (.var 24) 1 (.off (.var 23) 33 (.lit 0))) [(.int .u64)] [⟨[(.sl 6 (.lit 0) (.var 7) (.var 8)), (.int .i64 (.var 9))], 25⟩, ⟨[(.int .i64 (.var 14))], 3⟩, ⟨[(.int .i64 (.var 17))], 3⟩, ⟨[(.int .i64 (.var 23)), (.int .i64 (.var 24)), (.int .i64 (.var 25))], 87⟩]
       (.chk (.pick (.cmp .geq (.var 26) (.lit 0)) (.pick (.cmp .lss (.var 26) (.lit 33)) (.some 12) (.lit false)) (.lit false))
       (.chk (.pick (.cmp .geq (.off (.var 26) 33 (.lit 0)) (.lit 0)) (.pick (.cmp .geq (.var 27) (.lit 0)) (.pick (.cmp .lss (.var 27) (.lit 33)) (.some 12) (.lit false)) (.lit false)) (.lit false))
       (.store false 12 (.off (.var 27) 1 (.off (.var 26) 33 (.lit 0))) [(.int .u64 (.bin .add .u64 (.var 28) (.mn (.bin .sub .u64 (.lit 9223372036854775808) (.var 31)) (.var 32))))] [⟨[(.sl 6 (.lit 0) (.var 7) (.var 8)), (.int .i64 (.var 9))], 25⟩, ⟨[(.int .i64 (.var 14))], 3⟩, ⟨[(.int .i64 (.var 17))], 3⟩, ⟨[(.int .i64 (.var 23)), (.int .i64 (.var 24)), (.int .i64 (.var 25))], 87⟩]
       (.leave 0 3 [] [] [⟨[(.sl 6 (.lit 0) (.var 7) (.var 8)), (.int .i64 (.var 9))], 25⟩, ⟨[(.int .i64 (.var 14))], 3⟩, ⟨[(.int .i64 (.var 17))], 3⟩, ⟨[(.int .i64 (.var 23)), (.int .i64 (.var 24)), (.int .i64 (.var 25))], 87⟩]))))))))))))))))))
       (.load 16 (.lit 0) [(.int .i64)] [⟨[(.sl 6 (.lit 0) (.var 7) (.var 8)), (.int .i64 (.var 9))], 25⟩, ⟨[(.int .i64 (.var 14))], 3⟩, ⟨[(.int .i64 (.var 17))], 3⟩]
       (.alloc
       (.again 1 3 [.ptr, (.int .i64)] [(.loc 3 0), (.int .i64 (.var 17))] [⟨[(.sl 6 (.lit 0) (.var 7) (.var 8)), (.int .i64 (.var 9))], 25⟩, ⟨[(.int .i64 (.var 14))], 3⟩, ⟨[(.int .i64 (.var 17))], 3⟩, ⟨[(.int .i64 (.bin .sub .i64 (.var 24) (.lit 1)))], 3⟩])))))))))
      (.load 13 (.lit 0) [(.int .i64)] [⟨[(.sl 6 (.lit 0) (.var 7) (.var 8)), (.int .i64 (.var 9))], 25⟩, ⟨[(.int .i64 (.var 14))], 3⟩, ⟨[(.int .i64 (.var 17))], 3⟩]
      (.alloc
      (.again 0 2 [.ptr, (.int .i64)] [(.loc 3 0), (.int .i64 (.var 14))] [⟨[(.sl 6 (.lit 0) (.var 7) (.var 8)), (.int .i64 (.var 9))], 25⟩, ⟨[(.int .i64 (.var 14))], 3⟩, ⟨[(.int .i64 (.var 17))], 3⟩, ⟨[(.int .i64 (.bin .sub .i64 (.var 19) (.lit 1)))], 3⟩]))))))))
    (.chk (.some 12)
    (.chk (.some 12)
    (.load 12 (.lit 0) [(.int .u64)] [⟨[(.sl 6 (.lit 0) (.var 7) (.var 8)), (.int .i64 (.var 9))], 25⟩, ⟨[(.int .i64 (.var 14))], 3⟩]
    (.ite (.cmp .eql (.var 16) (.lit 9223372036854775808))
     (.ret (.tup [(.int .i64 (.lit 0)), (.int .i64 (.lit 7))]) [⟨[(.sl 6 (.lit 0) (.var 7) (.var 8)), (.int .i64 (.var 9))], 25⟩, ⟨[(.int .i64 (.var 14))], 3⟩])
     (.chk (.some 12)
     (.chk (.some 12)
     (.load 12 (.lit 0) [(.int .u64)] [⟨[(.sl 6 (.lit 0) (.var 7) (.var 8)), (.int .i64 (.var 9))], 25⟩, ⟨[(.int .i64 (.var 14))], 3⟩]
     (.ret (.tup [(.int .i64 (.conv .i64 (.var 17))), (.int .i64 (.lit 0))]) [⟨[(.sl 6 (.lit 0) (.var 7) (.var 8)), (.int .i64 (.var 9))], 25⟩, ⟨[(.int .i64 (.var 14))], 3⟩])))))))))))))))))
theorem S_edit_Ways : FnIs Tryd.prog n_edit_Ways [.sl, .sl, (.agg [.sl, (.int .i64)])] T_edit_Ways := ⟨Tryd.f19, [{ key := 200011, tmps := [(45, .bool)], join := true, dead := 149453454422801740858376216 }, { key := 12, tmps := [], join := true }], 4000, Tryd.func19, by kernel_rfl⟩
/-! 21 ablaut/edit.Ratio  -/
abbrev n_edit_Ratio : FuncId := 21
def T_edit_Ratio : Tree :=
 (.alloc
 (.alloc
 (.call false 15 [(.sl 0 (.lit 0) (.var 1) (.var 2)), (.sl 3 (.lit 0) (.var 4) (.var 5)), (.agg [(.sl 6 (.lit 0) (.var 7) (.var 8)), (.int .i64 (.var 9))])] (.tup [(.int .i64), (.int .i64)]) [⟨[(.sl 6 (.lit 0) (.var 7) (.var 8)), (.int .i64 (.var 9))], 25⟩, ⟨[(.int .i64 (.lit 0)), (.int .i64 (.lit 0))], 37⟩]
 (.ite (.cmp .neq (.var 11) (.lit 0))
  (.ret (.tup [(.agg [(.int .i64 (.lit 0)), (.int .i64 (.lit 0))]), (.int .i64 (.var 11))]) [⟨[(.sl 6 (.lit 0) (.var 7) (.var 8)), (.int .i64 (.var 9))], 25⟩, ⟨[(.int .i64 (.lit 0)), (.int .i64 (.lit 0))], 37⟩])
  (.chk (.cmp .geq (.var 1) (.lit 0))
  (.chk (.cmp .geq (.var 4) (.lit 0))
  (.ite (.cmp .eql (.bin .mul .i64 (.var 9) (.bin .add .i64 (.var 1) (.var 4))) (.lit 0))
   (.ret (.tup [(.agg [(.int .i64 (.lit 0)), (.int .i64 (.lit 1))]), (.int .i64 (.lit 0))]) [⟨[(.sl 6 (.lit 0) (.var 7) (.var 8)), (.int .i64 (.var 9))], 25⟩, ⟨[(.int .i64 (.lit 0)), (.int .i64 (.lit 1))], 37⟩])
   (.loop 0 [(.int .i64), (.int .i64)] [(.int .i64 (.var 10)), (.int .i64 (.bin .mul .i64 (.var 9) (.bin .add .i64 (.var 1) (.var 4))))] [⟨[(.sl 6 (.lit 0) (.var 7) (.var 8)), (.int .i64 (.var 9))], 25⟩, ⟨[(.int .i64 (.lit 0)), (.int .i64 (.lit 0))], 37⟩] [⟨[(.sl 6 (.lit 0) (.var 7) (.var 8)), (.int .i64 (.var 9))], 25⟩, ⟨[(.int .i64 (.lit 0)), (.int .i64 (.lit 0))], 37⟩]
    (.ite (.cmp .neq (.var 13) (.lit 0))
     (.chk (.cmp .neq (.var 13) (.lit 0))
     (.again 0 2 [(.int .i64), (.int .i64)] [(.int .i64 (.var 13)), (.int .i64 (.bin .rem .i64 (.var 12) (.var 13)))] [⟨[(.sl 6 (.lit 0) (.var 7) (.var 8)), (.int .i64 (.var 9))], 25⟩, ⟨[(.int .i64 (.lit 0)), (.int .i64 (.lit 0))], 37⟩]))
     (.chk (.cmp .neq (.var 12) (.lit 0))
     (.chk (.cmp .neq (.var 12) (.lit 0))
     (.ret (.tup [(.agg [(.int .i64 (.bin .quo .i64 (.var 10) (.var 12))), (.int .i64 (.bin .quo .i64 (.bin .mul .i64 (.var 9) (.bin .add .i64 (.var 1) (.var 4))) (.var 12)))]), (.int .i64 (.lit 0))]) [⟨[(.sl 6 (.lit 0) (.var 7) (.var 8)), (.int .i64 (.var 9))], 25⟩, ⟨[(.int .i64 (.bin .quo .i64 (.var 10) (.var 12))), (.int .i64 (.bin .quo .i64 (.bin .mul .i64 (.var 9) (.bin .add .i64 (.var 1) (.var 4))) (.var 12)))], 37⟩]))))))))))))
theorem S_edit_Ratio : FnIs Tryd.prog n_edit_Ratio [.sl, .sl, (.agg [.sl, (.int .i64)])] T_edit_Ratio := ⟨Tryd.f21, [], 4000, Tryd.func21, by kernel_rfl⟩
/-! 23 ablaut/ablautlaw17.same  -/
abbrev n_law17_same : FuncId := 23
def T_law17_same : Tree :=
 (.chk (.cmp .geq (.var 1) (.lit 0))
 (.chk (.cmp .geq (.var 4) (.lit 0))
 (.ite (.cmp .neq (.var 1) (.var 4))
  (.ret (.bool (.lit false)) [])
  (.loop 0 [.bool, (.int .i64)] [(.bool (.lit false)), (.int .i64 (.lit 0))] [] []
   (.chk (.cmp .geq (.var 1) (.lit 0))
   (.ite (.cmp .lss (.var 7) (.var 1))
    (.chk (.pick (.cmp .geq (.var 7) (.lit 0)) (.pick (.cmp .lss (.var 7) (.var 1)) (.some 0) (.lit false)) (.lit false))
    (.load 0 (.off (.var 7) 2 (.lit 0)) [(.int .i64), (.int .i64)] []
    (.chk (.pick (.cmp .geq (.var 7) (.lit 0)) (.pick (.cmp .lss (.var 7) (.var 4)) (.some 3) (.lit false)) (.lit false))
    (.load 3 (.off (.var 7) 2 (.lit 0)) [(.int .i64), (.int .i64)] []
    (.ite (.not (.pick (.cmp .eql (.var 8) (.var 10)) (.cmp .eql (.var 9) (.var 11)) (.lit false)))
     (.ret (.bool (.lit false)) [])
     (.again 0 0 [.bool, (.int .i64)] [(.bool (.var 6)), (.int .i64 (.bin .add .i64 (.var 7) (.lit 1)))] []))))))
    (.ret (.bool (.lit true)) [])))))))
theorem S_law17_same : FnIs Tryd.prog n_law17_same [.sl, .sl] T_law17_same := ⟨Tryd.f23, [], 4000, Tryd.func23, by kernel_rfl⟩
/-! 24 ablaut/ablautlaw17.equal  -/
abbrev n_law17_equal : FuncId := 24
def T_law17_equal : Tree :=
 (.chk (.cmp .geq (.var 1) (.lit 0))
 (.chk (.cmp .geq (.var 4) (.lit 0))
 (.ite (.cmp .neq (.var 1) (.var 4))
  (.ret (.bool (.lit false)) [])
  (.loop 0 [.bool, (.int .i64)] [(.bool (.lit false)), (.int .i64 (.lit 0))] [] []
   (.chk (.cmp .geq (.var 1) (.lit 0))
   (.ite (.cmp .lss (.var 7) (.var 1))
    (.chk (.pick (.cmp .geq (.var 7) (.lit 0)) (.pick (.cmp .lss (.var 7) (.var 1)) (.some 0) (.lit false)) (.lit false))
    (.load 0 (.off (.var 7) 2 (.lit 0)) [(.int .u32), (.int .u32)] []
    (.chk (.pick (.cmp .geq (.var 7) (.lit 0)) (.pick (.cmp .lss (.var 7) (.var 4)) (.some 3) (.lit false)) (.lit false))
    (.load 3 (.off (.var 7) 2 (.lit 0)) [(.int .u32), (.int .u32)] []
    (.ite (.not (.pick (.cmp .eql (.var 8) (.var 10)) (.cmp .eql (.var 9) (.var 11)) (.lit false)))
     (.ret (.bool (.lit false)) [])
     (.again 0 0 [.bool, (.int .i64)] [(.bool (.var 6)), (.int .i64 (.bin .add .i64 (.var 7) (.lit 1)))] []))))))
    (.ret (.bool (.lit true)) [])))))))
theorem S_law17_equal : FnIs Tryd.prog n_law17_equal [.sl, .sl] T_law17_equal := ⟨Tryd.f24, [], 4000, Tryd.func24, by kernel_rfl⟩
/-! 25 ablaut/edit.Score  -/
abbrev n_edit_Score : FuncId := 25
def T_edit_Score : Tree :=
 (.alloc
 (.alloc
 (.call false 48 [(.agg [(.sl 9 (.lit 0) (.var 10) (.var 11)), (.int .i64 (.var 12))]), (.slc 1 0 2 2)] (.int .i64) [⟨[(.sl 9 (.lit 0) (.var 10) (.var 11)), (.int .i64 (.var 12))], 25⟩, ⟨[(.sl 0 (.lit 0) (.var 1) (.var 2)), (.sl 3 (.lit 0) (.var 4) (.var 5))], 22⟩]
 (.ite (.cmp .neq (.var 13) (.lit 0))
  (.ret (.tup [(.int .i64 (.lit 0)), (.int .i64 (.var 13))]) [⟨[(.sl 9 (.lit 0) (.var 10) (.var 11)), (.int .i64 (.var 12))], 25⟩, ⟨[(.sl 0 (.lit 0) (.var 1) (.var 2)), (.sl 3 (.lit 0) (.var 4) (.var 5))], 22⟩])
  (.chk (.cmp .geq (.var 7) (.lit 0))
  (.loop 0 [(.int .i64), (.int .i64), (.int .i64), (.int .i64), (.int .i64), (.int .i64)] [(.int .i64 (.lit 0)), (.int .i64 (.lit 0)), (.int .i64 (.lit 0)), (.int .i64 (.lit 0)), (.int .i64 (.lit 0)), (.int .i64 (.lit 0))] [⟨[(.sl 9 (.lit 0) (.var 10) (.var 11)), (.int .i64 (.var 12))], 25⟩, ⟨[(.sl 0 (.lit 0) (.var 1) (.var 2)), (.sl 3 (.lit 0) (.var 4) (.var 5))], 22⟩] [⟨[(.sl 9 (.lit 0) (.var 10) (.var 11)), (.int .i64 (.var 12))], 25⟩, ⟨[(.sl 0 (.lit 0) (.var 1) (.var 2)), (.sl 3 (.lit 0) (.var 4) (.var 5))], 22⟩]
   (.ite (.cmp .lss (.var 19) (.var 7))
    (.chk (.pick (.cmp .geq (.var 19) (.lit 0)) (.pick (.cmp .lss (.var 19) (.var 7)) (.some 6) (.lit false)) (.lit false))
    (.load 6 (.off (.var 19) 2 (.lit 0)) [(.int .i64), (.int .i64)] [⟨[(.sl 9 (.lit 0) (.var 10) (.var 11)), (.int .i64 (.var 12))], 25⟩, ⟨[(.sl 0 (.lit 0) (.var 1) (.var 2)), (.sl 3 (.lit 0) (.var 4) (.var 5))], 22⟩]
    (.alloc
    (.chk (.cmp .geq (.var 1) (.lit 0))
    (.chk (.cmp .geq (.var 4) (.lit 0))
    (.ite (.pick (.pick (.cmp .lss (.var 16) (.var 1)) (.cmp .eql (.var 20) (.var 16)) (.lit false)) (.pick (.cmp .lss (.var 17) (.var 4)) (.cmp .eql (.var 21) (.var 17)) (.lit false)) (.lit false))
     (.chk (.pick (.cmp .geq (.var 16) (.lit 0)) (.pick (.cmp .lss (.var 16) (.var 1)) (.some 0) (.lit false)) (.lit false))
     (.load 0 (.off (.var 16) 2 (.lit 0)) [(.int .u32), (.int .u32)] [⟨[(.sl 9 (.lit 0) (.var 10) (.var 11)), (.int .i64 (.var 12))], 25⟩, ⟨[(.sl 0 (.lit 0) (.var 1) (.var 2)), (.sl 3 (.lit 0) (.var 4) (.var 5))], 22⟩, ⟨[(.int .i64 (.var 20)), (.int .i64 (.var 21))], 57⟩]
     (.chk (.pick (.cmp .geq (.var 17) (.lit 0)) (.pick (.cmp .lss (.var 17) (.var 4)) (.some 3) (.lit false)) (.lit false))
     (.load 3 (.off (.var 17) 2 (.lit 0)) [(.int .u32), (.int .u32)] [⟨[(.sl 9 (.lit 0) (.var 10) (.var 11)), (.int .i64 (.var 12))], 25⟩, ⟨[(.sl 0 (.lit 0) (.var 1) (.var 2)), (.sl 3 (.lit 0) (.var 4) (.var 5))], 22⟩, ⟨[(.int .i64 (.var 20)), (.int .i64 (.var 21))], 57⟩]
     (.call false 31 [(.agg [(.int .u32 (.var 22)), (.int .u32 (.var 23))]), (.agg [(.int .u32 (.var 24)), (.int .u32 (.var 25))]), (.agg [(.sl 9 (.lit 0) (.var 10) (.var 11)), (.int .i64 (.var 12))])] (.tup [(.int .i64), (.int .i64)]) [⟨[(.sl 9 (.lit 0) (.var 10) (.var 11)), (.int .i64 (.var 12))], 25⟩, ⟨[(.sl 0 (.lit 0) (.var 1) (.var 2)), (.sl 3 (.lit 0) (.var 4) (.var 5))], 22⟩, ⟨[(.int .i64 (.var 20)), (.int .i64 (.var 21))], 57⟩]
     (.again 0 2 [(.int .i64), (.int .i64), (.int .i64), (.int .i64), (.int .i64), (.int .i64)] [(.int .i64 (.var 14)), (.int .i64 (.var 15)), (.int .i64 (.bin .add .i64 (.var 16) (.lit 1))), (.int .i64 (.bin .add .i64 (.var 17) (.lit 1))), (.int .i64 (.bin .add .i64 (.var 18) (.var 26))), (.int .i64 (.bin .add .i64 (.var 19) (.lit 1)))] [⟨[(.sl 9 (.lit 0) (.var 10) (.var 11)), (.int .i64 (.var 12))], 25⟩, ⟨[(.sl 0 (.lit 0) (.var 1) (.var 2)), (.sl 3 (.lit 0) (.var 4) (.var 5))], 22⟩, ⟨[(.int .i64 (.var 20)), (.int .i64 (.var 21))], 57⟩]))))))
     (.ite (.pick (.pick (.cmp .lss (.var 16) (.var 1)) (.cmp .eql (.var 20) (.var 16)) (.lit false)) (.cmp .eql (.var 21) (.lit (-1))) (.lit false))
      (.again 0 2 [(.int .i64), (.int .i64), (.int .i64), (.int .i64), (.int .i64), (.int .i64)] [(.int .i64 (.var 14)), (.int .i64 (.var 15)), (.int .i64 (.bin .add .i64 (.var 16) (.lit 1))), (.int .i64 (.var 17)), (.int .i64 (.bin .add .i64 (.var 18) (.var 12))), (.int .i64 (.bin .add .i64 (.var 19) (.lit 1)))] [⟨[(.sl 9 (.lit 0) (.var 10) (.var 11)), (.int .i64 (.var 12))], 25⟩, ⟨[(.sl 0 (.lit 0) (.var 1) (.var 2)), (.sl 3 (.lit 0) (.var 4) (.var 5))], 22⟩, ⟨[(.int .i64 (.var 20)), (.int .i64 (.var 21))], 57⟩])
      (.ite (.pick (.pick (.cmp .lss (.var 17) (.var 4)) (.cmp .eql (.var 21) (.var 17)) (.lit false)) (.cmp .eql (.var 20) (.lit (-1))) (.lit false))
       (.again 0 2 [(.int .i64), (.int .i64), (.int .i64), (.int .i64), (.int .i64), (.int .i64)] [(.int .i64 (.var 14)), (.int .i64 (.var 15)), (.int .i64 (.var 16)), (.int .i64 (.bin .add .i64 (.var 17) (.lit 1))), (.int .i64 (.bin .add .i64 (.var 18) (.var 12))), (.int .i64 (.bin .add .i64 (.var 19) (.lit 1)))] [⟨[(.sl 9 (.lit 0) (.var 10) (.var 11)), (.int .i64 (.var 12))], 25⟩, ⟨[(.sl 0 (.lit 0) (.var 1) (.var 2)), (.sl 3 (.lit 0) (.var 4) (.var 5))], 22⟩, ⟨[(.int .i64 (.var 20)), (.int .i64 (.var 21))], 57⟩])
       (.ret (.tup [(.int .i64 (.lit 0)), (.int .i64 (.lit 8))]) [⟨[(.sl 9 (.lit 0) (.var 10) (.var 11)), (.int .i64 (.var 12))], 25⟩, ⟨[(.sl 0 (.lit 0) (.var 1) (.var 2)), (.sl 3 (.lit 0) (.var 4) (.var 5))], 22⟩, ⟨[(.int .i64 (.var 20)), (.int .i64 (.var 21))], 57⟩])))))))))
    (.chk (.cmp .geq (.var 1) (.lit 0))
    (.ite (.cmp .lss (.var 16) (.var 1))
     (.ret (.tup [(.int .i64 (.lit 0)), (.int .i64 (.lit 8))]) [⟨[(.sl 9 (.lit 0) (.var 10) (.var 11)), (.int .i64 (.var 12))], 25⟩, ⟨[(.sl 0 (.lit 0) (.var 1) (.var 2)), (.sl 3 (.lit 0) (.var 4) (.var 5))], 22⟩])
     (.chk (.cmp .geq (.var 4) (.lit 0))
     (.ite (.cmp .lss (.var 17) (.var 4))
      (.ret (.tup [(.int .i64 (.lit 0)), (.int .i64 (.lit 8))]) [⟨[(.sl 9 (.lit 0) (.var 10) (.var 11)), (.int .i64 (.var 12))], 25⟩, ⟨[(.sl 0 (.lit 0) (.var 1) (.var 2)), (.sl 3 (.lit 0) (.var 4) (.var 5))], 22⟩])
      (.ret (.tup [(.int .i64 (.var 18)), (.int .i64 (.lit 0))]) [⟨[(.sl 9 (.lit 0) (.var 10) (.var 11)), (.int .i64 (.var 12))], 25⟩, ⟨[(.sl 0 (.lit 0) (.var 1) (.var 2)), (.sl 3 (.lit 0) (.var 4) (.var 5))], 22⟩]))))))))))))
theorem S_edit_Score : FnIs Tryd.prog n_edit_Score [.sl, .sl, .sl, (.agg [.sl, (.int .i64)])] T_edit_Score := ⟨Tryd.f25, [], 4000, Tryd.func25, by kernel_rfl⟩
/-! 27 ablaut/edit.Longest  -/
abbrev n_edit_Longest : FuncId := 27
def T_edit_Longest : Tree :=
 (.alloc
 (.call false 48 [(.agg [(.cst (.slice none 0 0)), (.int .i64 (.lit 0))]), (.slc 0 0 2 2)] (.int .i64) [⟨[(.sl 0 (.lit 0) (.var 1) (.var 2)), (.sl 3 (.lit 0) (.var 4) (.var 5))], 22⟩]
 (.ite (.cmp .neq (.var 6) (.lit 0))
  (.ret (.tup [(.int .i64 (.lit 0)), (.int .i64 (.var 6))]) [⟨[(.sl 0 (.lit 0) (.var 1) (.var 2)), (.sl 3 (.lit 0) (.var 4) (.var 5))], 22⟩])
  (.allocb 96 none
  (.chk (.cmp .geq (.var 1) (.lit 0))
  (.loop 0 [(.int .i64)] [(.int .i64 (.bin .sub .i64 (.var 1) (.lit 1)))] [⟨[(.sl 0 (.lit 0) (.var 1) (.var 2)), (.sl 3 (.lit 0) (.var 4) (.var 5))], 22⟩] [⟨[(.sl 0 (.lit 0) (.var 1) (.var 2)), (.sl 3 (.lit 0) (.var 4) (.var 5))], 22⟩]
   (.ite (.cmp .geq (.var 8) (.lit 0))
    (.chk (.cmp .geq (.var 4) (.lit 0))
    (.loop 1 [(.int .i64)] [(.int .i64 (.bin .sub .i64 (.var 4) (.lit 1)))] [⟨[(.sl 0 (.lit 0) (.var 1) (.var 2)), (.sl 3 (.lit 0) (.var 4) (.var 5))], 22⟩] [⟨[(.sl 0 (.lit 0) (.var 1) (.var 2)), (.sl 3 (.lit 0) (.var 4) (.var 5))], 22⟩]
     (.ite (.cmp .geq (.var 9) (.lit 0))
      (.chk (.pick (.cmp .geq (.bin .add .i64 (.var 8) (.lit 1)) (.lit 0)) (.pick (.cmp .lss (.bin .add .i64 (.var 8) (.lit 1)) (.lit 33)) (.some 7) (.lit false)) (.lit false))
      (.chk (.pick (.cmp .geq (.off (.bin .add .i64 (.var 8) (.lit 1)) 33 (.lit 0)) (.lit 0)) (.pick (.cmp .geq (.var 9) (.lit 0)) (.pick (.cmp .lss (.var 9) (.lit 33)) (.some 7) (.lit false)) (.lit false)) (.lit false))
      (.load 7 (.off (.var 9) 1 (.off (.bin .add .i64 (.var 8) (.lit 1)) 33 (.lit 0))) [(.int .i64)] [⟨[(.sl 0 (.lit 0) (.var 1) (.var 2)), (.sl 3 (.lit 0) (.var 4) (.var 5))], 22⟩]
      (.chk (.pick (.cmp .geq (.var 8) (.lit 0)) (.pick (.cmp .lss (.var 8) (.lit 33)) (.some 7) (.lit false)) (.lit false))
      (.chk (.pick (.cmp .geq (.off (.var 8) 33 (.lit 0)) (.lit 0)) (.pick (.cmp .geq (.bin .add .i64 (.var 9) (.lit 1)) (.lit 0)) (.pick (.cmp .lss (.bin .add .i64 (.var 9) (.lit 1)) (.lit 33)) (.some 7) (.lit false)) (.lit false)) (.lit false))
      (.load 7 (.off (.bin .add .i64 (.var 9) (.lit 1)) 1 (.off (.var 8) 33 (.lit 0))) [(.int .i64)] [⟨[(.sl 0 (.lit 0) (.var 1) (.var 2)), (.sl 3 (.lit 0) (.var 4) (.var 5))], 22⟩]
      (.chk (.pick (.cmp .geq (.var 8) (.lit 0)) (.pick (.cmp .lss (.var 8) (.lit 33)) (.some 7) (.lit false)) (.lit false))
      (.chk (.pick (.cmp .geq (.off (.var 8) 33 (.lit 0)) (.lit 0)) (.pick (.cmp .geq (.var 9) (.lit 0)) (.pick (.cmp .lss (.var 9) (.lit 33)) (.some 7) (.lit false)) (.lit false)) (.lit false))
      (.store false 7 (.off (.var 9) 1 (.off (.var 8) 33 (.lit 0))) [(.int .i64 (.mx (.var 10) (.var 11)))] [⟨[(.sl 0 (.lit 0) (.var 1) (.var 2)), (.sl 3 (.lit 0) (.var 4) (.var 5))], 22⟩]
      (.chk (.pick (.cmp .geq (.var 8) (.lit 0)) (.pick (.cmp .lss (.var 8) (.var 1)) (.some 0) (.lit false)) (.lit false))
      (.load 0 (.off (.var 8) 2 (.lit 0)) [(.int .u32), (.int .u32)] [⟨[(.sl 0 (.lit 0) (.var 1) (.var 2)), (.sl 3 (.lit 0) (.var 4) (.var 5))], 22⟩]
      (.chk (.pick (.cmp .geq (.var 9) (.lit 0)) (.pick (.cmp .lss (.var 9) (.var 4)) (.some 3) (.lit false)) (.lit false))
      (.load 3 (.off (.var 9) 2 (.lit 0)) [(.int .u32), (.int .u32)] [⟨[(.sl 0 (.lit 0) (.var 1) (.var 2)), (.sl 3 (.lit 0) (.var 4) (.var 5))], 22⟩]
      (.ite (.pick (.cmp .eql (.var 12) (.var 14)) (.cmp .eql (.var 13) (.var 15)) (.lit false))
       (.chk (.pick (.cmp .geq (.bin .add .i64 (.var 8) (.lit 1)) (.lit 0)) (.pick (.cmp .lss (.bin .add .i64 (.var 8) (.lit 1)) (.lit 33)) (.some 7) (.lit false)) (.lit false))
       (.chk (.pick (.cmp .geq (.off (.bin .add .i64 (.var 8) (.lit 1)) 33 (.lit 0)) (.lit 0)) (.pick (.cmp .geq (.bin .add .i64 (.var 9) (.lit 1)) (.lit 0)) (.pick (.cmp .lss (.bin .add .i64 (.var 9) (.lit 1)) (.lit 33)) (.some 7) (.lit false)) (.lit false)) (.lit false))
       (.load 7 (.off (.bin .add .i64 (.var 9) (.lit 1)) 1 (.off (.bin .add .i64 (.var 8) (.lit 1)) 33 (.lit 0))) [(.int .i64)] [⟨[(.sl 0 (.lit 0) (.var 1) (.var 2)), (.sl 3 (.lit 0) (.var 4) (.var 5))], 22⟩]
       (.chk (.pick (.cmp .geq (.var 8) (.lit 0)) (.pick (.cmp .lss (.var 8) (.lit 33)) (.some 7) (.lit false)) (.lit false))
       (.chk (.pick (.cmp .geq (.off (.var 8) 33 (.lit 0)) (.lit 0)) (.pick (.cmp .geq (.var 9) (.lit 0)) (.pick (.cmp .lss (.var 9) (.lit 33)) (.some 7) (.lit false)) (.lit false)) (.lit false))
       (.store false 7 (.off (.var 9) 1 (.off (.var 8) 33 (.lit 0))) [(.int .i64 (.bin .add .i64 (.lit 1) (.var 16)))] [⟨[(.sl 0 (.lit 0) (.var 1) (.var 2)), (.sl 3 (.lit 0) (.var 4) (.var 5))], 22⟩]
       (.again 1 1 [(.int .i64)] [(.int .i64 (.bin .sub .i64 (.var 9) (.lit 1)))] [⟨[(.sl 0 (.lit 0) (.var 1) (.var 2)), (.sl 3 (.lit 0) (.var 4) (.var 5))], 22⟩])))))))
       (.again 1 1 [(.int .i64)] [(.int .i64 (.bin .sub .i64 (.var 9) (.lit 1)))] [⟨[(.sl 0 (.lit 0) (.var 1) (.var 2)), (.sl 3 (.lit 0) (.var 4) (.var 5))], 22⟩])))))))))))))))
      (.again 0 1 [(.int .i64)] [(.int .i64 (.bin .sub .i64 (.var 8) (.lit 1)))] [⟨[(.sl 0 (.lit 0) (.var 1) (.var 2)), (.sl 3 (.lit 0) (.var 4) (.var 5))], 22⟩]))))
    (.chk (.some 7)
    (.chk (.some 7)
    (.load 7 (.lit 0) [(.int .i64)] [⟨[(.sl 0 (.lit 0) (.var 1) (.var 2)), (.sl 3 (.lit 0) (.var 4) (.var 5))], 22⟩]
    (.ret (.tup [(.int .i64 (.var 9)), (.int .i64 (.lit 0))]) [⟨[(.sl 0 (.lit 0) (.var 1) (.var 2)), (.sl 3 (.lit 0) (.var 4) (.var 5))], 22⟩])))))))))))
theorem S_edit_Longest : FnIs Tryd.prog n_edit_Longest [.sl, .sl] T_edit_Longest := ⟨Tryd.f27, [], 4000, Tryd.func27, by kernel_rfl⟩
/-! 29 ablaut/ablautlaw17.Made  -/
abbrev n_law17_Made : FuncId := 29
def T_law17_Made : Tree :=
 (.loop 0 [.sl, (.int .i64)] [(.cst (.slice none 0 0)), (.int .i64 (.lit 0))] [] []
  (.chk (.cmp .geq (.var 1) (.lit 0))
  (.ite (.pick (.cmp .lss (.var 6) (.var 1)) (.cmp .lss (.var 6) (.lit 10)) (.lit false))
   (.chk (.pick (.cmp .geq (.var 6) (.lit 0)) (.pick (.cmp .lss (.var 6) (.var 1)) (.some 0) (.lit false)) (.lit false))
   (.chk (.pick (.cmp .geq (.off (.var 6) 2 (.lit 0)) (.lit 0)) (.some 0) (.lit false))
   (.load 0 (.off (.var 6) 2 (.lit 0)) [(.int .u8)] []
   (.chk (.pick (.cmp .geq (.var 6) (.lit 0)) (.pick (.cmp .lss (.var 6) (.var 1)) (.some 0) (.lit false)) (.lit false))
   (.chk (.pick (.cmp .geq (.off (.var 6) 2 (.lit 0)) (.lit 0)) (.some 0) (.lit false))
   (.load 0 (.off (.lit 1) 1 (.off (.var 6) 2 (.lit 0))) [(.int .u8)] []
   (.call false 32 [(.int .u32 (.conv .u32 (.var 7))), (.int .u32 (.conv .u32 (.var 8)))] (.agg [(.int .u32), (.int .u32)]) []
   (.alloc
   (.ext false ⟨(.call ⟨.builtin .append, #[(.tmp 0), (.tmp 0)], #[22, 22]⟩), 22, [(.sl 3 (.lit 0) (.var 4) (.var 5)), (.slc 0 0 1 1)]⟩ .sl [⟨[(.int .u32 (.var 9)), (.int .u32 (.var 10))], 56⟩]
   (.again 0 0 [.sl, (.int .i64)] [(.sl 11 (.lit 0) (.var 12) (.var 13)), (.int .i64 (.bin .add .i64 (.var 6) (.lit 1)))] [⟨[(.int .u32 (.var 9)), (.int .u32 (.var 10))], 56⟩]))))))))))
   (.ret (.sl 3 (.lit 0) (.var 4) (.var 5)) []))))
theorem S_law17_Made : FnIs Tryd.prog n_law17_Made [.sl] T_law17_Made := ⟨Tryd.f29, [], 4000, Tryd.func29, by kernel_rfl⟩
/-! 30 ablaut/ablautlaw17.Costs  -/
abbrev n_law17_Costs : FuncId := 30
def T_law17_Costs : Tree :=
 (.alloc
 (.alloc
 (.loop 0 [(.int .i64), .sl, (.int .i64)] [(.int .i64 (.lit 0)), (.cst (.slice none 0 0)), (.int .i64 (.bin .rem .i64 (.conv .i64 (.var 3)) (.lit 1000)))] [⟨[(.cst (.slice none 0 0)), (.int .i64 (.lit 0))], 25⟩, ⟨[(.cst (.slice none 0 0)), (.int .i64 (.bin .rem .i64 (.conv .i64 (.var 3)) (.lit 1000)))], 25⟩] [⟨[(.cst (.slice none 0 0)), (.int .i64 (.lit 0))], 25⟩, ⟨[(.sl 5 (.lit 0) (.var 6) (.var 7)), (.int .i64 (.var 8))], 25⟩]
  (.chk (.cmp .geq (.var 1) (.lit 0))
  (.ite (.pick (.cmp .lss (.var 4) (.var 1)) (.cmp .lss (.var 4) (.lit 24)) (.lit false))
   (.chk (.pick (.cmp .geq (.var 4) (.lit 0)) (.pick (.cmp .lss (.var 4) (.var 1)) (.some 0) (.lit false)) (.lit false))
   (.load 0 (.off (.var 4) 1 (.lit 0)) [(.int .u16)] [⟨[(.cst (.slice none 0 0)), (.int .i64 (.lit 0))], 25⟩, ⟨[(.sl 5 (.lit 0) (.var 6) (.var 7)), (.int .i64 (.var 8))], 25⟩]
   (.alloc
   (.ext false ⟨(.call ⟨.builtin .append, #[(.tmp 0), (.tmp 0)], #[23, 23]⟩), 23, [(.sl 5 (.lit 0) (.var 6) (.var 7)), (.slc 2 0 1 1)]⟩ .sl [⟨[(.cst (.slice none 0 0)), (.int .i64 (.lit 0))], 25⟩, ⟨[(.sl 5 (.lit 0) (.var 6) (.var 7)), (.int .i64 (.var 8))], 25⟩, ⟨[(.int .i64 (.bin .rem .i64 (.conv .i64 (.var 9)) (.lit 1000)))], 2⟩]
   (.again 0 2 [(.int .i64), .sl, (.int .i64)] [(.int .i64 (.bin .add .i64 (.var 4) (.lit 1))), (.sl 10 (.lit 0) (.var 11) (.var 12)), (.int .i64 (.var 8))] [⟨[(.cst (.slice none 0 0)), (.int .i64 (.lit 0))], 25⟩, ⟨[(.sl 10 (.lit 0) (.var 11) (.var 12)), (.int .i64 (.var 8))], 25⟩, ⟨[(.int .i64 (.bin .rem .i64 (.conv .i64 (.var 9)) (.lit 1000)))], 2⟩])))))
   (.ret (.agg [(.sl 5 (.lit 0) (.var 6) (.var 7)), (.int .i64 (.var 8))]) [⟨[(.sl 5 (.lit 0) (.var 6) (.var 7)), (.int .i64 (.var 8))], 25⟩, ⟨[(.sl 5 (.lit 0) (.var 6) (.var 7)), (.int .i64 (.var 8))], 25⟩]))))))
theorem S_law17_Costs : FnIs Tryd.prog n_law17_Costs [.sl, (.int .u16)] T_law17_Costs := ⟨Tryd.f30, [], 4000, Tryd.func30, by kernel_rfl⟩
/-! 33 ablaut/edit.Matrix  -/
abbrev n_edit_Matrix : FuncId := 33
def T_edit_Matrix : Tree :=
 (.alloc
 (.call false 48 [(.agg [(.sl 3 (.lit 0) (.var 4) (.var 5)), (.int .i64 (.var 6))]), (.cst (.slice none 0 0))] (.int .i64) [⟨[(.sl 3 (.lit 0) (.var 4) (.var 5)), (.int .i64 (.var 6))], 25⟩]
 (.ite (.cmp .neq (.var 7) (.lit 0))
  (.ret (.tup [(.cst (.slice none 0 0)), (.int .i64 (.var 7))]) [⟨[(.sl 3 (.lit 0) (.var 4) (.var 5)), (.int .i64 (.var 6))], 25⟩])
  (.chk (.cmp .geq (.var 1) (.lit 0))
  (.ite (.cmp .gtr (.var 1) (.lit 64))
   (.ret (.tup [(.cst (.slice none 0 0)), (.int .i64 (.lit 12))]) [⟨[(.sl 3 (.lit 0) (.var 4) (.var 5)), (.int .i64 (.var 6))], 25⟩])
   (.call false 48 [(.agg [(.sl 3 (.lit 0) (.var 4) (.var 5)), (.int .i64 (.var 6))]), (.sl 0 (.lit 0) (.var 1) (.var 2))] (.int .i64) [⟨[(.sl 3 (.lit 0) (.var 4) (.var 5)), (.int .i64 (.var 6))], 25⟩]
   (.ite (.cmp .neq (.var 8) (.lit 0))
    (.ret (.tup [(.cst (.slice none 0 0)), (.int .i64 (.var 8))]) [⟨[(.sl 3 (.lit 0) (.var 4) (.var 5)), (.int .i64 (.var 6))], 25⟩])
    (.chk (.cmp .geq (.var 1) (.lit 0))
    (.chk (.cmp .geq (.var 1) (.lit 0))
    (.ext false ⟨(.makeSlice 23 (.tmp 0) (.tmp 0)), 23, [(.int .i64 (.bin .mul .i64 (.var 1) (.var 1))), (.int .i64 (.bin .mul .i64 (.var 1) (.var 1)))]⟩ .sl [⟨[(.sl 3 (.lit 0) (.var 4) (.var 5)), (.int .i64 (.var 6))], 25⟩]
    (.chk (.cmp .geq (.var 1) (.lit 0))
    (.loop 0 [(.int .i64)] [(.int .i64 (.lit 0))] [⟨[(.sl 3 (.lit 0) (.var 4) (.var 5)), (.int .i64 (.var 6))], 25⟩] [⟨[(.sl 3 (.lit 0) (.var 4) (.var 5)), (.int .i64 (.var 6))], 25⟩]
     (.ite (.cmp .lss (.var 12) (.var 1))
      (.chk (.pick (.cmp .geq (.var 12) (.lit 0)) (.pick (.cmp .lss (.var 12) (.var 1)) (.some 0) (.lit false)) (.lit false))
      (.load 0 (.off (.var 12) 1 (.lit 0)) [.sl] [⟨[(.sl 3 (.lit 0) (.var 4) (.var 5)), (.int .i64 (.var 6))], 25⟩]
      (.chk (.pick (.cmp .leq (.lit 0) (.var 12)) (.cmp .leq (.var 12) (.var 2)) (.lit false))
      (.chk (.cmp .geq (.var 12) (.lit 0))
      (.loop 1 [(.int .i64)] [(.int .i64 (.lit 0))] [⟨[(.sl 3 (.lit 0) (.var 4) (.var 5)), (.int .i64 (.var 6))], 25⟩] [⟨[(.sl 3 (.lit 0) (.var 4) (.var 5)), (.int .i64 (.var 6))], 25⟩]
       (.ite (.cmp .lss (.var 16) (.var 12))
        (.chk (.pick (.cmp .geq (.ifeq (.var 2) (.lit 0) (.lit 0) (.lit 0)) (.lit 0)) (.pick (.cmp .geq (.var 16) (.lit 0)) (.pick (.cmp .lss (.var 16) (.var 12)) (.some 0) (.lit false)) (.lit false)) (.lit false))
        (.load 0 (.off (.var 16) 1 (.ifeq (.var 2) (.lit 0) (.lit 0) (.lit 0))) [.sl] [⟨[(.sl 3 (.lit 0) (.var 4) (.var 5)), (.int .i64 (.var 6))], 25⟩]
        (.call false 15 [(.sl 13 (.lit 0) (.var 14) (.var 15)), (.sl 17 (.lit 0) (.var 18) (.var 19)), (.agg [(.sl 3 (.lit 0) (.var 4) (.var 5)), (.int .i64 (.var 6))])] (.tup [(.int .i64), (.int .i64)]) [⟨[(.sl 3 (.lit 0) (.var 4) (.var 5)), (.int .i64 (.var 6))], 25⟩]
        (.chk (.cmp .geq (.var 1) (.lit 0))
        (.chk (.cmp .geq (.var 1) (.lit 0))
        (.chk (.pick (.cmp .geq (.bin .add .i64 (.bin .mul .i64 (.var 12) (.var 1)) (.var 16)) (.lit 0)) (.pick (.cmp .lss (.bin .add .i64 (.bin .mul .i64 (.var 12) (.var 1)) (.var 16)) (.var 10)) (.some 9) (.lit false)) (.lit false))
        (.store false 9 (.off (.bin .add .i64 (.bin .mul .i64 (.var 12) (.var 1)) (.var 16)) 1 (.lit 0)) [(.int .i64 (.var 20))] [⟨[(.sl 3 (.lit 0) (.var 4) (.var 5)), (.int .i64 (.var 6))], 25⟩]
        (.chk (.pick (.cmp .geq (.bin .add .i64 (.bin .mul .i64 (.var 16) (.var 1)) (.var 12)) (.lit 0)) (.pick (.cmp .lss (.bin .add .i64 (.bin .mul .i64 (.var 16) (.var 1)) (.var 12)) (.var 10)) (.some 9) (.lit false)) (.lit false))
        (.store false 9 (.off (.bin .add .i64 (.bin .mul .i64 (.var 16) (.var 1)) (.var 12)) 1 (.lit 0)) [(.int .i64 (.var 20))] [⟨[(.sl 3 (.lit 0) (.var 4) (.var 5)), (.int .i64 (.var 6))], 25⟩]
        (.again 1 1 [(.int .i64)] [(.int .i64 (.bin .add .i64 (.var 16) (.lit 1)))] [⟨[(.sl 3 (.lit 0) (.var 4) (.var 5)), (.int .i64 (.var 6))], 25⟩]))))))))))
        (.again 0 1 [(.int .i64)] [(.int .i64 (.bin .add .i64 (.var 12) (.lit 1)))] [⟨[(.sl 3 (.lit 0) (.var 4) (.var 5)), (.int .i64 (.var 6))], 25⟩])))))))
      (.ret (.tup [(.sl 9 (.lit 0) (.var 10) (.var 11)), (.int .i64 (.lit 0))]) [⟨[(.sl 3 (.lit 0) (.var 4) (.var 5)), (.int .i64 (.var 6))], 25⟩]))))))))))))))
theorem S_edit_Matrix : FnIs Tryd.prog n_edit_Matrix [.sl, (.agg [.sl, (.int .i64)])] T_edit_Matrix := ⟨Tryd.f33, [], 4000, Tryd.func33, by kernel_rfl⟩
/-! 35 ablaut/edit.Near  -/
abbrev n_edit_Near : FuncId := 35
def T_edit_Near : Tree :=
 (.alloc
 (.alloc
 (.call false 48 [(.agg [(.sl 6 (.lit 0) (.var 7) (.var 8)), (.int .i64 (.var 9))]), (.slc 1 0 1 1)] (.int .i64) [⟨[(.sl 6 (.lit 0) (.var 7) (.var 8)), (.int .i64 (.var 9))], 25⟩, ⟨[(.sl 0 (.lit 0) (.var 1) (.var 2))], 22⟩]
 (.ite (.cmp .neq (.var 10) (.lit 0))
  (.ret (.tup [(.int .i64 (.lit 0)), (.int .i64 (.lit 0)), (.int .i64 (.var 10))]) [⟨[(.sl 6 (.lit 0) (.var 7) (.var 8)), (.int .i64 (.var 9))], 25⟩, ⟨[(.sl 0 (.lit 0) (.var 1) (.var 2))], 22⟩])
  (.chk (.cmp .geq (.var 4) (.lit 0))
  (.ite (.cmp .gtr (.var 4) (.lit 256))
   (.ret (.tup [(.int .i64 (.lit 0)), (.int .i64 (.lit 0)), (.int .i64 (.lit 12))]) [⟨[(.sl 6 (.lit 0) (.var 7) (.var 8)), (.int .i64 (.var 9))], 25⟩, ⟨[(.sl 0 (.lit 0) (.var 1) (.var 2))], 22⟩])
   (.call false 48 [(.agg [(.sl 6 (.lit 0) (.var 7) (.var 8)), (.int .i64 (.var 9))]), (.sl 3 (.lit 0) (.var 4) (.var 5))] (.int .i64) [⟨[(.sl 6 (.lit 0) (.var 7) (.var 8)), (.int .i64 (.var 9))], 25⟩, ⟨[(.sl 0 (.lit 0) (.var 1) (.var 2))], 22⟩]
   (.ite (.cmp .neq (.var 11) (.lit 0))
    (.ret (.tup [(.int .i64 (.lit 0)), (.int .i64 (.lit 0)), (.int .i64 (.var 11))]) [⟨[(.sl 6 (.lit 0) (.var 7) (.var 8)), (.int .i64 (.var 9))], 25⟩, ⟨[(.sl 0 (.lit 0) (.var 1) (.var 2))], 22⟩])
    (.chk (.cmp .geq (.var 4) (.lit 0))
    (.ite (.cmp .eql (.var 4) (.lit 0))
     (.ret (.tup [(.int .i64 (.lit 0)), (.int .i64 (.lit 0)), (.int .i64 (.lit 5))]) [⟨[(.sl 6 (.lit 0) (.var 7) (.var 8)), (.int .i64 (.var 9))], 25⟩, ⟨[(.sl 0 (.lit 0) (.var 1) (.var 2))], 22⟩])
     (.chk (.cmp .geq (.var 4) (.lit 0))
     (.loop 0 [(.int .i64), (.int .i64), (.int .i64)] [(.int .i64 (.lit 0)), (.int .i64 (.lit 0)), (.int .i64 (.lit 0))] [⟨[(.sl 6 (.lit 0) (.var 7) (.var 8)), (.int .i64 (.var 9))], 25⟩, ⟨[(.sl 0 (.lit 0) (.var 1) (.var 2))], 22⟩] [⟨[(.sl 6 (.lit 0) (.var 7) (.var 8)), (.int .i64 (.var 9))], 25⟩, ⟨[(.sl 0 (.lit 0) (.var 1) (.var 2))], 22⟩]
      (.ite (.cmp .lss (.var 14) (.var 4))
       (.chk (.pick (.cmp .geq (.var 14) (.lit 0)) (.pick (.cmp .lss (.var 14) (.var 4)) (.some 3) (.lit false)) (.lit false))
       (.load 3 (.off (.var 14) 1 (.lit 0)) [.sl] [⟨[(.sl 6 (.lit 0) (.var 7) (.var 8)), (.int .i64 (.var 9))], 25⟩, ⟨[(.sl 0 (.lit 0) (.var 1) (.var 2))], 22⟩]
       (.call false 15 [(.sl 0 (.lit 0) (.var 1) (.var 2)), (.sl 15 (.lit 0) (.var 16) (.var 17)), (.agg [(.sl 6 (.lit 0) (.var 7) (.var 8)), (.int .i64 (.var 9))])] (.tup [(.int .i64), (.int .i64)]) [⟨[(.sl 6 (.lit 0) (.var 7) (.var 8)), (.int .i64 (.var 9))], 25⟩, ⟨[(.sl 0 (.lit 0) (.var 1) (.var 2))], 22⟩]
       (.ite (.pick (.cmp .eql (.var 14) (.lit 0)) (.lit true) (.cmp .lss (.var 18) (.var 13)))
        (.again 0 2 [(.int .i64), (.int .i64), (.int .i64)] [(.int .i64 (.var 14)), (.int .i64 (.var 18)), (.int .i64 (.bin .add .i64 (.var 14) (.lit 1)))] [⟨[(.sl 6 (.lit 0) (.var 7) (.var 8)), (.int .i64 (.var 9))], 25⟩, ⟨[(.sl 0 (.lit 0) (.var 1) (.var 2))], 22⟩])
        (.again 0 2 [(.int .i64), (.int .i64), (.int .i64)] [(.int .i64 (.var 12)), (.int .i64 (.var 13)), (.int .i64 (.bin .add .i64 (.var 14) (.lit 1)))] [⟨[(.sl 6 (.lit 0) (.var 7) (.var 8)), (.int .i64 (.var 9))], 25⟩, ⟨[(.sl 0 (.lit 0) (.var 1) (.var 2))], 22⟩])))))
       (.ret (.tup [(.int .i64 (.var 12)), (.int .i64 (.var 13)), (.int .i64 (.lit 0))]) [⟨[(.sl 6 (.lit 0) (.var 7) (.var 8)), (.int .i64 (.var 9))], 25⟩, ⟨[(.sl 0 (.lit 0) (.var 1) (.var 2))], 22⟩]))))))))))))))
theorem S_edit_Near : FnIs Tryd.prog n_edit_Near [.sl, .sl, (.agg [.sl, (.int .i64)])] T_edit_Near := ⟨Tryd.f35, [], 4000, Tryd.func35, by kernel_rfl⟩
/-! 37 ablaut/ablautlaw17.p  -/
abbrev n_law17_p : FuncId := 37
def T_law17_p : Tree :=
 (.alloc
 (.ret (.agg [(.int .u32 (.lit 2)), (.int .u32 (.lit 5))]) [⟨[(.int .u32 (.lit 2)), (.int .u32 (.lit 5))], 56⟩]))
theorem S_law17_p : FnIs Tryd.prog n_law17_p [] T_law17_p := ⟨Tryd.f37, [], 4000, Tryd.func37, by kernel_rfl⟩
/-! 38 ablaut/ablautlaw17.a  -/
abbrev n_law17_a : FuncId := 38
def T_law17_a : Tree :=
 (.alloc
 (.ret (.agg [(.int .u32 (.lit 5)), (.int .u32 (.lit 2))]) [⟨[(.int .u32 (.lit 5)), (.int .u32 (.lit 2))], 56⟩]))
theorem S_law17_a : FnIs Tryd.prog n_law17_a [] T_law17_a := ⟨Tryd.f38, [], 4000, Tryd.func38, by kernel_rfl⟩
/-! 39 ablaut/ablautlaw17.cost  -/
abbrev n_law17_cost : FuncId := 39
def T_law17_cost : Tree :=
 (.alloc
 (.alloc
 (.ret (.agg [(.slc 1 0 3 3), (.int .i64 (.lit 3))]) [⟨[(.slc 1 0 3 3), (.int .i64 (.lit 3))], 25⟩, ⟨[(.int .i64 (.lit 2)), (.int .i64 (.lit 3)), (.int .i64 (.lit 4))], 2⟩])))
theorem S_law17_cost : FnIs Tryd.prog n_law17_cost [] T_law17_cost := ⟨Tryd.f39, [], 4000, Tryd.func39, by kernel_rfl⟩
/-! 40 ablaut/ablautlaw17.b  -/
abbrev n_law17_b : FuncId := 40
def T_law17_b : Tree :=
 (.alloc
 (.ret (.agg [(.int .u32 (.lit 3)), (.int .u32 (.lit 4))]) [⟨[(.int .u32 (.lit 3)), (.int .u32 (.lit 4))], 56⟩]))
theorem S_law17_b : FnIs Tryd.prog n_law17_b [] T_law17_b := ⟨Tryd.f40, [], 4000, Tryd.func40, by kernel_rfl⟩
/-! 41 ablaut/edit.newTable  -/
abbrev n_edit_newTable : FuncId := 41
def T_edit_newTable : Tree :=
 (.alloc
 (.alloc
 (.call false 48 [(.agg [(.sl 6 (.lit 0) (.var 7) (.var 8)), (.int .i64 (.var 9))]), (.slc 1 0 2 2)] (.int .i64) [⟨[(.sl 6 (.lit 0) (.var 7) (.var 8)), (.int .i64 (.var 9))], 25⟩, ⟨[(.sl 0 (.lit 0) (.var 1) (.var 2)), (.sl 3 (.lit 0) (.var 4) (.var 5))], 22⟩]
 (.ite (.cmp .neq (.var 10) (.lit 0))
  (.ret (.tup [(.cst (.pointer none)), (.int .i64 (.var 10))]) [⟨[(.sl 6 (.lit 0) (.var 7) (.var 8)), (.int .i64 (.var 9))], 25⟩, ⟨[(.sl 0 (.lit 0) (.var 1) (.var 2)), (.sl 3 (.lit 0) (.var 4) (.var 5))], 22⟩])
  (.allocc 79 ([(.sl 0 (.lit 0) (.var 1) (.var 2)), (.sl 3 (.lit 0) (.var 4) (.var 5)), (.sl 6 (.lit 0) (.var 7) (.var 8)), (.int .i64 (.var 9))] ++ List.replicate 1089 (.int .i64 (.lit 0)))
  (.alloc
  (.chk (.cmp .geq (.var 1) (.lit 0))
  (.alloc
  (.loop 0 [.ptr, (.int .i64)] [(.loc 3 0), (.int .i64 (.var 1))] [⟨[(.sl 6 (.lit 0) (.var 7) (.var 8)), (.int .i64 (.var 9))], 25⟩, ⟨[(.sl 0 (.lit 0) (.var 1) (.var 2)), (.sl 3 (.lit 0) (.var 4) (.var 5))], 22⟩, ⟨[(.ptr 11 (.lit 0))], 73⟩, ⟨[(.int .i64 (.var 1))], 3⟩] [⟨[(.sl 6 (.lit 0) (.var 7) (.var 8)), (.int .i64 (.var 9))], 25⟩, ⟨[(.sl 0 (.lit 0) (.var 1) (.var 2)), (.sl 3 (.lit 0) (.var 4) (.var 5))], 22⟩, ⟨[(.ptr 11 (.lit 0))], 73⟩, ⟨[(.int .i64 (.var 13))], 3⟩]
   (.load 12 (.lit 0) [(.int .i64)] [⟨[(.sl 6 (.lit 0) (.var 7) (.var 8)), (.int .i64 (.var 9))], 25⟩, ⟨[(.sl 0 (.lit 0) (.var 1) (.var 2)), (.sl 3 (.lit 0) (.var 4) (.var 5))], 22⟩, ⟨[(.ptr 11 (.lit 0))], 73⟩, ⟨[(.int .i64 (.var 13))], 3⟩]
   (.ite (.cmp .geq (.var 14) (.lit 0))
    (.chk (.cmp .geq (.var 4) (.lit 0))
    (.alloc
    (.loop 1 [.ptr, (.int .i64)] [(.loc 4 0), (.int .i64 (.var 4))] [⟨[(.sl 6 (.lit 0) (.var 7) (.var 8)), (.int .i64 (.var 9))], 25⟩, ⟨[(.sl 0 (.lit 0) (.var 1) (.var 2)), (.sl 3 (.lit 0) (.var 4) (.var 5))], 22⟩, ⟨[(.ptr 11 (.lit 0))], 73⟩, ⟨[(.int .i64 (.var 13))], 3⟩, ⟨[(.int .i64 (.var 4))], 3⟩] [⟨[(.sl 6 (.lit 0) (.var 7) (.var 8)), (.int .i64 (.var 9))], 25⟩, ⟨[(.sl 0 (.lit 0) (.var 1) (.var 2)), (.sl 3 (.lit 0) (.var 4) (.var 5))], 22⟩, ⟨[(.ptr 11 (.lit 0))], 73⟩, ⟨[(.int .i64 (.var 13))], 3⟩, ⟨[(.int .i64 (.var 16))], 3⟩]
     (.load 15 (.lit 0) [(.int .i64)] [⟨[(.sl 6 (.lit 0) (.var 7) (.var 8)), (.int .i64 (.var 9))], 25⟩, ⟨[(.sl 0 (.lit 0) (.var 1) (.var 2)), (.sl 3 (.lit 0) (.var 4) (.var 5))], 22⟩, ⟨[(.ptr 11 (.lit 0))], 73⟩, ⟨[(.int .i64 (.var 13))], 3⟩, ⟨[(.int .i64 (.var 16))], 3⟩]
     (.ite (.cmp .geq (.var 17) (.lit 0))
      (.alloc
      (.load 12 (.lit 0) [(.int .i64)] [⟨[(.sl 6 (.lit 0) (.var 7) (.var 8)), (.int .i64 (.var 9))], 25⟩, ⟨[(.sl 0 (.lit 0) (.var 1) (.var 2)), (.sl 3 (.lit 0) (.var 4) (.var 5))], 22⟩, ⟨[(.ptr 11 (.lit 0))], 73⟩, ⟨[(.int .i64 (.var 13))], 3⟩, ⟨[(.int .i64 (.var 16))], 3⟩, ⟨[(.bool (.lit true))], 4⟩]
      (.load 15 (.lit 0) [(.int .i64)] [⟨[(.sl 6 (.lit 0) (.var 7) (.var 8)), (.int .i64 (.var 9))], 25⟩, ⟨[(.sl 0 (.lit 0) (.var 1) (.var 2)), (.sl 3 (.lit 0) (.var 4) (.var 5))], 22⟩, ⟨[(.ptr 11 (.lit 0))], 73⟩, ⟨[(.int .i64 (.var 13))], 3⟩, ⟨[(.int .i64 (.var 16))], 3⟩, ⟨[(.bool (.lit true))], 4⟩]
      (.call false 53 [(.ptr 11 (.lit 0)), (.int .i64 (.var 18)), (.int .i64 (.var 19))] .val [⟨[(.sl 6 (.lit 0) (.var 7) (.var 8)), (.int .i64 (.var 9))], 25⟩, ⟨[(.sl 0 (.lit 0) (.var 1) (.var 2)), (.sl 3 (.lit 0) (.var 4) (.var 5))], 22⟩, ⟨[(.ptr 11 (.lit 0))], 73⟩, ⟨[(.int .i64 (.var 13))], 3⟩, ⟨[(.int .i64 (.var 16))], 3⟩, ⟨[(.bool (.lit true))], 4⟩]
      (.range (.val 20) [(.agg [(.int .i64), (.int .i64), (.int .i64)])] [.bool] [(.bool (.lit true))] [⟨[(.sl 6 (.lit 0) (.var 7) (.var 8)), (.int .i64 (.var 9))], 25⟩, ⟨[(.sl 0 (.lit 0) (.var 1) (.var 2)), (.sl 3 (.lit 0) (.var 4) (.var 5))], 22⟩, ⟨[(.ptr 11 (.lit 0))], 73⟩, ⟨[(.int .i64 (.var 13))], 3⟩, ⟨[(.int .i64 (.var 16))], 3⟩, ⟨[(.bool (.lit true))], 4⟩] [⟨[(.sl 6 (.lit 0) (.var 7) (.var 8)), (.int .i64 (.var 9))], 25⟩, ⟨[(.sl 0 (.lit 0) (.var 1) (.var 2)), (.sl 3 (.lit 0) (.var 4) (.var 5))], 22⟩, ⟨[(.ptr 11 (.lit 0))], 73⟩, ⟨[(.int .i64 (.var 13))], 3⟩, ⟨[(.int .i64 (.var 16))], 3⟩, ⟨[(.bool (.var 21))], 4⟩]
       (.alloc
       (.chk (.some 11)
       (.chk (.some 11)
       (.chk (.pick (.cmp .geq (.var 22) (.lit 0)) (.pick (.cmp .lss (.var 22) (.lit 33)) (.some 11) (.lit false)) (.lit false))
       (.chk (.pick (.cmp .geq (.off (.var 22) 33 (.lit 4)) (.lit 0)) (.pick (.cmp .geq (.var 23) (.lit 0)) (.pick (.cmp .lss (.var 23) (.lit 33)) (.some 11) (.lit false)) (.lit false)) (.lit false))
       (.load 11 (.off (.var 23) 1 (.off (.var 22) 33 (.lit 4))) [(.int .i64)] [⟨[(.sl 6 (.lit 0) (.var 7) (.var 8)), (.int .i64 (.var 9))], 25⟩, ⟨[(.sl 0 (.lit 0) (.var 1) (.var 2)), (.sl 3 (.lit 0) (.var 4) (.var 5))], 22⟩, ⟨[(.ptr 11 (.lit 0))], 73⟩, ⟨[(.int .i64 (.var 13))], 3⟩, ⟨[(.int .i64 (.var 16))], 3⟩, ⟨[(.bool (.var 21))], 4⟩, ⟨[(.int .i64 (.var 22)), (.int .i64 (.var 23)), (.int .i64 (.var 24))], 87⟩]
       (.ite (.var 21)
        (.load 12 (.lit 0) [(.int .i64)] [⟨[(.sl 6 (.lit 0) (.var 7) (.var 8)), (.int .i64 (.var 9))], 25⟩, ⟨[(.sl 0 (.lit 0) (.var 1) (.var 2)), (.sl 3 (.lit 0) (.var 4) (.var 5))], 22⟩, ⟨[(.ptr 11 (.lit 0))], 73⟩, ⟨[(.int .i64 (.var 13))], 3⟩, ⟨[(.int .i64 (.var 16))], 3⟩, ⟨[(.bool (.var 21))], 4⟩, ⟨[(.int .i64 (.var 22)), (.int .i64 (.var 23)), (.int .i64 (.var 24))], 87⟩]
        (.load 15 (.lit 0) [(.int .i64)] [⟨[(.sl 6 (.lit 0) (.var 7) (.var 8)), (.int .i64 (.var 9))], 25⟩, ⟨[(.sl 0 (.lit 0) (.var 1) (.var 2)), (.sl 3 (.lit 0) (.var 4) (.var 5))], 22⟩, ⟨[(.ptr 11 (.lit 0))], 73⟩, ⟨[(.int .i64 (.var 13))], 3⟩, ⟨[(.int .i64 (.var 16))], 3⟩, ⟨[(.bool (.var 21))], 4⟩, ⟨[(.int .i64 (.var 22)), (.int .i64 (.var 23)), (.int .i64 (.var 24))], 87⟩]
        (.chk (.some 11)
        (.chk (.some 11)
        (.chk (.pick (.cmp .geq (.var 26) (.lit 0)) (.pick (.cmp .lss (.var 26) (.lit 33)) (.some 11) (.lit false)) (.lit false))
        (.chk (.pick (.cmp .geq (.off (.var 26) 33 (.lit 4)) (.lit 0)) (.pick (.cmp .geq (.var 27) (.lit 0)) (.pick (.cmp .lss (.var 27) (.lit 33)) (.some 11) (.lit false)) (.lit false)) (.lit false))
        (.store false 11 (.off (.var 27) 1 (.off (.var 26) 33 (.lit 4))) [(.int .i64 (.bin .add .i64 (.var 24) (.var 25)))] [⟨[(.sl 6 (.lit 0) (.var 7) (.var 8)), (.int .i64 (.var 9))], 25⟩, ⟨[(.sl 0 (.lit 0) (.var 1) (.var 2)), (.sl 3 (.lit 0) (.var 4) (.var 5))], 22⟩, ⟨[(.ptr 11 (.lit 0))], 73⟩, ⟨[(.int .i64 (.var 13))], 3⟩, ⟨[(.int .i64 (.var 16))], 3⟩, ⟨[(.bool (.var 21))], 4⟩, ⟨[(.int .i64 (.var 22)), (.int .i64 (.var 23)), (.int .i64 (.var 24))], 87⟩]
        (.leave 0 6 [.bool] [(.bool (.lit false))] [⟨[(.sl 6 (.lit 0) (.var 7) (.var 8)), (.int .i64 (.var 9))], 25⟩, ⟨[(.sl 0 (.lit 0) (.var 1) (.var 2)), (.sl 3 (.lit 0) (.var 4) (.var 5))], 22⟩, ⟨[(.ptr 11 (.lit 0))], 73⟩, ⟨[(.int .i64 (.var 13))], 3⟩, ⟨[(.int .i64 (.var 16))], 3⟩, ⟨[(.bool (.lit false))], 4⟩, ⟨[(.int .i64 (.var 22)), (.int .i64 (.var 23)), (.int .i64 (.var 24))], 87⟩]))))))))
        (.load 12 (.lit 0) [(.int .i64)] [⟨[(.sl 6 (.lit 0) (.var 7) (.var 8)), (.int .i64 (.var 9))], 25⟩, ⟨[(.sl 0 (.lit 0) (.var 1) (.var 2)), (.sl 3 (.lit 0) (.var 4) (.var 5))], 22⟩, ⟨[(.ptr 11 (.lit 0))], 73⟩, ⟨[(.int .i64 (.var 13))], 3⟩, ⟨[(.int .i64 (.var 16))], 3⟩, ⟨[(.bool (.var 21))], 4⟩, ⟨[(.int .i64 (.var 22)), (.int .i64 (.var 23)), (.int .i64 (.var 24))], 87⟩]
        (.load 15 (.lit 0) [(.int .i64)] [⟨[(.sl 6 (.lit 0) (.var 7) (.var 8)), (.int .i64 (.var 9))], 25⟩, ⟨[(.sl 0 (.lit 0) (.var 1) (.var 2)), (.sl 3 (.lit 0) (.var 4) (.var 5))], 22⟩, ⟨[(.ptr 11 (.lit 0))], 73⟩, ⟨[(.int .i64 (.var 13))], 3⟩, ⟨[(.int .i64 (.var 16))], 3⟩, ⟨[(.bool (.var 21))], 4⟩, ⟨[(.int .i64 (.var 22)), (.int .i64 (.var 23)), (.int .i64 (.var 24))], 87⟩]
        (.chk (.some 11)
        (.chk (.some 11)
        (.chk (.pick (.cmp .geq (.var 26) (.lit 0)) (.pick (.cmp .lss (.var 26) (.lit 33)) (.some 11) (.lit false)) (.lit false))
        (.chk (.pick (.cmp .geq (.off (.var 26) 33 (.lit 4)) (.lit 0)) (.pick (.cmp .geq (.var 27) (.lit 0)) (.pick (.cmp .lss (.var 27) (.lit 33)) (.some 11) (.lit false)) (.lit false)) (.lit false))
        (.load 11 (.off (.var 27) 1 (.off (.var 26) 33 (.lit 4))) [(.int .i64)] [⟨[(.sl 6 (.lit 0) (.var 7) (.var 8)), (.int .i64 (.var 9))], 25⟩, ⟨[(.sl 0 (.lit 0) (.var 1) (.var 2)), (.sl 3 (.lit 0) (.var 4) (.var 5))], 22⟩, ⟨[(.ptr 11 (.lit 0))], 73⟩, ⟨[(.int .i64 (.var 13))], 3⟩, ⟨[(.int .i64 (.var 16))], 3⟩, ⟨[(.bool (.var 21))], 4⟩, ⟨[(.int .i64 (.var 22)), (.int .i64 (.var 23)), (.int .i64 (.var 24))], 87⟩]
        (.ite (.cmp .lss (.bin .add .i64 (.var 24) (.var 25)) (.var 28))
         (.load 12 (.lit 0) [(.int .i64)] [⟨[(.sl 6 (.lit 0) (.var 7) (.var 8)), (.int .i64 (.var 9))], 25⟩, ⟨[(.sl 0 (.lit 0) (.var 1) (.var 2)), (.sl 3 (.lit 0) (.var 4) (.var 5))], 22⟩, ⟨[(.ptr 11 (.lit 0))], 73⟩, ⟨[(.int .i64 (.var 13))], 3⟩, ⟨[(.int .i64 (.var 16))], 3⟩, ⟨[(.bool (.var 21))], 4⟩, ⟨[(.int .i64 (.var 22)), (.int .i64 (.var 23)), (.int .i64 (.var 24))], 87⟩]
         (.load 15 (.lit 0) [(.int .i64)] [⟨[(.sl 6 (.lit 0) (.var 7) (.var 8)), (.int .i64 (.var 9))], 25⟩, ⟨[(.sl 0 (.lit 0) (.var 1) (.var 2)), (.sl 3 (.lit 0) (.var 4) (.var 5))], 22⟩, ⟨[(.ptr 11 (.lit 0))], 73⟩, ⟨[(.int .i64 (.var 13))], 3⟩, ⟨[(.int .i64 (.var 16))], 3⟩, ⟨[(.bool (.var 21))], 4⟩, ⟨[(.int .i64 (.var 22)), (.int .i64 (.var 23)), (.int .i64 (.var 24))], 87⟩]
         (.chk (.some 11)
         (.chk (.some 11)
         (.chk (.pick (.cmp .geq (.var 29) (.lit 0)) (.pick (.cmp .lss (.var 29) (.lit 33)) (.some 11) (.lit false)) (.lit false))
         (.chk (.pick (.cmp .geq (.off (.var 29) 33 (.lit 4)) (.lit 0)) (.pick (.cmp .geq (.var 30) (.lit 0)) (.pick (.cmp .lss (.var 30) (.lit 33)) (.some 11) (.lit false)) (.lit false)) (.lit false))
         (.store false 11 (.off (.var 30) 1 (.off (.var 29) 33 (.lit 4))) [(.int .i64 (.bin .add .i64 (.var 24) (.var 25)))] [⟨[(.sl 6 (.lit 0) (.var 7) (.var 8)), (.int .i64 (.var 9))], 25⟩, ⟨[(.sl 0 (.lit 0) (.var 1) (.var 2)), (.sl 3 (.lit 0) (.var 4) (.var 5))], 22⟩, ⟨[(.ptr 11 (.lit 0))], 73⟩, ⟨[(.int .i64 (.var 13))], 3⟩, ⟨[(.int .i64 (.var 16))], 3⟩, ⟨[(.bool (.var 21))], 4⟩, ⟨[(.int .i64 (.var 22)), (.int .i64 (.var 23)), (.int .i64 (.var 24))], 87⟩]
         (.leave 0 6 [.bool] [(.bool (.lit false))] [⟨[(.sl 6 (.lit 0) (.var 7) (.var 8)), (.int .i64 (.var 9))], 25⟩, ⟨[(.sl 0 (.lit 0) (.var 1) (.var 2)), (.sl 3 (.lit 0) (.var 4) (.var 5))], 22⟩, ⟨[(.ptr 11 (.lit 0))], 73⟩, ⟨[(.int .i64 (.var 13))], 3⟩, ⟨[(.int .i64 (.var 16))], 3⟩, ⟨[(.bool (.lit false))], 4⟩, ⟨[(.int .i64 (.var 22)), (.int .i64 (.var 23)), (.int .i64 (.var 24))], 87⟩]))))))))
         (.leave 0 6 [.bool] [(.bool (.var 21))] [⟨[(.sl 6 (.lit 0) (.var 7) (.var 8)), (.int .i64 (.var 9))], 25⟩, ⟨[(.sl 0 (.lit 0) (.var 1) (.var 2)), (.sl 3 (.lit 0) (.var 4) (.var 5))], 22⟩, ⟨[(.ptr 11 (.lit 0))], 73⟩, ⟨[(.int .i64 (.var 13))], 3⟩, ⟨[(.int .i64 (.var 16))], 3⟩, ⟨[(.bool (.var 21))], 4⟩, ⟨[(.int .i64 (.var 22)), (.int .i64 (.var 23)), (.int .i64 (.var 24))], 87⟩]))))))))))))))))
       (.load 15 (.lit 0) [(.int .i64)] [⟨[(.sl 6 (.lit 0) (.var 7) (.var 8)), (.int .i64 (.var 9))], 25⟩, ⟨[(.sl 0 (.lit 0) (.var 1) (.var 2)), (.sl 3 (.lit 0) (.var 4) (.var 5))], 22⟩, ⟨[(.ptr 11 (.lit 0))], 73⟩, ⟨[(.int .i64 (.var 13))], 3⟩, ⟨[(.int .i64 (.var 16))], 3⟩, ⟨[(.bool (.var 21))], 4⟩]
       (.alloc
       (.again 1 5 [.ptr, (.int .i64)] [(.loc 6 0), (.int .i64 (.var 16))] [⟨[(.sl 6 (.lit 0) (.var 7) (.var 8)), (.int .i64 (.var 9))], 25⟩, ⟨[(.sl 0 (.lit 0) (.var 1) (.var 2)), (.sl 3 (.lit 0) (.var 4) (.var 5))], 22⟩, ⟨[(.ptr 11 (.lit 0))], 73⟩, ⟨[(.int .i64 (.var 13))], 3⟩, ⟨[(.int .i64 (.var 16))], 3⟩, ⟨[(.bool (.var 21))], 4⟩, ⟨[(.int .i64 (.bin .sub .i64 (.var 23) (.lit 1)))], 3⟩]))))))))
      (.load 12 (.lit 0) [(.int .i64)] [⟨[(.sl 6 (.lit 0) (.var 7) (.var 8)), (.int .i64 (.var 9))], 25⟩, ⟨[(.sl 0 (.lit 0) (.var 1) (.var 2)), (.sl 3 (.lit 0) (.var 4) (.var 5))], 22⟩, ⟨[(.ptr 11 (.lit 0))], 73⟩, ⟨[(.int .i64 (.var 13))], 3⟩, ⟨[(.int .i64 (.var 16))], 3⟩]
      (.alloc
      (.again 0 4 [.ptr, (.int .i64)] [(.loc 5 0), (.int .i64 (.var 13))] [⟨[(.sl 6 (.lit 0) (.var 7) (.var 8)), (.int .i64 (.var 9))], 25⟩, ⟨[(.sl 0 (.lit 0) (.var 1) (.var 2)), (.sl 3 (.lit 0) (.var 4) (.var 5))], 22⟩, ⟨[(.ptr 11 (.lit 0))], 73⟩, ⟨[(.int .i64 (.var 13))], 3⟩, ⟨[(.int .i64 (.var 16))], 3⟩, ⟨[(.int .i64 (.bin .sub .i64 (.var 18) (.lit 1)))], 3⟩]))))))))
    (.ret (.tup [(.ptr 11 (.lit 0)), (.int .i64 (.lit 0))]) [⟨[(.sl 6 (.lit 0) (.var 7) (.var 8)), (.int .i64 (.var 9))], 25⟩, ⟨[(.sl 0 (.lit 0) (.var 1) (.var 2)), (.sl 3 (.lit 0) (.var 4) (.var 5))], 22⟩, ⟨[(.ptr 11 (.lit 0))], 73⟩, ⟨[(.int .i64 (.var 13))], 3⟩]))))))))))))
theorem S_edit_newTable : FnIs Tryd.prog n_edit_newTable [.sl, .sl, (.agg [.sl, (.int .i64)])] T_edit_newTable := ⟨Tryd.f41, [], 4000, Tryd.func41, by kernel_rfl⟩
/-! 42 ablaut/ablautref17.check  -/
abbrev n_ref17_check : FuncId := 42
def T_ref17_check : Tree :=
 (.alloc
 (.call false 54 [(.agg [(.sl 0 (.lit 0) (.var 1) (.var 2)), (.int .i64 (.var 3))])] (.int .i64) [⟨[(.sl 0 (.lit 0) (.var 1) (.var 2)), (.int .i64 (.var 3))], 25⟩]
 (.ite (.cmp .neq (.var 7) (.lit 0))
  (.ret (.int .i64 (.var 7)) [⟨[(.sl 0 (.lit 0) (.var 1) (.var 2)), (.int .i64 (.var 3))], 25⟩])
  (.loop 0 [(.int .i64), (.int .i64)] [(.int .i64 (.lit 0)), (.int .i64 (.lit 0))] [⟨[(.sl 0 (.lit 0) (.var 1) (.var 2)), (.int .i64 (.var 3))], 25⟩] [⟨[(.sl 0 (.lit 0) (.var 1) (.var 2)), (.int .i64 (.var 3))], 25⟩]
   (.chk (.cmp .geq (.var 5) (.lit 0))
   (.ite (.cmp .lss (.var 9) (.var 5))
    (.chk (.pick (.cmp .geq (.var 9) (.lit 0)) (.pick (.cmp .lss (.var 9) (.var 5)) (.some 4) (.lit false)) (.lit false))
    (.load 4 (.off (.var 9) 1 (.lit 0)) [.sl] [⟨[(.sl 0 (.lit 0) (.var 1) (.var 2)), (.int .i64 (.var 3))], 25⟩]
    (.call false 55 [(.sl 10 (.lit 0) (.var 11) (.var 12))] (.int .i64) [⟨[(.sl 0 (.lit 0) (.var 1) (.var 2)), (.int .i64 (.var 3))], 25⟩]
    (.ite (.cmp .neq (.var 13) (.lit 0))
     (.ret (.int .i64 (.var 13)) [⟨[(.sl 0 (.lit 0) (.var 1) (.var 2)), (.int .i64 (.var 3))], 25⟩])
     (.again 0 1 [(.int .i64), (.int .i64)] [(.int .i64 (.var 8)), (.int .i64 (.bin .add .i64 (.var 9) (.lit 1)))] [⟨[(.sl 0 (.lit 0) (.var 1) (.var 2)), (.int .i64 (.var 3))], 25⟩])))))
    (.ret (.int .i64 (.lit 0)) [⟨[(.sl 0 (.lit 0) (.var 1) (.var 2)), (.int .i64 (.var 3))], 25⟩])))))))
theorem S_ref17_check : FnIs Tryd.prog n_ref17_check [(.agg [.sl, (.int .i64)]), .sl] T_ref17_check := ⟨Tryd.f42, [], 4000, Tryd.func42, by kernel_rfl⟩
/-! 44 (*ablaut/edit.table).cheapest  -/
abbrev n___edit_table__cheapest : FuncId := 44
def T___edit_table__cheapest : Tree :=
 (.alloc
 (.alloc
 (.alloc
 (.ret (.fn (.func 56) [] [(.loc 0 0), (.loc 1 0), (.loc 2 0)]) [⟨[(.ptr 0 (.lit 0))], 73⟩, ⟨[(.int .i64 (.var 1))], 3⟩, ⟨[(.int .i64 (.var 2))], 3⟩]))))
theorem S___edit_table__cheapest : FnIs Tryd.prog n___edit_table__cheapest [.ptr, (.int .i64), (.int .i64)] T___edit_table__cheapest := ⟨Tryd.f44, [], 4000, Tryd.func44, by kernel_rfl⟩
/-! 48 ablaut/edit.check  -/
abbrev n_edit_check : FuncId := 48
def T_edit_check : Tree :=
 (.alloc
 (.call false 50 [(.agg [(.sl 0 (.lit 0) (.var 1) (.var 2)), (.int .i64 (.var 3))])] (.int .i64) [⟨[(.sl 0 (.lit 0) (.var 1) (.var 2)), (.int .i64 (.var 3))], 25⟩]
 (.ite (.cmp .neq (.var 7) (.lit 0))
  (.ret (.int .i64 (.var 7)) [⟨[(.sl 0 (.lit 0) (.var 1) (.var 2)), (.int .i64 (.var 3))], 25⟩])
  (.chk (.cmp .geq (.var 5) (.lit 0))
  (.loop 0 [(.int .i64), (.int .i64)] [(.int .i64 (.lit 0)), (.int .i64 (.lit 0))] [⟨[(.sl 0 (.lit 0) (.var 1) (.var 2)), (.int .i64 (.var 3))], 25⟩] [⟨[(.sl 0 (.lit 0) (.var 1) (.var 2)), (.int .i64 (.var 3))], 25⟩]
   (.ite (.cmp .lss (.var 9) (.var 5))
    (.chk (.pick (.cmp .geq (.var 9) (.lit 0)) (.pick (.cmp .lss (.var 9) (.var 5)) (.some 4) (.lit false)) (.lit false))
    (.load 4 (.off (.var 9) 1 (.lit 0)) [.sl] [⟨[(.sl 0 (.lit 0) (.var 1) (.var 2)), (.int .i64 (.var 3))], 25⟩]
    (.call false 59 [(.sl 10 (.lit 0) (.var 11) (.var 12))] (.int .i64) [⟨[(.sl 0 (.lit 0) (.var 1) (.var 2)), (.int .i64 (.var 3))], 25⟩]
    (.ite (.cmp .neq (.var 13) (.lit 0))
     (.ret (.int .i64 (.var 13)) [⟨[(.sl 0 (.lit 0) (.var 1) (.var 2)), (.int .i64 (.var 3))], 25⟩])
     (.again 0 1 [(.int .i64), (.int .i64)] [(.int .i64 (.var 8)), (.int .i64 (.bin .add .i64 (.var 9) (.lit 1)))] [⟨[(.sl 0 (.lit 0) (.var 1) (.var 2)), (.int .i64 (.var 3))], 25⟩])))))
    (.ret (.int .i64 (.lit 0)) [⟨[(.sl 0 (.lit 0) (.var 1) (.var 2)), (.int .i64 (.var 3))], 25⟩])))))))
theorem S_edit_check : FnIs Tryd.prog n_edit_check [(.agg [.sl, (.int .i64)]), .sl] T_edit_check := ⟨Tryd.f48, [], 4000, Tryd.func48, by kernel_rfl⟩
/-! 53 (*ablaut/edit.table).steps  -/
abbrev n___edit_table__steps : FuncId := 53
def T___edit_table__steps : Tree :=
 (.alloc
 (.alloc
 (.alloc
 (.ret (.fn (.func 62) [] [(.loc 1 0), (.loc 0 0), (.loc 2 0)]) [⟨[(.ptr 0 (.lit 0))], 73⟩, ⟨[(.int .i64 (.var 1))], 3⟩, ⟨[(.int .i64 (.var 2))], 3⟩]))))
theorem S___edit_table__steps : FnIs Tryd.prog n___edit_table__steps [.ptr, (.int .i64), (.int .i64)] T___edit_table__steps := ⟨Tryd.f53, [], 4000, Tryd.func53, by kernel_rfl⟩
/-! 56 (*ablaut/edit.table).cheapest$1  -/
abbrev n___edit_table__cheapest_1 : FuncId := 56
def T___edit_table__cheapest_1 : Tree :=
 (.alloc
 (.load 1 (.lit 0) [.ptr] [⟨[(.val 0)], 106⟩]
 (.load 2 (.lit 0) [(.int .i64)] [⟨[(.val 0)], 106⟩]
 (.load 3 (.lit 0) [(.int .i64)] [⟨[(.val 0)], 106⟩]
 (.call false 53 [(.ptr 4 (.lit 0)), (.int .i64 (.var 5)), (.int .i64 (.var 6))] .val [⟨[(.val 0)], 106⟩]
 (.range (.val 7) [(.agg [(.int .i64), (.int .i64), (.int .i64)])] [] [] [⟨[(.val 0)], 106⟩] [⟨[(.val 0)], 106⟩]
  (.alloc
  (.load 1 (.lit 0) [.ptr] [⟨[(.val 0)], 106⟩, ⟨[(.int .i64 (.var 8)), (.int .i64 (.var 9)), (.int .i64 (.var 10))], 87⟩]
  (.chk (.some 11)
  (.chk (.some 11)
  (.chk (.pick (.cmp .geq (.var 8) (.lit 0)) (.pick (.cmp .lss (.var 8) (.lit 33)) (.some 11) (.lit false)) (.lit false))
  (.chk (.pick (.cmp .geq (.off (.var 8) 33 (.lit 4)) (.lit 0)) (.pick (.cmp .geq (.var 9) (.lit 0)) (.pick (.cmp .lss (.var 9) (.lit 33)) (.some 11) (.lit false)) (.lit false)) (.lit false))
  (.load 11 (.off (.var 9) 1 (.off (.var 8) 33 (.lit 4))) [(.int .i64)] [⟨[(.val 0)], 106⟩, ⟨[(.int .i64 (.var 8)), (.int .i64 (.var 9)), (.int .i64 (.var 10))], 87⟩]
  (.load 1 (.lit 0) [.ptr] [⟨[(.val 0)], 106⟩, ⟨[(.int .i64 (.var 8)), (.int .i64 (.var 9)), (.int .i64 (.var 10))], 87⟩]
  (.load 2 (.lit 0) [(.int .i64)] [⟨[(.val 0)], 106⟩, ⟨[(.int .i64 (.var 8)), (.int .i64 (.var 9)), (.int .i64 (.var 10))], 87⟩]
  (.load 3 (.lit 0) [(.int .i64)] [⟨[(.val 0)], 106⟩, ⟨[(.int .i64 (.var 8)), (.int .i64 (.var 9)), (.int .i64 (.var 10))], 87⟩]
  (.chk (.some 13)
  (.chk (.some 13)
  (.chk (.pick (.cmp .geq (.var 14) (.lit 0)) (.pick (.cmp .lss (.var 14) (.lit 33)) (.some 13) (.lit false)) (.lit false))
  (.chk (.pick (.cmp .geq (.off (.var 14) 33 (.lit 4)) (.lit 0)) (.pick (.cmp .geq (.var 15) (.lit 0)) (.pick (.cmp .lss (.var 15) (.lit 33)) (.some 13) (.lit false)) (.lit false)) (.lit false))
  (.load 13 (.off (.var 15) 1 (.off (.var 14) 33 (.lit 4))) [(.int .i64)] [⟨[(.val 0)], 106⟩, ⟨[(.int .i64 (.var 8)), (.int .i64 (.var 9)), (.int .i64 (.var 10))], 87⟩]
  (.ite (.cmp .eql (.bin .add .i64 (.var 10) (.var 12)) (.var 16))
   (.callv false (.val 0) [(.agg [(.int .i64 (.var 8)), (.int .i64 (.var 9)), (.int .i64 (.var 10))])] .bool [⟨[(.val 0)], 106⟩, ⟨[(.int .i64 (.var 8)), (.int .i64 (.var 9)), (.int .i64 (.var 10))], 87⟩]
   (.ite (.not (.var 17))
    (.leave 1 1 [] [] [⟨[(.val 0)], 106⟩, ⟨[(.int .i64 (.var 8)), (.int .i64 (.var 9)), (.int .i64 (.var 10))], 87⟩])
    (.leave 0 1 [] [] [⟨[(.val 0)], 106⟩, ⟨[(.int .i64 (.var 8)), (.int .i64 (.var 9)), (.int .i64 (.var 10))], 87⟩])))
   (.leave 0 1 [] [] [⟨[(.val 0)], 106⟩, ⟨[(.int .i64 (.var 8)), (.int .i64 (.var 9)), (.int .i64 (.var 10))], 87⟩])))))))))))))))))
  (.ite (.cmp .eql (.var 8) (.lit 1))
   (.ret (.tup []) [⟨[(.val 0)], 106⟩])
   (.ret (.tup []) [⟨[(.val 0)], 106⟩]))))))))
theorem S___edit_table__cheapest_1 : FnIs Tryd.prog n___edit_table__cheapest_1 [.val, .ptr, .ptr, .ptr] T___edit_table__cheapest_1 := ⟨Tryd.f56, [], 4000, Tryd.func56, by kernel_rfl⟩
/-! 62 (*ablaut/edit.table).steps$1  -/
abbrev n___edit_table__steps_1 : FuncId := 62
def T___edit_table__steps_1 : Tree :=
 (.join 0 [.bool] []
  (.load 1 (.lit 0) [(.int .i64)] []
  (.load 2 (.lit 0) [.ptr] []
  (.chk (.some 5)
  (.chk (.some 5)
  (.load 5 (.lit 0) [.sl] []
  (.chk (.cmp .geq (.var 7) (.lit 0))
  (.ite (.cmp .lss (.var 4) (.var 7))
   (.load 3 (.lit 0) [(.int .i64)] []
   (.load 2 (.lit 0) [.ptr] []
   (.chk (.some 10)
   (.chk (.some 10)
   (.load 10 (.lit 1) [.sl] []
   (.chk (.cmp .geq (.var 12) (.lit 0))
   (.again 0 0 [.bool] [(.bool (.cmp .lss (.var 9) (.var 12)))] [])))))))
   (.again 0 0 [.bool] [(.bool (.lit false))] []))))))))
 (.join 0 [] []
  (.ite (.var 4)
   (.load 2 (.lit 0) [.ptr] []
   (.chk (.some 5)
   (.chk (.some 5)
   (.load 5 (.lit 0) [.sl] []
   (.load 1 (.lit 0) [(.int .i64)] []
   (.chk (.pick (.cmp .geq (.var 9) (.lit 0)) (.pick (.cmp .lss (.var 9) (.var 7)) (.some 6) (.lit false)) (.lit false))
   (.load 6 (.off (.var 9) 2 (.lit 0)) [(.int .u32), (.int .u32)] []
   (.load 2 (.lit 0) [.ptr] []
   (.chk (.some 12)
   (.chk (.some 12)
   (.load 12 (.lit 1) [.sl] []
   (.load 3 (.lit 0) [(.int .i64)] []
   (.chk (.pick (.cmp .geq (.var 16) (.lit 0)) (.pick (.cmp .lss (.var 16) (.var 14)) (.some 13) (.lit false)) (.lit false))
   (.load 13 (.off (.var 16) 2 (.lit 0)) [(.int .u32), (.int .u32)] []
   (.load 2 (.lit 0) [.ptr] []
   (.chk (.some 19)
   (.chk (.some 19)
   (.load 19 (.lit 2) [.sl, (.int .i64)] []
   (.call false 31 [(.agg [(.int .u32 (.var 10)), (.int .u32 (.var 11))]), (.agg [(.int .u32 (.var 17)), (.int .u32 (.var 18))]), (.agg [(.sl 20 (.lit 0) (.var 21) (.var 22)), (.int .i64 (.var 23))])] (.tup [(.int .i64), (.int .i64)]) []
   (.load 1 (.lit 0) [(.int .i64)] []
   (.load 3 (.lit 0) [(.int .i64)] []
   (.callv false (.val 0) [(.agg [(.int .i64 (.bin .add .i64 (.var 26) (.lit 1))), (.int .i64 (.bin .add .i64 (.var 27) (.lit 1))), (.int .i64 (.var 24))])] .bool []
   (.ite (.not (.var 28))
    (.ret (.tup []) [])
    (.again 0 0 [] [] []))))))))))))))))))))))))
   (.again 0 0 [] [] []))
 (.join 0 [.bool] []
  (.load 1 (.lit 0) [(.int .i64)] []
  (.load 2 (.lit 0) [.ptr] []
  (.chk (.some 6)
  (.chk (.some 6)
  (.load 6 (.lit 0) [.sl] []
  (.chk (.cmp .geq (.var 8) (.lit 0))
  (.ite (.cmp .lss (.var 5) (.var 8))
   (.load 1 (.lit 0) [(.int .i64)] []
   (.load 3 (.lit 0) [(.int .i64)] []
   (.load 2 (.lit 0) [.ptr] []
   (.chk (.some 12)
   (.chk (.some 12)
   (.chk (.some 12)
   (.load 12 (.lit 3) [(.int .i64)] []
   (.callv false (.val 0) [(.agg [(.int .i64 (.bin .add .i64 (.var 10) (.lit 1))), (.int .i64 (.var 11)), (.int .i64 (.var 13))])] .bool []
   (.again 0 0 [.bool] [(.bool (.not (.var 14)))] [])))))))))
   (.again 0 0 [.bool] [(.bool (.lit false))] []))))))))
 (.ite (.var 5)
  (.ret (.tup []) [])
  (.load 3 (.lit 0) [(.int .i64)] []
  (.load 2 (.lit 0) [.ptr] []
  (.chk (.some 7)
  (.chk (.some 7)
  (.load 7 (.lit 1) [.sl] []
  (.chk (.cmp .geq (.var 9) (.lit 0))
  (.join 0 [] []
   (.ite (.cmp .lss (.var 6) (.var 9))
    (.load 1 (.lit 0) [(.int .i64)] []
    (.load 3 (.lit 0) [(.int .i64)] []
    (.load 2 (.lit 0) [.ptr] []
    (.chk (.some 13)
    (.chk (.some 13)
    (.chk (.some 13)
    (.load 13 (.lit 3) [(.int .i64)] []
    (.callv false (.val 0) [(.agg [(.int .i64 (.var 11)), (.int .i64 (.bin .add .i64 (.var 12) (.lit 1))), (.int .i64 (.var 14))])] .bool []
    (.again 0 0 [] [] [])))))))))
    (.again 0 0 [] [] []))
  (.ret (.tup []) []))))))))))))
theorem S___edit_table__steps_1 : FnIs Tryd.prog n___edit_table__steps_1 [.val, .ptr, .ptr, .ptr] T___edit_table__steps_1 := ⟨Tryd.f62, [{ key := 200000, tmps := [(22, .bool)], join := true, dead := 9901083573168874263003791312 }, { key := 1, tmps := [], join := true }, { key := 200003, tmps := [(74, .bool)], join := true }, { key := 5, tmps := [], join := true }], 4000, Tryd.func62, by kernel_rfl⟩
end Go.Proofs.YtedfogpnmpmggaaDoor
