/- The trees of this seat's functions, printed by a program of mine (SyGen), checked here by the kernel. -/
import Derived.Test.YtialbhieaipcgaaDoorSyDef
import Derived.Test.YtialbhieaipcgaaDoorProg
import Derived.KernelRfl
set_option maxRecDepth 100000
namespace Go.Proofs.YtialbhieaipcgaaDoor
open Go Go.Sy
/-! 27 ablaut/ablautlaw18.choice  -/
/-! 30 ablaut/multi.Add  -/
/-! 31 ablaut/ablautref18.Add  -/
/-! 33 ablaut/multi.Refine  -/
abbrev n_multi_Refine : FuncId := 33
def T_multi_Refine : Tree :=
 (.alloc
 (.call false 17 [(.sl 0 (.lit 0) (.var 1) (.var 2)), (.sl 3 (.lit 0) (.var 4) (.var 5)), (.agg [(.sl 6 (.lit 0) (.var 7) (.var 8)), (.int .i64 (.var 9))])] (.tup [(.int .i64), (.int .i64)]) [⟨[(.sl 6 (.lit 0) (.var 7) (.var 8)), (.int .i64 (.var 9))], 26⟩]
 (.ite (.cmp .neq (.var 11) (.lit 0))
  (.ret (.tup [(.cst (.slice none 0 0)), (.int .i64 (.var 11))]) [⟨[(.sl 6 (.lit 0) (.var 7) (.var 8)), (.int .i64 (.var 9))], 26⟩])
  (.call false 50 [(.sl 0 (.lit 0) (.var 1) (.var 2)), (.agg [(.sl 6 (.lit 0) (.var 7) (.var 8)), (.int .i64 (.var 9))])] .val [⟨[(.sl 6 (.lit 0) (.var 7) (.var 8)), (.int .i64 (.var 9))], 26⟩]
  (.chk (.cmp .geq (.var 4) (.lit 0))
  (.ext false ⟨(.makeSlice 23 (.tmp 0) (.tmp 0)), 23, [(.int .i64 (.var 4)), (.int .i64 (.var 4))]⟩ .sl [⟨[(.sl 6 (.lit 0) (.var 7) (.var 8)), (.int .i64 (.var 9))], 26⟩]
  (.chk (.cmp .geq (.var 4) (.lit 0))
  (.loop 0 [(.int .i64)] [(.int .i64 (.lit 0))] [⟨[(.sl 6 (.lit 0) (.var 7) (.var 8)), (.int .i64 (.var 9))], 26⟩] [⟨[(.sl 6 (.lit 0) (.var 7) (.var 8)), (.int .i64 (.var 9))], 26⟩]
   (.ite (.cmp .lss (.var 16) (.var 4))
    (.chk (.pick (.cmp .geq (.var 16) (.lit 0)) (.pick (.cmp .lss (.var 16) (.var 4)) (.some 3) (.lit false)) (.lit false))
    (.load 3 (.off (.var 16) 1 (.lit 0)) [.sl] [⟨[(.sl 6 (.lit 0) (.var 7) (.var 8)), (.int .i64 (.var 9))], 26⟩]
    (.call false 81 [(.sl 17 (.lit 0) (.var 18) (.var 19))] .sl [⟨[(.sl 6 (.lit 0) (.var 7) (.var 8)), (.int .i64 (.var 9))], 26⟩]
    (.chk (.pick (.cmp .geq (.var 16) (.lit 0)) (.pick (.cmp .lss (.var 16) (.var 14)) (.some 13) (.lit false)) (.lit false))
    (.store false 13 (.off (.var 16) 1 (.lit 0)) [(.sl 20 (.lit 0) (.var 21) (.var 22))] [⟨[(.sl 6 (.lit 0) (.var 7) (.var 8)), (.int .i64 (.var 9))], 26⟩]
    (.again 0 1 [(.int .i64)] [(.int .i64 (.bin .add .i64 (.var 16) (.lit 1)))] [⟨[(.sl 6 (.lit 0) (.var 7) (.var 8)), (.int .i64 (.var 9))], 26⟩]))))))
    (.loop 0 [(.int .i64), .sl, .bool] [(.int .i64 (.var 10)), (.sl 13 (.lit 0) (.var 14) (.var 15)), (.bool (.lit true))] [⟨[(.sl 6 (.lit 0) (.var 7) (.var 8)), (.int .i64 (.var 9))], 26⟩] [⟨[(.sl 6 (.lit 0) (.var 7) (.var 8)), (.int .i64 (.var 9))], 26⟩]
     (.ite (.var 21)
      (.chk (.cmp .geq (.var 1) (.lit 0))
      (.loop 1 [(.int .i64), .sl, .bool, (.int .i64)] [(.int .i64 (.var 17)), (.sl 18 (.lit 0) (.var 19) (.var 20)), (.bool (.lit false)), (.int .i64 (.lit 0))] [⟨[(.sl 6 (.lit 0) (.var 7) (.var 8)), (.int .i64 (.var 9))], 26⟩] [⟨[(.sl 6 (.lit 0) (.var 7) (.var 8)), (.int .i64 (.var 9))], 26⟩]
       (.ite (.cmp .lss (.var 27) (.var 1))
        (.call false 72 [(.sl 23 (.lit 0) (.var 24) (.var 25)), (.int .i64 (.var 27))] .sl [⟨[(.sl 6 (.lit 0) (.var 7) (.var 8)), (.int .i64 (.var 9))], 26⟩]
        (.call false 57 [(.sl 0 (.lit 0) (.var 1) (.var 2)), (.sl 28 (.lit 0) (.var 29) (.var 30)), (.int .i64 (.var 27)), (.val 12)] .sl [⟨[(.sl 6 (.lit 0) (.var 7) (.var 8)), (.int .i64 (.var 9))], 26⟩]
        (.call false 49 [(.sl 31 (.lit 0) (.var 32) (.var 33)), (.val 12)] (.int .i64) [⟨[(.sl 6 (.lit 0) (.var 7) (.var 8)), (.int .i64 (.var 9))], 26⟩]
        (.ite (.cmp .lss (.var 34) (.var 22))
         (.again 1 1 [(.int .i64), .sl, .bool, (.int .i64)] [(.int .i64 (.var 34)), (.sl 31 (.lit 0) (.var 32) (.var 33)), (.bool (.lit true)), (.int .i64 (.bin .add .i64 (.var 27) (.lit 1)))] [⟨[(.sl 6 (.lit 0) (.var 7) (.var 8)), (.int .i64 (.var 9))], 26⟩])
         (.again 1 1 [(.int .i64), .sl, .bool, (.int .i64)] [(.int .i64 (.var 22)), (.sl 23 (.lit 0) (.var 24) (.var 25)), (.bool (.var 26)), (.int .i64 (.bin .add .i64 (.var 27) (.lit 1)))] [⟨[(.sl 6 (.lit 0) (.var 7) (.var 8)), (.int .i64 (.var 9))], 26⟩])))))
        (.again 0 1 [(.int .i64), .sl, .bool] [(.int .i64 (.var 22)), (.sl 23 (.lit 0) (.var 24) (.var 25)), (.bool (.var 26))] [⟨[(.sl 6 (.lit 0) (.var 7) (.var 8)), (.int .i64 (.var 9))], 26⟩]))))
      (.ret (.tup [(.sl 18 (.lit 0) (.var 19) (.var 20)), (.int .i64 (.lit 0))]) [⟨[(.sl 6 (.lit 0) (.var 7) (.var 8)), (.int .i64 (.var 9))], 26⟩]))))))))))))
theorem S_multi_Refine : FnIs Tryd.prog n_multi_Refine [.sl, .sl, (.agg [.sl, (.int .i64)])] T_multi_Refine := ⟨Tryd.f33, [], 4000, Tryd.func33, by kernel_rfl⟩
/-! 34 ablaut/ablautref18.Refine  -/
abbrev n_ref18_Refine : FuncId := 34
def T_ref18_Refine : Tree :=
 (.alloc
 (.call false 51 [(.agg [(.sl 6 (.lit 0) (.var 7) (.var 8)), (.int .i64 (.var 9))])] (.int .i64) [⟨[(.sl 6 (.lit 0) (.var 7) (.var 8)), (.int .i64 (.var 9))], 26⟩]
 (.ite (.cmp .eql (.var 10) (.lit 0))
  (.call false 52 [(.sl 0 (.lit 0) (.var 1) (.var 2)), (.sl 3 (.lit 0) (.var 4) (.var 5))] (.int .i64) [⟨[(.sl 6 (.lit 0) (.var 7) (.var 8)), (.int .i64 (.var 9))], 26⟩]
  (.ite (.cmp .neq (.var 11) (.lit 0))
   (.ret (.tup [(.cst (.slice none 0 0)), (.int .i64 (.var 11))]) [⟨[(.sl 6 (.lit 0) (.var 7) (.var 8)), (.int .i64 (.var 9))], 26⟩])
   (.call false 82 [(.sl 3 (.lit 0) (.var 4) (.var 5))] .sl [⟨[(.sl 6 (.lit 0) (.var 7) (.var 8)), (.int .i64 (.var 9))], 26⟩]
   (.loop 0 [.sl, .sl, (.int .i64)] [(.sl 12 (.lit 0) (.var 13) (.var 14)), (.cst (.slice none 0 0)), (.int .i64 (.lit 0))] [⟨[(.sl 6 (.lit 0) (.var 7) (.var 8)), (.int .i64 (.var 9))], 26⟩] [⟨[(.sl 6 (.lit 0) (.var 7) (.var 8)), (.int .i64 (.var 9))], 26⟩]
    (.loop 1 [.sl, .bool, (.int .i64)] [(.sl 15 (.lit 0) (.var 16) (.var 17)), (.bool (.lit false)), (.int .i64 (.lit 0))] [⟨[(.sl 6 (.lit 0) (.var 7) (.var 8)), (.int .i64 (.var 9))], 26⟩] [⟨[(.sl 6 (.lit 0) (.var 7) (.var 8)), (.int .i64 (.var 9))], 26⟩]
     (.chk (.cmp .geq (.var 1) (.lit 0))
     (.ite (.cmp .lss (.var 26) (.var 1))
      (.call false 83 [(.sl 22 (.lit 0) (.var 23) (.var 24)), (.int .i64 (.var 26))] .sl [⟨[(.sl 6 (.lit 0) (.var 7) (.var 8)), (.int .i64 (.var 9))], 26⟩]
      (.call false 59 [(.sl 0 (.lit 0) (.var 1) (.var 2)), (.sl 27 (.lit 0) (.var 28) (.var 29)), (.int .i64 (.var 26)), (.agg [(.sl 6 (.lit 0) (.var 7) (.var 8)), (.int .i64 (.var 9))])] .sl [⟨[(.sl 6 (.lit 0) (.var 7) (.var 8)), (.int .i64 (.var 9))], 26⟩]
      (.call false 53 [(.sl 0 (.lit 0) (.var 1) (.var 2)), (.sl 30 (.lit 0) (.var 31) (.var 32)), (.agg [(.sl 6 (.lit 0) (.var 7) (.var 8)), (.int .i64 (.var 9))])] (.int .i64) [⟨[(.sl 6 (.lit 0) (.var 7) (.var 8)), (.int .i64 (.var 9))], 26⟩]
      (.call false 53 [(.sl 0 (.lit 0) (.var 1) (.var 2)), (.sl 22 (.lit 0) (.var 23) (.var 24)), (.agg [(.sl 6 (.lit 0) (.var 7) (.var 8)), (.int .i64 (.var 9))])] (.int .i64) [⟨[(.sl 6 (.lit 0) (.var 7) (.var 8)), (.int .i64 (.var 9))], 26⟩]
      (.ite (.cmp .lss (.var 33) (.var 34))
       (.again 1 1 [.sl, .bool, (.int .i64)] [(.sl 30 (.lit 0) (.var 31) (.var 32)), (.bool (.lit true)), (.int .i64 (.bin .add .i64 (.var 26) (.lit 1)))] [⟨[(.sl 6 (.lit 0) (.var 7) (.var 8)), (.int .i64 (.var 9))], 26⟩])
       (.again 1 1 [.sl, .bool, (.int .i64)] [(.sl 22 (.lit 0) (.var 23) (.var 24)), (.bool (.var 25)), (.int .i64 (.bin .add .i64 (.var 26) (.lit 1)))] [⟨[(.sl 6 (.lit 0) (.var 7) (.var 8)), (.int .i64 (.var 9))], 26⟩]))))))
      (.ite (.not (.var 25))
       (.ret (.tup [(.sl 22 (.lit 0) (.var 23) (.var 24)), (.int .i64 (.lit 0))]) [⟨[(.sl 6 (.lit 0) (.var 7) (.var 8)), (.int .i64 (.var 9))], 26⟩])
       (.again 0 1 [.sl, .sl, (.int .i64)] [(.sl 22 (.lit 0) (.var 23) (.var 24)), (.sl 18 (.lit 0) (.var 19) (.var 20)), (.int .i64 (.var 21))] [⟨[(.sl 6 (.lit 0) (.var 7) (.var 8)), (.int .i64 (.var 9))], 26⟩])))))))))
  (.ite (.cmp .neq (.var 10) (.lit 0))
   (.ret (.tup [(.cst (.slice none 0 0)), (.int .i64 (.var 10))]) [⟨[(.sl 6 (.lit 0) (.var 7) (.var 8)), (.int .i64 (.var 9))], 26⟩])
   (.call false 82 [(.sl 3 (.lit 0) (.var 4) (.var 5))] .sl [⟨[(.sl 6 (.lit 0) (.var 7) (.var 8)), (.int .i64 (.var 9))], 26⟩]
   (.loop 0 [.sl, .sl, (.int .i64)] [(.sl 11 (.lit 0) (.var 12) (.var 13)), (.cst (.slice none 0 0)), (.int .i64 (.lit 0))] [⟨[(.sl 6 (.lit 0) (.var 7) (.var 8)), (.int .i64 (.var 9))], 26⟩] [⟨[(.sl 6 (.lit 0) (.var 7) (.var 8)), (.int .i64 (.var 9))], 26⟩]
    (.loop 1 [.sl, .bool, (.int .i64)] [(.sl 14 (.lit 0) (.var 15) (.var 16)), (.bool (.lit false)), (.int .i64 (.lit 0))] [⟨[(.sl 6 (.lit 0) (.var 7) (.var 8)), (.int .i64 (.var 9))], 26⟩] [⟨[(.sl 6 (.lit 0) (.var 7) (.var 8)), (.int .i64 (.var 9))], 26⟩]
     (.chk (.cmp .geq (.var 1) (.lit 0))
     (.ite (.cmp .lss (.var 25) (.var 1))
      (.call false 83 [(.sl 21 (.lit 0) (.var 22) (.var 23)), (.int .i64 (.var 25))] .sl [⟨[(.sl 6 (.lit 0) (.var 7) (.var 8)), (.int .i64 (.var 9))], 26⟩]
      (.call false 59 [(.sl 0 (.lit 0) (.var 1) (.var 2)), (.sl 26 (.lit 0) (.var 27) (.var 28)), (.int .i64 (.var 25)), (.agg [(.sl 6 (.lit 0) (.var 7) (.var 8)), (.int .i64 (.var 9))])] .sl [⟨[(.sl 6 (.lit 0) (.var 7) (.var 8)), (.int .i64 (.var 9))], 26⟩]
      (.call false 53 [(.sl 0 (.lit 0) (.var 1) (.var 2)), (.sl 29 (.lit 0) (.var 30) (.var 31)), (.agg [(.sl 6 (.lit 0) (.var 7) (.var 8)), (.int .i64 (.var 9))])] (.int .i64) [⟨[(.sl 6 (.lit 0) (.var 7) (.var 8)), (.int .i64 (.var 9))], 26⟩]
      (.call false 53 [(.sl 0 (.lit 0) (.var 1) (.var 2)), (.sl 21 (.lit 0) (.var 22) (.var 23)), (.agg [(.sl 6 (.lit 0) (.var 7) (.var 8)), (.int .i64 (.var 9))])] (.int .i64) [⟨[(.sl 6 (.lit 0) (.var 7) (.var 8)), (.int .i64 (.var 9))], 26⟩]
      (.ite (.cmp .lss (.var 32) (.var 33))
       (.again 1 1 [.sl, .bool, (.int .i64)] [(.sl 29 (.lit 0) (.var 30) (.var 31)), (.bool (.lit true)), (.int .i64 (.bin .add .i64 (.var 25) (.lit 1)))] [⟨[(.sl 6 (.lit 0) (.var 7) (.var 8)), (.int .i64 (.var 9))], 26⟩])
       (.again 1 1 [.sl, .bool, (.int .i64)] [(.sl 21 (.lit 0) (.var 22) (.var 23)), (.bool (.var 24)), (.int .i64 (.bin .add .i64 (.var 25) (.lit 1)))] [⟨[(.sl 6 (.lit 0) (.var 7) (.var 8)), (.int .i64 (.var 9))], 26⟩]))))))
      (.ite (.not (.var 24))
       (.ret (.tup [(.sl 21 (.lit 0) (.var 22) (.var 23)), (.int .i64 (.lit 0))]) [⟨[(.sl 6 (.lit 0) (.var 7) (.var 8)), (.int .i64 (.var 9))], 26⟩])
       (.again 0 1 [.sl, .sl, (.int .i64)] [(.sl 21 (.lit 0) (.var 22) (.var 23)), (.sl 17 (.lit 0) (.var 18) (.var 19)), (.int .i64 (.var 20))] [⟨[(.sl 6 (.lit 0) (.var 7) (.var 8)), (.int .i64 (.var 9))], 26⟩])))))))))))
theorem S_ref18_Refine : FnIs Tryd.prog n_ref18_Refine [.sl, .sl, (.agg [.sl, (.int .i64)])] T_ref18_Refine := ⟨Tryd.f34, [], 4000, Tryd.func34, by kernel_rfl⟩
/-! 73 ablaut/multi.Add$1  -/
/-! 74 ablaut/multi.Add$2  -/
/-! 75 ablaut/multi.Add$3  -/
/-! 76 ablaut/multi.Add$4  -/
/-! 77 slices.Clone[[][]ablaut/api.Sound,[]ablaut/api.Sound]  -/
/-! 82 ablaut/ablautref18.copied  -/
abbrev n_ref18_copied : FuncId := 82
def T_ref18_copied : Tree :=
 (.loop 0 [.sl, (.int .i64)] [(.cst (.slice none 0 0)), (.int .i64 (.lit 0))] [] []
  (.chk (.cmp .geq (.var 1) (.lit 0))
  (.ite (.cmp .lss (.var 6) (.var 1))
   (.alloc
   (.chk (.pick (.cmp .geq (.var 6) (.lit 0)) (.pick (.cmp .lss (.var 6) (.var 1)) (.some 0) (.lit false)) (.lit false))
   (.load 0 (.off (.var 6) 1 (.lit 0)) [.sl] [⟨[], 3⟩]
   (.ext false ⟨(.call ⟨.builtin .append, #[(.tmp 0), (.tmp 0)], #[49, 49]⟩), 49, [(.slc 0 0 0 0), (.sl 7 (.lit 0) (.var 8) (.var 9))]⟩ .sl [⟨[], 3⟩]
   (.alloc
   (.ext false ⟨(.call ⟨.builtin .append, #[(.tmp 0), (.tmp 0)], #[23, 23]⟩), 23, [(.sl 3 (.lit 0) (.var 4) (.var 5)), (.slc 1 0 1 1)]⟩ .sl [⟨[], 3⟩, ⟨[(.sl 10 (.lit 0) (.var 11) (.var 12))], 49⟩]
   (.again 0 0 [.sl, (.int .i64)] [(.sl 13 (.lit 0) (.var 14) (.var 15)), (.int .i64 (.bin .add .i64 (.var 6) (.lit 1)))] [⟨[], 3⟩, ⟨[(.sl 10 (.lit 0) (.var 11) (.var 12))], 49⟩])))))))
   (.ret (.sl 3 (.lit 0) (.var 4) (.var 5)) []))))
theorem S_ref18_copied : FnIs Tryd.prog n_ref18_copied [.sl] T_ref18_copied := ⟨Tryd.f82, [], 4000, Tryd.func82, by kernel_rfl⟩
end Go.Proofs.YtialbhieaipcgaaDoor
