/- The trees of this seat's functions, printed by a program of mine (SyGen), checked here by the kernel. -/
import Derived.Test.YtialbhieaipcgaaDoorSyDef
import Derived.Test.YtialbhieaipcgaaDoorProg
import Derived.KernelRfl
set_option maxRecDepth 100000
namespace Go.Proofs.YtialbhieaipcgaaDoor
open Go Go.Sy
/-! 18 ablaut/ablautref18.Score  -/
/-! 22 ablaut/ablautref18.Same  -/
abbrev n_ref18_Same : FuncId := 22
def T_ref18_Same : Tree :=
 (.chk (.cmp .geq (.var 1) (.lit 0))
 (.chk (.cmp .geq (.var 4) (.lit 0))
 (.ite (.cmp .neq (.var 1) (.var 4))
  (.ret (.bool (.lit false)) [])
  (.loop 0 [.bool, (.int .i64)] [(.bool (.lit false)), (.int .i64 (.lit 0))] [] []
   (.chk (.cmp .geq (.var 1) (.lit 0))
   (.ite (.cmp .lss (.var 7) (.var 1))
    (.chk (.pick (.cmp .geq (.var 7) (.lit 0)) (.pick (.cmp .lss (.var 7) (.var 1)) (.some 0) (.lit false)) (.lit false))
    (.load 0 (.off (.var 7) 1 (.lit 0)) [.sl] []
    (.chk (.cmp .geq (.var 9) (.lit 0))
    (.chk (.pick (.cmp .geq (.var 7) (.lit 0)) (.pick (.cmp .lss (.var 7) (.var 4)) (.some 3) (.lit false)) (.lit false))
    (.load 3 (.off (.var 7) 1 (.lit 0)) [.sl] []
    (.chk (.cmp .geq (.var 12) (.lit 0))
    (.ite (.cmp .neq (.var 9) (.var 12))
     (.ret (.bool (.lit false)) [])
     (.loop 1 [.bool, (.int .i64)] [(.bool (.var 6)), (.int .i64 (.lit 0))] [] []
      (.chk (.pick (.cmp .geq (.var 7) (.lit 0)) (.pick (.cmp .lss (.var 7) (.var 1)) (.some 0) (.lit false)) (.lit false))
      (.load 0 (.off (.var 7) 1 (.lit 0)) [.sl] []
      (.chk (.cmp .geq (.var 17) (.lit 0))
      (.ite (.cmp .lss (.var 15) (.var 17))
       (.chk (.pick (.cmp .geq (.var 7) (.lit 0)) (.pick (.cmp .lss (.var 7) (.var 1)) (.some 0) (.lit false)) (.lit false))
       (.load 0 (.off (.var 7) 1 (.lit 0)) [.sl] []
       (.chk (.pick (.cmp .geq (.var 15) (.lit 0)) (.pick (.cmp .lss (.var 15) (.var 20)) (.some 19) (.lit false)) (.lit false))
       (.load 19 (.off (.var 15) 1 (.lit 0)) [(.int .i64)] []
       (.chk (.pick (.cmp .geq (.var 7) (.lit 0)) (.pick (.cmp .lss (.var 7) (.var 4)) (.some 3) (.lit false)) (.lit false))
       (.load 3 (.off (.var 7) 1 (.lit 0)) [.sl] []
       (.chk (.pick (.cmp .geq (.var 15) (.lit 0)) (.pick (.cmp .lss (.var 15) (.var 24)) (.some 23) (.lit false)) (.lit false))
       (.load 23 (.off (.var 15) 1 (.lit 0)) [(.int .i64)] []
       (.ite (.cmp .neq (.var 22) (.var 26))
        (.ret (.bool (.lit false)) [])
        (.again 1 0 [.bool, (.int .i64)] [(.bool (.var 14)), (.int .i64 (.bin .add .i64 (.var 15) (.lit 1)))] []))))))))))
       (.again 0 0 [.bool, (.int .i64)] [(.bool (.var 14)), (.int .i64 (.bin .add .i64 (.var 7) (.lit 1)))] [])))))))))))))
    (.ret (.bool (.lit true)) [])))))))
theorem S_ref18_Same : FnIs Tryd.prog n_ref18_Same [.sl, .sl] T_ref18_Same := ⟨Tryd.f22, [], 4000, Tryd.func22, by kernel_rfl⟩
/-! 36 ablaut/ablautref18.Row  -/
/-! 38 ablaut/ablautref18.Cells  -/
/-! 39 ablaut/ablautref18.Without  -/
/-! 40 ablaut/ablautref18.Check  -/
/-! 52 ablaut/ablautref18.check  -/
/-! 53 ablaut/ablautref18.cost  -/
/-! 58 ablaut/ablautref18.words  -/
abbrev n_ref18_words : FuncId := 58
def T_ref18_words : Tree :=
 (.chk (.cmp .geq (.var 1) (.lit 0))
 (.ite (.cmp .gtr (.var 1) (.var 3))
  (.ret (.int .i64 (.lit 12)) [])
  (.loop 0 [(.int .i64), (.int .i64)] [(.int .i64 (.lit 0)), (.int .i64 (.lit 0))] [] []
   (.chk (.cmp .geq (.var 1) (.lit 0))
   (.ite (.cmp .lss (.var 5) (.var 1))
    (.chk (.pick (.cmp .geq (.var 5) (.lit 0)) (.pick (.cmp .lss (.var 5) (.var 1)) (.some 0) (.lit false)) (.lit false))
    (.load 0 (.off (.var 5) 1 (.lit 0)) [.sl] []
    (.call false 78 [(.sl 6 (.lit 0) (.var 7) (.var 8))] (.int .i64) []
    (.ite (.cmp .neq (.var 9) (.lit 0))
     (.ret (.int .i64 (.var 9)) [])
     (.again 0 0 [(.int .i64), (.int .i64)] [(.int .i64 (.var 4)), (.int .i64 (.bin .add .i64 (.var 5) (.lit 1)))] [])))))
    (.ret (.int .i64 (.lit 0)) []))))))
theorem S_ref18_words : FnIs Tryd.prog n_ref18_words [.sl, (.int .i64)] T_ref18_words := ⟨Tryd.f58, [], 4000, Tryd.func58, by kernel_rfl⟩
/-! 68 ablaut/ablautref18.column  -/
abbrev n_ref18_column : FuncId := 68
def T_ref18_column : Tree :=
 (.alloc
 (.loop 0 [(.int .i64), (.int .i64)] [(.int .i64 (.lit 0)), (.int .i64 (.lit 0))] [⟨[(.sl 6 (.lit 0) (.var 7) (.var 8)), (.int .i64 (.var 9))], 26⟩] [⟨[(.sl 6 (.lit 0) (.var 7) (.var 8)), (.int .i64 (.var 9))], 26⟩]
  (.chk (.cmp .geq (.var 1) (.lit 0))
  (.ite (.cmp .lss (.var 11) (.var 1))
   (.loop 1 [(.int .i64), (.int .i64)] [(.int .i64 (.var 10)), (.int .i64 (.bin .add .i64 (.var 11) (.lit 1)))] [⟨[(.sl 6 (.lit 0) (.var 7) (.var 8)), (.int .i64 (.var 9))], 26⟩] [⟨[(.sl 6 (.lit 0) (.var 7) (.var 8)), (.int .i64 (.var 9))], 26⟩]
    (.chk (.cmp .geq (.var 1) (.lit 0))
    (.ite (.cmp .lss (.var 13) (.var 1))
     (.chk (.pick (.cmp .geq (.var 11) (.lit 0)) (.pick (.cmp .lss (.var 11) (.var 1)) (.some 0) (.lit false)) (.lit false))
     (.load 0 (.off (.var 11) 1 (.lit 0)) [.sl] [⟨[(.sl 6 (.lit 0) (.var 7) (.var 8)), (.int .i64 (.var 9))], 26⟩]
     (.chk (.pick (.cmp .geq (.var 13) (.lit 0)) (.pick (.cmp .lss (.var 13) (.var 1)) (.some 0) (.lit false)) (.lit false))
     (.load 0 (.off (.var 13) 1 (.lit 0)) [.sl] [⟨[(.sl 6 (.lit 0) (.var 7) (.var 8)), (.int .i64 (.var 9))], 26⟩]
     (.chk (.pick (.cmp .geq (.var 11) (.lit 0)) (.pick (.cmp .lss (.var 11) (.var 4)) (.some 3) (.lit false)) (.lit false))
     (.load 3 (.off (.var 11) 1 (.lit 0)) [(.int .i64)] [⟨[(.sl 6 (.lit 0) (.var 7) (.var 8)), (.int .i64 (.var 9))], 26⟩]
     (.chk (.pick (.cmp .geq (.var 13) (.lit 0)) (.pick (.cmp .lss (.var 13) (.var 4)) (.some 3) (.lit false)) (.lit false))
     (.load 3 (.off (.var 13) 1 (.lit 0)) [(.int .i64)] [⟨[(.sl 6 (.lit 0) (.var 7) (.var 8)), (.int .i64 (.var 9))], 26⟩]
     (.call false 92 [(.sl 14 (.lit 0) (.var 15) (.var 16)), (.sl 17 (.lit 0) (.var 18) (.var 19)), (.int .i64 (.var 20)), (.int .i64 (.var 21)), (.agg [(.sl 6 (.lit 0) (.var 7) (.var 8)), (.int .i64 (.var 9))])] (.int .i64) [⟨[(.sl 6 (.lit 0) (.var 7) (.var 8)), (.int .i64 (.var 9))], 26⟩]
     (.again 1 1 [(.int .i64), (.int .i64)] [(.int .i64 (.bin .add .i64 (.var 12) (.var 22))), (.int .i64 (.bin .add .i64 (.var 13) (.lit 1)))] [⟨[(.sl 6 (.lit 0) (.var 7) (.var 8)), (.int .i64 (.var 9))], 26⟩]))))))))))
     (.again 0 1 [(.int .i64), (.int .i64)] [(.int .i64 (.var 12)), (.int .i64 (.bin .add .i64 (.var 11) (.lit 1)))] [⟨[(.sl 6 (.lit 0) (.var 7) (.var 8)), (.int .i64 (.var 9))], 26⟩]))))
   (.ret (.int .i64 (.var 10)) [⟨[(.sl 6 (.lit 0) (.var 7) (.var 8)), (.int .i64 (.var 9))], 26⟩])))))
theorem S_ref18_column : FnIs Tryd.prog n_ref18_column [.sl, .sl, (.agg [.sl, (.int .i64)])] T_ref18_column := ⟨Tryd.f68, [], 4000, Tryd.func68, by kernel_rfl⟩
/-! 79 ablaut/ablautref18.Is  -/
abbrev n_ref18_Is : FuncId := 79
def T_ref18_Is : Tree :=
 (.loop 0 [.bool, (.int .i64)] [(.bool (.lit false)), (.int .i64 (.lit 0))] [] []
  (.chk (.cmp .geq (.var 4) (.lit 0))
  (.ite (.cmp .lss (.var 7) (.var 4))
   (.chk (.pick (.cmp .geq (.var 7) (.lit 0)) (.pick (.cmp .lss (.var 7) (.var 4)) (.some 3) (.lit false)) (.lit false))
   (.load 3 (.off (.var 7) 1 (.lit 0)) [.sl] []
   (.chk (.cmp .geq (.var 9) (.lit 0))
   (.chk (.cmp .geq (.var 1) (.lit 0))
   (.ite (.cmp .neq (.var 9) (.var 1))
    (.ret (.bool (.lit false)) [])
    (.loop 1 [(.int .i64), (.int .i64)] [(.int .i64 (.lit 0)), (.int .i64 (.lit 0))] [] []
     (.chk (.cmp .geq (.var 1) (.lit 0))
     (.ite (.cmp .lss (.var 12) (.var 1))
      (.chk (.pick (.cmp .geq (.var 7) (.lit 0)) (.pick (.cmp .lss (.var 7) (.var 4)) (.some 3) (.lit false)) (.lit false))
      (.load 3 (.off (.var 7) 1 (.lit 0)) [.sl] []
      (.chk (.pick (.cmp .geq (.var 12) (.lit 0)) (.pick (.cmp .lss (.var 12) (.var 14)) (.some 13) (.lit false)) (.lit false))
      (.load 13 (.off (.var 12) 1 (.lit 0)) [(.int .i64)] []
      (.ite (.cmp .neq (.var 16) (.lit (-1)))
       (.again 1 0 [(.int .i64), (.int .i64)] [(.int .i64 (.bin .add .i64 (.var 11) (.lit 1))), (.int .i64 (.bin .add .i64 (.var 12) (.lit 1)))] [])
       (.again 1 0 [(.int .i64), (.int .i64)] [(.int .i64 (.var 11)), (.int .i64 (.bin .add .i64 (.var 12) (.lit 1)))] []))))))
      (.ite (.cmp .eql (.var 11) (.lit 0))
       (.ret (.bool (.lit false)) [])
       (.again 0 0 [.bool, (.int .i64)] [(.bool (.var 6)), (.int .i64 (.bin .add .i64 (.var 7) (.lit 1)))] []))))))))))
   (.loop 0 [.bool, (.int .i64)] [(.bool (.var 6)), (.int .i64 (.lit 0))] [] []
    (.chk (.cmp .geq (.var 1) (.lit 0))
    (.ite (.cmp .lss (.var 9) (.var 1))
     (.loop 1 [.bool, (.int .i64), (.int .i64)] [(.bool (.var 8)), (.int .i64 (.lit 0)), (.int .i64 (.lit 0))] [] []
      (.chk (.cmp .geq (.var 4) (.lit 0))
      (.ite (.cmp .lss (.var 12) (.var 4))
       (.chk (.pick (.cmp .geq (.var 12) (.lit 0)) (.pick (.cmp .lss (.var 12) (.var 4)) (.some 3) (.lit false)) (.lit false))
       (.load 3 (.off (.var 12) 1 (.lit 0)) [.sl] []
       (.chk (.pick (.cmp .geq (.var 9) (.lit 0)) (.pick (.cmp .lss (.var 9) (.var 14)) (.some 13) (.lit false)) (.lit false))
       (.load 13 (.off (.var 9) 1 (.lit 0)) [(.int .i64)] []
       (.ite (.cmp .eql (.var 16) (.lit (-1)))
        (.again 1 0 [.bool, (.int .i64), (.int .i64)] [(.bool (.var 10)), (.int .i64 (.var 11)), (.int .i64 (.bin .add .i64 (.var 12) (.lit 1)))] [])
        (.chk (.pick (.cmp .geq (.var 12) (.lit 0)) (.pick (.cmp .lss (.var 12) (.var 4)) (.some 3) (.lit false)) (.lit false))
        (.load 3 (.off (.var 12) 1 (.lit 0)) [.sl] []
        (.chk (.pick (.cmp .geq (.var 9) (.lit 0)) (.pick (.cmp .lss (.var 9) (.var 18)) (.some 17) (.lit false)) (.lit false))
        (.load 17 (.off (.var 9) 1 (.lit 0)) [(.int .i64)] []
        (.ite (.cmp .neq (.var 20) (.var 11))
         (.ret (.bool (.lit false)) [])
         (.again 1 0 [.bool, (.int .i64), (.int .i64)] [(.bool (.var 10)), (.int .i64 (.bin .add .i64 (.var 11) (.lit 1))), (.int .i64 (.bin .add .i64 (.var 12) (.lit 1)))] [])))))))))))
       (.chk (.pick (.cmp .geq (.var 9) (.lit 0)) (.pick (.cmp .lss (.var 9) (.var 1)) (.some 0) (.lit false)) (.lit false))
       (.load 0 (.off (.var 9) 1 (.lit 0)) [.sl] []
       (.chk (.cmp .geq (.var 14) (.lit 0))
       (.ite (.cmp .neq (.var 11) (.var 14))
        (.ret (.bool (.lit false)) [])
        (.again 0 0 [.bool, (.int .i64)] [(.bool (.var 10)), (.int .i64 (.bin .add .i64 (.var 9) (.lit 1)))] []))))))))
     (.ret (.bool (.lit true)) [])))))))
theorem S_ref18_Is : FnIs Tryd.prog n_ref18_Is [.sl, .sl] T_ref18_Is := ⟨Tryd.f79, [], 4000, Tryd.func79, by kernel_rfl⟩
/-! 83 ablaut/ablautref18.without  -/
/-! 92 ablaut/ablautref18.two  -/
abbrev n_ref18_two : FuncId := 92
def T_ref18_two : Tree :=
 (.alloc
 (.ite (.pick (.cmp .lss (.var 6) (.lit 0)) (.cmp .lss (.var 7) (.lit 0)) (.lit false))
  (.ret (.int .i64 (.lit 0)) [⟨[(.sl 8 (.lit 0) (.var 9) (.var 10)), (.int .i64 (.var 11))], 26⟩])
  (.ite (.pick (.cmp .lss (.var 6) (.lit 0)) (.lit true) (.cmp .lss (.var 7) (.lit 0)))
   (.ret (.int .i64 (.var 11)) [⟨[(.sl 8 (.lit 0) (.var 9) (.var 10)), (.int .i64 (.var 11))], 26⟩])
   (.chk (.pick (.cmp .geq (.var 6) (.lit 0)) (.pick (.cmp .lss (.var 6) (.var 1)) (.some 0) (.lit false)) (.lit false))
   (.load 0 (.off (.var 6) 2 (.lit 0)) [(.int .u32), (.int .u32)] [⟨[(.sl 8 (.lit 0) (.var 9) (.var 10)), (.int .i64 (.var 11))], 26⟩]
   (.chk (.pick (.cmp .geq (.var 7) (.lit 0)) (.pick (.cmp .lss (.var 7) (.var 4)) (.some 3) (.lit false)) (.lit false))
   (.load 3 (.off (.var 7) 2 (.lit 0)) [(.int .u32), (.int .u32)] [⟨[(.sl 8 (.lit 0) (.var 9) (.var 10)), (.int .i64 (.var 11))], 26⟩]
   (.call false 106 [(.agg [(.int .u32 (.var 12)), (.int .u32 (.var 13))]), (.agg [(.int .u32 (.var 14)), (.int .u32 (.var 15))]), (.agg [(.sl 8 (.lit 0) (.var 9) (.var 10)), (.int .i64 (.var 11))])] (.tup [(.int .i64), (.int .i64)]) [⟨[(.sl 8 (.lit 0) (.var 9) (.var 10)), (.int .i64 (.var 11))], 26⟩]
   (.ret (.int .i64 (.var 16)) [⟨[(.sl 8 (.lit 0) (.var 9) (.var 10)), (.int .i64 (.var 11))], 26⟩])))))))))
theorem S_ref18_two : FnIs Tryd.prog n_ref18_two [.sl, .sl, (.int .i64), (.int .i64), (.agg [.sl, (.int .i64)])] T_ref18_two := ⟨Tryd.f92, [], 4000, Tryd.func92, by kernel_rfl⟩
end Go.Proofs.YtialbhieaipcgaaDoor
