/- The trees of this seat's functions, printed by a program of mine (SyGen), checked here by the kernel. -/
import Derived.Test.YtpbbnmjkbfbelaaDoorSyDef
import Derived.Test.YtpbbnmjkbfbelaaDoorProg
import Derived.KernelRfl
set_option maxRecDepth 100000
namespace Go.Proofs.YtpbbnmjkbfbelaaDoor
open Go Go.Sy
/-! 17 ablaut/ablautref30.Solve  -/
abbrev n_ref30_Solve : FuncId := 17
def T_ref30_Solve : Tree :=
 (.alloc
 (.call false 44 [(.slc 0 0 3 3)] (.int .i64) [⟨[(.sl 0 (.lit 0) (.var 1) (.var 2)), (.sl 3 (.lit 0) (.var 4) (.var 5)), (.sl 6 (.lit 0) (.var 7) (.var 8))], 22⟩]
 (.ite (.cmp .neq (.var 9) (.lit 0))
  (.ret (.tup [(.cst (.slice none 0 0)), (.bool (.lit false)), (.int .i64 (.var 9))]) [⟨[(.sl 0 (.lit 0) (.var 1) (.var 2)), (.sl 3 (.lit 0) (.var 4) (.var 5)), (.sl 6 (.lit 0) (.var 7) (.var 8))], 22⟩])
  (.call false 45 [(.sl 0 (.lit 0) (.var 1) (.var 2)), (.sl 3 (.lit 0) (.var 4) (.var 5)), (.sl 6 (.lit 0) (.var 7) (.var 8))] (.tup [.sl, .bool]) [⟨[(.sl 0 (.lit 0) (.var 1) (.var 2)), (.sl 3 (.lit 0) (.var 4) (.var 5)), (.sl 6 (.lit 0) (.var 7) (.var 8))], 22⟩]
  (.chk (.cmp .geq (.var 11) (.lit 0))
  (.ite (.cmp .gtr (.var 11) (.lit 32))
   (.ret (.tup [(.cst (.slice none 0 0)), (.bool (.lit false)), (.int .i64 (.lit 11))]) [⟨[(.sl 0 (.lit 0) (.var 1) (.var 2)), (.sl 3 (.lit 0) (.var 4) (.var 5)), (.sl 6 (.lit 0) (.var 7) (.var 8))], 22⟩])
   (.ret (.tup [(.sl 10 (.lit 0) (.var 11) (.var 12)), (.bool (.var 13)), (.int .i64 (.lit 0))]) [⟨[(.sl 0 (.lit 0) (.var 1) (.var 2)), (.sl 3 (.lit 0) (.var 4) (.var 5)), (.sl 6 (.lit 0) (.var 7) (.var 8))], 22⟩])))))))
theorem S_ref30_Solve : FnIs Tryd.prog n_ref30_Solve [.sl, .sl, .sl] T_ref30_Solve := ⟨Tryd.f17, [], 4000, Tryd.func17, by kernel_rfl⟩
/-! 19 ablaut/ablautref30.Front  -/
abbrev n_ref30_Front : FuncId := 19
def T_ref30_Front : Tree :=
 (.alloc
 (.call false 44 [(.slc 0 0 3 3)] (.int .i64) [⟨[(.sl 0 (.lit 0) (.var 1) (.var 2)), (.sl 3 (.lit 0) (.var 4) (.var 5)), (.sl 6 (.lit 0) (.var 7) (.var 8))], 22⟩]
 (.ite (.cmp .neq (.var 9) (.lit 0))
  (.ret (.tup [(.cst (.slice none 0 0)), (.bool (.lit false)), (.int .i64 (.var 9))]) [⟨[(.sl 0 (.lit 0) (.var 1) (.var 2)), (.sl 3 (.lit 0) (.var 4) (.var 5)), (.sl 6 (.lit 0) (.var 7) (.var 8))], 22⟩])
  (.call false 46 [(.sl 0 (.lit 0) (.var 1) (.var 2)), (.sl 3 (.lit 0) (.var 4) (.var 5)), (.sl 6 (.lit 0) (.var 7) (.var 8))] (.tup [.sl, .bool]) [⟨[(.sl 0 (.lit 0) (.var 1) (.var 2)), (.sl 3 (.lit 0) (.var 4) (.var 5)), (.sl 6 (.lit 0) (.var 7) (.var 8))], 22⟩]
  (.chk (.cmp .geq (.var 11) (.lit 0))
  (.ite (.cmp .gtr (.var 11) (.lit 32))
   (.ret (.tup [(.cst (.slice none 0 0)), (.bool (.lit false)), (.int .i64 (.lit 11))]) [⟨[(.sl 0 (.lit 0) (.var 1) (.var 2)), (.sl 3 (.lit 0) (.var 4) (.var 5)), (.sl 6 (.lit 0) (.var 7) (.var 8))], 22⟩])
   (.ret (.tup [(.sl 10 (.lit 0) (.var 11) (.var 12)), (.bool (.var 13)), (.int .i64 (.lit 0))]) [⟨[(.sl 0 (.lit 0) (.var 1) (.var 2)), (.sl 3 (.lit 0) (.var 4) (.var 5)), (.sl 6 (.lit 0) (.var 7) (.var 8))], 22⟩])))))))
theorem S_ref30_Front : FnIs Tryd.prog n_ref30_Front [.sl, .sl, .sl] T_ref30_Front := ⟨Tryd.f19, [], 4000, Tryd.func19, by kernel_rfl⟩
/-! 23 ablaut/ablautref30.Extend  -/
abbrev n_ref30_Extend : FuncId := 23
def T_ref30_Extend : Tree :=
 (.alloc
 (.call false 52 [(.sl 0 (.lit 0) (.var 1) (.var 2)), (.slc 0 0 1 1)] (.int .i64) [⟨[(.sl 3 (.lit 0) (.var 4) (.var 5))], 22⟩]
 (.ite (.cmp .neq (.var 6) (.lit 0))
  (.ret (.tup [(.cst (.slice none 0 0)), (.int .i64 (.lit 0)), (.int .i64 (.var 6))]) [⟨[(.sl 3 (.lit 0) (.var 4) (.var 5))], 22⟩])
  (.loop 0 [.sl, (.int .i64), (.int .i64)] [(.cst (.slice none 0 0)), (.int .i64 (.lit 0)), (.int .i64 (.lit 0))] [⟨[(.sl 3 (.lit 0) (.var 4) (.var 5))], 22⟩] [⟨[(.sl 3 (.lit 0) (.var 4) (.var 5))], 22⟩]
   (.chk (.cmp .geq (.var 1) (.lit 0))
   (.ite (.cmp .lss (.var 11) (.var 1))
    (.loop 1 [.sl, (.int .i64), (.int .i64)] [(.sl 7 (.lit 0) (.var 8) (.var 9)), (.int .i64 (.var 10)), (.int .i64 (.lit 0))] [⟨[(.sl 3 (.lit 0) (.var 4) (.var 5))], 22⟩] [⟨[(.sl 3 (.lit 0) (.var 4) (.var 5))], 22⟩]
     (.ite (.cmp .lss (.var 16) (.lit 2))
      (.join 2 [.sl, (.int .i64)] [⟨[(.sl 3 (.lit 0) (.var 4) (.var 5))], 22⟩]
       (.chk (.pick (.cmp .geq (.var 11) (.lit 0)) (.pick (.cmp .lss (.var 11) (.var 1)) (.some 0) (.lit false)) (.lit false))
       (.chk (.pick (.cmp .geq (.off (.var 11) 2 (.lit 0)) (.lit 0)) (.some 0) (.lit false))
       (.load 0 (.off (.var 11) 2 (.lit 0)) [.sl] [⟨[(.sl 3 (.lit 0) (.var 4) (.var 5))], 22⟩]
       (.chk (.pick (.cmp .geq (.var 11) (.lit 0)) (.pick (.cmp .lss (.var 11) (.var 1)) (.some 0) (.lit false)) (.lit false))
       (.chk (.pick (.cmp .geq (.off (.var 11) 2 (.lit 0)) (.lit 0)) (.some 0) (.lit false))
       (.load 0 (.off (.lit 1) 1 (.off (.var 11) 2 (.lit 0))) [.sl] [⟨[(.sl 3 (.lit 0) (.var 4) (.var 5))], 22⟩]
       (.call false 45 [(.sl 17 (.lit 0) (.var 18) (.var 19)), (.sl 20 (.lit 0) (.var 21) (.var 22)), (.sl 3 (.lit 0) (.var 4) (.var 5))] (.tup [.sl, .bool]) [⟨[(.sl 3 (.lit 0) (.var 4) (.var 5))], 22⟩]
       (.join 3 [.sl, .bool] [⟨[(.sl 3 (.lit 0) (.var 4) (.var 5))], 22⟩]
        (.ite (.cmp .eql (.var 16) (.lit 1))
         (.chk (.pick (.cmp .geq (.var 11) (.lit 0)) (.pick (.cmp .lss (.var 11) (.var 1)) (.some 0) (.lit false)) (.lit false))
         (.chk (.pick (.cmp .geq (.off (.var 11) 2 (.lit 0)) (.lit 0)) (.some 0) (.lit false))
         (.load 0 (.off (.var 11) 2 (.lit 0)) [.sl] [⟨[(.sl 3 (.lit 0) (.var 4) (.var 5))], 22⟩]
         (.chk (.pick (.cmp .geq (.var 11) (.lit 0)) (.pick (.cmp .lss (.var 11) (.var 1)) (.some 0) (.lit false)) (.lit false))
         (.chk (.pick (.cmp .geq (.off (.var 11) 2 (.lit 0)) (.lit 0)) (.some 0) (.lit false))
         (.load 0 (.off (.lit 1) 1 (.off (.var 11) 2 (.lit 0))) [.sl] [⟨[(.sl 3 (.lit 0) (.var 4) (.var 5))], 22⟩]
         (.call false 46 [(.sl 27 (.lit 0) (.var 28) (.var 29)), (.sl 30 (.lit 0) (.var 31) (.var 32)), (.sl 3 (.lit 0) (.var 4) (.var 5))] (.tup [.sl, .bool]) [⟨[(.sl 3 (.lit 0) (.var 4) (.var 5))], 22⟩]
         (.again 3 1 [.sl, .bool] [(.sl 33 (.lit 0) (.var 34) (.var 35)), (.bool (.var 36))] [⟨[(.sl 3 (.lit 0) (.var 4) (.var 5))], 22⟩]))))))))
         (.again 3 1 [.sl, .bool] [(.sl 23 (.lit 0) (.var 24) (.var 25)), (.bool (.var 26))] [⟨[(.sl 3 (.lit 0) (.var 4) (.var 5))], 22⟩]))
       (.ite (.not (.var 30))
        (.again 2 1 [.sl, (.int .i64)] [(.sl 12 (.lit 0) (.var 13) (.var 14)), (.int .i64 (.var 15))] [⟨[(.sl 3 (.lit 0) (.var 4) (.var 5))], 22⟩])
        (.chk (.cmp .geq (.var 28) (.lit 0))
        (.ite (.cmp .gtr (.var 28) (.lit 32))
         (.again 2 1 [.sl, (.int .i64)] [(.sl 12 (.lit 0) (.var 13) (.var 14)), (.int .i64 (.var 15))] [⟨[(.sl 3 (.lit 0) (.var 4) (.var 5))], 22⟩])
         (.call false 53 [(.sl 0 (.lit 0) (.var 1) (.var 2)), (.sl 3 (.lit 0) (.var 4) (.var 5)), (.sl 27 (.lit 0) (.var 28) (.var 29))] (.int .i64) [⟨[(.sl 3 (.lit 0) (.var 4) (.var 5))], 22⟩]
         (.join 3 [.bool] [⟨[(.sl 3 (.lit 0) (.var 4) (.var 5))], 22⟩]
          (.ite (.not (.cmp .gtr (.var 31) (.var 15)))
           (.ite (.cmp .eql (.var 31) (.var 15))
            (.call false 54 [(.sl 27 (.lit 0) (.var 28) (.var 29)), (.sl 12 (.lit 0) (.var 13) (.var 14))] (.int .i64) [⟨[(.sl 3 (.lit 0) (.var 4) (.var 5))], 22⟩]
            (.again 3 1 [.bool] [(.bool (.cmp .lss (.var 32) (.lit 0)))] [⟨[(.sl 3 (.lit 0) (.var 4) (.var 5))], 22⟩]))
            (.again 3 1 [.bool] [(.bool (.lit false))] [⟨[(.sl 3 (.lit 0) (.var 4) (.var 5))], 22⟩]))
           (.again 3 1 [.bool] [(.bool (.lit true))] [⟨[(.sl 3 (.lit 0) (.var 4) (.var 5))], 22⟩]))
         (.join 3 [.sl, (.int .i64)] [⟨[(.sl 3 (.lit 0) (.var 4) (.var 5))], 22⟩]
          (.ite (.var 32)
           (.again 3 1 [.sl, (.int .i64)] [(.sl 27 (.lit 0) (.var 28) (.var 29)), (.int .i64 (.var 31))] [⟨[(.sl 3 (.lit 0) (.var 4) (.var 5))], 22⟩])
           (.again 3 1 [.sl, (.int .i64)] [(.sl 12 (.lit 0) (.var 13) (.var 14)), (.int .i64 (.var 15))] [⟨[(.sl 3 (.lit 0) (.var 4) (.var 5))], 22⟩]))
         (.again 2 1 [.sl, (.int .i64)] [(.sl 33 (.lit 0) (.var 34) (.var 35)), (.int .i64 (.var 36))] [⟨[(.sl 3 (.lit 0) (.var 4) (.var 5))], 22⟩])))))))))))))))
      (.again 1 1 [.sl, (.int .i64), (.int .i64)] [(.sl 17 (.lit 0) (.var 18) (.var 19)), (.int .i64 (.var 20)), (.int .i64 (.bin .add .i64 (.var 16) (.lit 1)))] [⟨[(.sl 3 (.lit 0) (.var 4) (.var 5))], 22⟩]))
      (.again 0 1 [.sl, (.int .i64), (.int .i64)] [(.sl 12 (.lit 0) (.var 13) (.var 14)), (.int .i64 (.var 15)), (.int .i64 (.bin .add .i64 (.var 11) (.lit 1)))] [⟨[(.sl 3 (.lit 0) (.var 4) (.var 5))], 22⟩])))
    (.ite (.cmp .eql (.var 10) (.lit 0))
     (.ret (.tup [(.cst (.slice none 0 0)), (.int .i64 (.lit 0)), (.int .i64 (.lit 5))]) [⟨[(.sl 3 (.lit 0) (.var 4) (.var 5))], 22⟩])
     (.ret (.tup [(.sl 7 (.lit 0) (.var 8) (.var 9)), (.int .i64 (.var 10)), (.int .i64 (.lit 0))]) [⟨[(.sl 3 (.lit 0) (.var 4) (.var 5))], 22⟩]))))))))
theorem S_ref30_Extend : FnIs Tryd.prog n_ref30_Extend [.sl, .sl] T_ref30_Extend := ⟨Tryd.f23, [{ key := 100003, tmps := [], join := true, dead := 34352834909577400435491176460 }, { key := 14, tmps := [], join := true }, { key := 200017, tmps := [(88, .bool)], join := true }, { key := 18, tmps := [], join := true }], 4000, Tryd.func23, by kernel_rfl⟩
/-! 32 ablaut/ablautref30.Holds  -/
abbrev n_ref30_Holds : FuncId := 32
def T_ref30_Holds : Tree :=
 (.alloc
 (.call false 44 [(.slc 0 0 4 4)] (.int .i64) [⟨[(.sl 0 (.lit 0) (.var 1) (.var 2)), (.sl 3 (.lit 0) (.var 4) (.var 5)), (.sl 6 (.lit 0) (.var 7) (.var 8)), (.sl 9 (.lit 0) (.var 10) (.var 11))], 22⟩]
 (.ite (.cmp .neq (.var 12) (.lit 0))
  (.ret (.tup [(.bool (.lit false)), (.int .i64 (.var 12))]) [⟨[(.sl 0 (.lit 0) (.var 1) (.var 2)), (.sl 3 (.lit 0) (.var 4) (.var 5)), (.sl 6 (.lit 0) (.var 7) (.var 8)), (.sl 9 (.lit 0) (.var 10) (.var 11))], 22⟩])
  (.call false 66 [(.agg [(.sl 0 (.lit 0) (.var 1) (.var 2)), (.sl 3 (.lit 0) (.var 4) (.var 5))]), (.sl 6 (.lit 0) (.var 7) (.var 8)), (.sl 9 (.lit 0) (.var 10) (.var 11))] .bool [⟨[(.sl 0 (.lit 0) (.var 1) (.var 2)), (.sl 3 (.lit 0) (.var 4) (.var 5)), (.sl 6 (.lit 0) (.var 7) (.var 8)), (.sl 9 (.lit 0) (.var 10) (.var 11))], 22⟩]
  (.ret (.tup [(.bool (.var 13)), (.int .i64 (.lit 0))]) [⟨[(.sl 0 (.lit 0) (.var 1) (.var 2)), (.sl 3 (.lit 0) (.var 4) (.var 5)), (.sl 6 (.lit 0) (.var 7) (.var 8)), (.sl 9 (.lit 0) (.var 10) (.var 11))], 22⟩])))))
theorem S_ref30_Holds : FnIs Tryd.prog n_ref30_Holds [.sl, .sl, .sl, .sl] T_ref30_Holds := ⟨Tryd.f32, [], 4000, Tryd.func32, by kernel_rfl⟩
/-! 35 ablaut/ablautref30.Explain  -/
abbrev n_ref30_Explain : FuncId := 35
def T_ref30_Explain : Tree :=
 (.alloc
 (.call false 52 [(.sl 0 (.lit 0) (.var 1) (.var 2)), (.slc 0 0 2 2)] (.int .i64) [⟨[(.sl 3 (.lit 0) (.var 4) (.var 5)), (.sl 6 (.lit 0) (.var 7) (.var 8))], 22⟩]
 (.ite (.cmp .neq (.var 9) (.lit 0))
  (.ret (.tup [(.int .i64 (.lit 0)), (.bool (.lit false)), (.int .i64 (.var 9))]) [⟨[(.sl 3 (.lit 0) (.var 4) (.var 5)), (.sl 6 (.lit 0) (.var 7) (.var 8))], 22⟩])
  (.loop 0 [(.int .i64), .bool, (.int .i64), (.int .i64)] [(.int .i64 (.lit 0)), (.bool (.lit false)), (.int .i64 (.lit 0)), (.int .i64 (.lit 0))] [⟨[(.sl 3 (.lit 0) (.var 4) (.var 5)), (.sl 6 (.lit 0) (.var 7) (.var 8))], 22⟩] [⟨[(.sl 3 (.lit 0) (.var 4) (.var 5)), (.sl 6 (.lit 0) (.var 7) (.var 8))], 22⟩]
   (.chk (.cmp .geq (.var 1) (.lit 0))
   (.ite (.cmp .lss (.var 13) (.var 1))
    (.chk (.pick (.cmp .geq (.var 13) (.lit 0)) (.pick (.cmp .lss (.var 13) (.var 1)) (.some 0) (.lit false)) (.lit false))
    (.load 0 (.off (.var 13) 2 (.lit 0)) [.sl, .sl] [⟨[(.sl 3 (.lit 0) (.var 4) (.var 5)), (.sl 6 (.lit 0) (.var 7) (.var 8))], 22⟩]
    (.call false 66 [(.agg [(.sl 14 (.lit 0) (.var 15) (.var 16)), (.sl 17 (.lit 0) (.var 18) (.var 19))]), (.sl 3 (.lit 0) (.var 4) (.var 5)), (.sl 6 (.lit 0) (.var 7) (.var 8))] .bool [⟨[(.sl 3 (.lit 0) (.var 4) (.var 5)), (.sl 6 (.lit 0) (.var 7) (.var 8))], 22⟩]
    (.ite (.var 20)
     (.ret (.tup [(.int .i64 (.var 13)), (.bool (.lit true)), (.int .i64 (.lit 0))]) [⟨[(.sl 3 (.lit 0) (.var 4) (.var 5)), (.sl 6 (.lit 0) (.var 7) (.var 8))], 22⟩])
     (.again 0 1 [(.int .i64), .bool, (.int .i64), (.int .i64)] [(.int .i64 (.var 10)), (.bool (.var 11)), (.int .i64 (.var 12)), (.int .i64 (.bin .add .i64 (.var 13) (.lit 1)))] [⟨[(.sl 3 (.lit 0) (.var 4) (.var 5)), (.sl 6 (.lit 0) (.var 7) (.var 8))], 22⟩])))))
    (.ret (.tup [(.int .i64 (.lit 0)), (.bool (.lit false)), (.int .i64 (.lit 0))]) [⟨[(.sl 3 (.lit 0) (.var 4) (.var 5)), (.sl 6 (.lit 0) (.var 7) (.var 8))], 22⟩])))))))
theorem S_ref30_Explain : FnIs Tryd.prog n_ref30_Explain [.sl, .sl, .sl] T_ref30_Explain := ⟨Tryd.f35, [], 4000, Tryd.func35, by kernel_rfl⟩
/-! 37 ablaut/ablautref30.Count  -/
abbrev n_ref30_Count : FuncId := 37
def T_ref30_Count : Tree :=
 (.alloc
 (.call false 52 [(.sl 0 (.lit 0) (.var 1) (.var 2)), (.slc 0 0 2 2)] (.int .i64) [⟨[(.sl 3 (.lit 0) (.var 4) (.var 5)), (.sl 6 (.lit 0) (.var 7) (.var 8))], 22⟩]
 (.ite (.cmp .neq (.var 9) (.lit 0))
  (.ret (.tup [(.int .i64 (.lit 0)), (.int .i64 (.var 9))]) [⟨[(.sl 3 (.lit 0) (.var 4) (.var 5)), (.sl 6 (.lit 0) (.var 7) (.var 8))], 22⟩])
  (.call false 53 [(.sl 0 (.lit 0) (.var 1) (.var 2)), (.sl 3 (.lit 0) (.var 4) (.var 5)), (.sl 6 (.lit 0) (.var 7) (.var 8))] (.int .i64) [⟨[(.sl 3 (.lit 0) (.var 4) (.var 5)), (.sl 6 (.lit 0) (.var 7) (.var 8))], 22⟩]
  (.ret (.tup [(.int .i64 (.var 10)), (.int .i64 (.lit 0))]) [⟨[(.sl 3 (.lit 0) (.var 4) (.var 5)), (.sl 6 (.lit 0) (.var 7) (.var 8))], 22⟩])))))
theorem S_ref30_Count : FnIs Tryd.prog n_ref30_Count [.sl, .sl, .sl] T_ref30_Count := ⟨Tryd.f37, [], 4000, Tryd.func37, by kernel_rfl⟩
/-! 44 ablaut/ablautref30.words  -/
abbrev n_ref30_words : FuncId := 44
def T_ref30_words : Tree :=
 (.loop 0 [(.int .i64), (.int .i64)] [(.int .i64 (.lit 0)), (.int .i64 (.lit 0))] [] []
  (.chk (.cmp .geq (.var 1) (.lit 0))
  (.ite (.cmp .lss (.var 4) (.var 1))
   (.chk (.pick (.cmp .geq (.var 4) (.lit 0)) (.pick (.cmp .lss (.var 4) (.var 1)) (.some 0) (.lit false)) (.lit false))
   (.load 0 (.off (.var 4) 1 (.lit 0)) [.sl] []
   (.call false 73 [(.sl 5 (.lit 0) (.var 6) (.var 7))] (.int .i64) []
   (.ite (.cmp .neq (.var 8) (.lit 0))
    (.ret (.int .i64 (.var 8)) [])
    (.again 0 0 [(.int .i64), (.int .i64)] [(.int .i64 (.var 3)), (.int .i64 (.bin .add .i64 (.var 4) (.lit 1)))] [])))))
   (.ret (.int .i64 (.lit 0)) []))))
theorem S_ref30_words : FnIs Tryd.prog n_ref30_words [.sl] T_ref30_words := ⟨Tryd.f44, [], 4000, Tryd.func44, by kernel_rfl⟩
/-! 45 ablaut/ablautref30.solve  -/
abbrev n_ref30_solve : FuncId := 45
def T_ref30_solve : Tree :=
 (.loop 0 [(.int .i64)] [(.int .i64 (.lit 0))] [] []
  (.join 1 [.bool] []
   (.chk (.cmp .geq (.var 1) (.lit 0))
   (.ite (.cmp .lss (.var 9) (.var 1))
    (.chk (.cmp .geq (.var 4) (.lit 0))
    (.ite (.cmp .lss (.var 9) (.var 4))
     (.chk (.pick (.cmp .geq (.var 9) (.lit 0)) (.pick (.cmp .lss (.var 9) (.var 1)) (.some 0) (.lit false)) (.lit false))
     (.load 0 (.off (.var 9) 2 (.lit 0)) [(.int .u32), (.int .u32)] []
     (.chk (.pick (.cmp .geq (.var 9) (.lit 0)) (.pick (.cmp .lss (.var 9) (.var 4)) (.some 3) (.lit false)) (.lit false))
     (.load 3 (.off (.var 9) 2 (.lit 0)) [(.int .u32), (.int .u32)] []
     (.again 1 0 [.bool] [(.bool (.pick (.cmp .eql (.var 10) (.var 12)) (.cmp .eql (.var 11) (.var 13)) (.lit false)))] [])))))
     (.again 1 0 [.bool] [(.bool (.lit false))] [])))
    (.again 1 0 [.bool] [(.bool (.lit false))] [])))
  (.ite (.var 10)
   (.again 0 0 [(.int .i64)] [(.int .i64 (.bin .add .i64 (.var 9) (.lit 1)))] [])
   (.chk (.pick (.cmp .leq (.lit 0) (.var 9)) (.pick (.cmp .leq (.var 9) (.var 1)) (.cmp .leq (.var 1) (.var 2)) (.lit false)) (.lit false))
   (.chk (.pick (.cmp .leq (.lit 0) (.var 9)) (.pick (.cmp .leq (.var 9) (.var 4)) (.cmp .leq (.var 4) (.var 5)) (.lit false)) (.lit false))
   (.chk (.cmp .geq (.var 7) (.lit 0))
   (.chk (.cmp .geq (.dif (.var 1) (.var 9)) (.lit 0))
   (.join 0 [.bool] []
    (.ite (.cmp .lss (.bin .sub .i64 (.var 7) (.dif (.var 1) (.var 9))) (.lit 0))
     (.again 0 0 [.bool] [(.bool (.lit true))] [])
     (.chk (.pick (.cmp .leq (.lit 0) (.bin .sub .i64 (.var 7) (.dif (.var 1) (.var 9)))) (.pick (.cmp .leq (.bin .sub .i64 (.var 7) (.dif (.var 1) (.var 9))) (.var 7)) (.cmp .leq (.var 7) (.var 8)) (.lit false)) (.lit false))
     (.call false 20 [(.sl 6 (.ifeq (.var 8) (.bin .sub .i64 (.var 7) (.dif (.var 1) (.var 9))) (.lit 0) (.off (.bin .sub .i64 (.var 7) (.dif (.var 1) (.var 9))) 2 (.lit 0))) (.dif (.var 7) (.bin .sub .i64 (.var 7) (.dif (.var 1) (.var 9)))) (.dif (.var 8) (.bin .sub .i64 (.var 7) (.dif (.var 1) (.var 9))))), (.sl 0 (.ifeq (.var 2) (.var 9) (.lit 0) (.off (.var 9) 2 (.lit 0))) (.dif (.var 1) (.var 9)) (.dif (.var 2) (.var 9)))] .bool []
     (.again 0 0 [.bool] [(.bool (.not (.var 11)))] []))))
   (.ite (.var 11)
    (.ret (.tup [(.cst (.slice none 0 0)), (.bool (.lit false))]) [])
    (.alloc
    (.chk (.pick (.cmp .leq (.lit 0) (.bin .sub .i64 (.var 7) (.dif (.var 1) (.var 9)))) (.cmp .leq (.bin .sub .i64 (.var 7) (.dif (.var 1) (.var 9))) (.var 8)) (.lit false))
    (.ext false ⟨(.call ⟨.builtin .append, #[(.tmp 0), (.tmp 0)], #[22, 22]⟩), 22, [(.slc 0 0 0 0), (.sl 6 (.ifeq (.var 8) (.lit 0) (.lit 0) (.lit 0)) (.bin .sub .i64 (.var 7) (.dif (.var 1) (.var 9))) (.var 8))]⟩ .sl [⟨[], 31⟩]
    (.ext false ⟨(.call ⟨.builtin .append, #[(.tmp 0), (.tmp 0)], #[22, 22]⟩), 22, [(.sl 12 (.lit 0) (.var 13) (.var 14)), (.sl 3 (.ifeq (.var 5) (.var 9) (.lit 0) (.off (.var 9) 2 (.lit 0))) (.dif (.var 4) (.var 9)) (.dif (.var 5) (.var 9)))]⟩ .sl [⟨[], 31⟩]
    (.ret (.tup [(.sl 15 (.lit 0) (.var 16) (.var 17)), (.bool (.lit true))]) [⟨[], 31⟩]))))))))))))))
theorem S_ref30_solve : FnIs Tryd.prog n_ref30_solve [.sl, .sl, .sl] T_ref30_solve := ⟨Tryd.f45, [{ key := 200002, tmps := [(32, .bool)], join := true, dead := 9187343235540840504 }, { key := 200006, tmps := [(55, .bool)], join := true }], 4000, Tryd.func45, by kernel_rfl⟩
/-! 46 ablaut/ablautref30.front  -/
abbrev n_ref30_front : FuncId := 46
def T_ref30_front : Tree :=
 (.call false 74 [(.sl 0 (.lit 0) (.var 1) (.var 2))] .sl []
 (.call false 74 [(.sl 3 (.lit 0) (.var 4) (.var 5))] .sl []
 (.call false 74 [(.sl 6 (.lit 0) (.var 7) (.var 8))] .sl []
 (.call false 45 [(.sl 9 (.lit 0) (.var 10) (.var 11)), (.sl 12 (.lit 0) (.var 13) (.var 14)), (.sl 15 (.lit 0) (.var 16) (.var 17))] (.tup [.sl, .bool]) []
 (.call false 74 [(.sl 18 (.lit 0) (.var 19) (.var 20))] .sl []
 (.ret (.tup [(.sl 22 (.lit 0) (.var 23) (.var 24)), (.bool (.var 21))]) []))))))
theorem S_ref30_front : FnIs Tryd.prog n_ref30_front [.sl, .sl, .sl] T_ref30_front := ⟨Tryd.f46, [], 4000, Tryd.func46, by kernel_rfl⟩
/-! 52 ablaut/ablautref30.check  -/
abbrev n_ref30_check : FuncId := 52
def T_ref30_check : Tree :=
 (.chk (.cmp .geq (.var 1) (.lit 0))
 (.ite (.cmp .gtr (.var 1) (.lit 256))
  (.ret (.int .i64 (.lit 12)) [])
  (.loop 0 [(.int .i64), (.int .i64)] [(.int .i64 (.lit 0)), (.int .i64 (.lit 0))] [] []
   (.chk (.cmp .geq (.var 1) (.lit 0))
   (.ite (.cmp .lss (.var 7) (.var 1))
    (.chk (.pick (.cmp .geq (.var 7) (.lit 0)) (.pick (.cmp .lss (.var 7) (.var 1)) (.some 0) (.lit false)) (.lit false))
    (.chk (.pick (.cmp .geq (.off (.var 7) 2 (.lit 0)) (.lit 0)) (.some 0) (.lit false))
    (.load 0 (.off (.var 7) 2 (.lit 0)) [.sl] []
    (.chk (.pick (.cmp .geq (.var 7) (.lit 0)) (.pick (.cmp .lss (.var 7) (.var 1)) (.some 0) (.lit false)) (.lit false))
    (.chk (.pick (.cmp .geq (.off (.var 7) 2 (.lit 0)) (.lit 0)) (.some 0) (.lit false))
    (.load 0 (.off (.lit 1) 1 (.off (.var 7) 2 (.lit 0))) [.sl] []
    (.alloc
    (.call false 44 [(.slc 0 0 2 2)] (.int .i64) [⟨[(.sl 8 (.lit 0) (.var 9) (.var 10)), (.sl 11 (.lit 0) (.var 12) (.var 13))], 22⟩]
    (.ite (.cmp .neq (.var 14) (.lit 0))
     (.ret (.int .i64 (.var 14)) [⟨[(.sl 8 (.lit 0) (.var 9) (.var 10)), (.sl 11 (.lit 0) (.var 12) (.var 13))], 22⟩])
     (.again 0 0 [(.int .i64), (.int .i64)] [(.int .i64 (.var 6)), (.int .i64 (.bin .add .i64 (.var 7) (.lit 1)))] [⟨[(.sl 8 (.lit 0) (.var 9) (.var 10)), (.sl 11 (.lit 0) (.var 12) (.var 13))], 22⟩]))))))))))
    (.call false 44 [(.sl 3 (.lit 0) (.var 4) (.var 5))] (.int .i64) []
    (.ret (.int .i64 (.var 8)) [])))))))
theorem S_ref30_check : FnIs Tryd.prog n_ref30_check [.sl, .sl] T_ref30_check := ⟨Tryd.f52, [], 4000, Tryd.func52, by kernel_rfl⟩
/-! 53 ablaut/ablautref30.count  -/
abbrev n_ref30_count : FuncId := 53
def T_ref30_count : Tree :=
 (.loop 0 [(.int .i64), (.int .i64)] [(.int .i64 (.lit 0)), (.int .i64 (.lit 0))] [] []
  (.chk (.cmp .geq (.var 1) (.lit 0))
  (.ite (.cmp .lss (.var 10) (.var 1))
   (.chk (.pick (.cmp .geq (.var 10) (.lit 0)) (.pick (.cmp .lss (.var 10) (.var 1)) (.some 0) (.lit false)) (.lit false))
   (.load 0 (.off (.var 10) 2 (.lit 0)) [.sl, .sl] []
   (.call false 66 [(.agg [(.sl 11 (.lit 0) (.var 12) (.var 13)), (.sl 14 (.lit 0) (.var 15) (.var 16))]), (.sl 3 (.lit 0) (.var 4) (.var 5)), (.sl 6 (.lit 0) (.var 7) (.var 8))] .bool []
   (.join 1 [(.int .i64)] []
    (.ite (.var 17)
     (.again 1 0 [(.int .i64)] [(.int .i64 (.bin .add .i64 (.var 9) (.lit 1)))] [])
     (.again 1 0 [(.int .i64)] [(.int .i64 (.var 9))] []))
   (.again 0 0 [(.int .i64), (.int .i64)] [(.int .i64 (.var 18)), (.int .i64 (.bin .add .i64 (.var 10) (.lit 1)))] [])))))
   (.ret (.int .i64 (.var 9)) []))))
theorem S_ref30_count : FnIs Tryd.prog n_ref30_count [.sl, .sl, .sl] T_ref30_count := ⟨Tryd.f53, [{ key := 6, tmps := [], join := true, dead := 31452728 }], 4000, Tryd.func53, by kernel_rfl⟩
/-! 66 ablaut/ablautref30.supports  -/
abbrev n_ref30_supports : FuncId := 66
def T_ref30_supports : Tree :=
 (.alloc
 (.call false 45 [(.sl 0 (.lit 0) (.var 1) (.var 2)), (.sl 3 (.lit 0) (.var 4) (.var 5)), (.sl 6 (.lit 0) (.var 7) (.var 8))] (.tup [.sl, .bool]) [⟨[(.sl 0 (.lit 0) (.var 1) (.var 2)), (.sl 3 (.lit 0) (.var 4) (.var 5))], 69⟩]
 (.ite (.var 15)
  (.call false 20 [(.sl 12 (.lit 0) (.var 13) (.var 14)), (.sl 9 (.lit 0) (.var 10) (.var 11))] .bool [⟨[(.sl 0 (.lit 0) (.var 1) (.var 2)), (.sl 3 (.lit 0) (.var 4) (.var 5))], 69⟩]
  (.ite (.var 16)
   (.ret (.bool (.lit true)) [⟨[(.sl 0 (.lit 0) (.var 1) (.var 2)), (.sl 3 (.lit 0) (.var 4) (.var 5))], 69⟩])
   (.call false 46 [(.sl 0 (.lit 0) (.var 1) (.var 2)), (.sl 3 (.lit 0) (.var 4) (.var 5)), (.sl 6 (.lit 0) (.var 7) (.var 8))] (.tup [.sl, .bool]) [⟨[(.sl 0 (.lit 0) (.var 1) (.var 2)), (.sl 3 (.lit 0) (.var 4) (.var 5))], 69⟩]
   (.ite (.var 20)
    (.call false 20 [(.sl 17 (.lit 0) (.var 18) (.var 19)), (.sl 9 (.lit 0) (.var 10) (.var 11))] .bool [⟨[(.sl 0 (.lit 0) (.var 1) (.var 2)), (.sl 3 (.lit 0) (.var 4) (.var 5))], 69⟩]
    (.ret (.bool (.var 21)) [⟨[(.sl 0 (.lit 0) (.var 1) (.var 2)), (.sl 3 (.lit 0) (.var 4) (.var 5))], 69⟩]))
    (.ret (.bool (.lit false)) [⟨[(.sl 0 (.lit 0) (.var 1) (.var 2)), (.sl 3 (.lit 0) (.var 4) (.var 5))], 69⟩])))))
  (.call false 46 [(.sl 0 (.lit 0) (.var 1) (.var 2)), (.sl 3 (.lit 0) (.var 4) (.var 5)), (.sl 6 (.lit 0) (.var 7) (.var 8))] (.tup [.sl, .bool]) [⟨[(.sl 0 (.lit 0) (.var 1) (.var 2)), (.sl 3 (.lit 0) (.var 4) (.var 5))], 69⟩]
  (.ite (.var 19)
   (.call false 20 [(.sl 16 (.lit 0) (.var 17) (.var 18)), (.sl 9 (.lit 0) (.var 10) (.var 11))] .bool [⟨[(.sl 0 (.lit 0) (.var 1) (.var 2)), (.sl 3 (.lit 0) (.var 4) (.var 5))], 69⟩]
   (.ret (.bool (.var 20)) [⟨[(.sl 0 (.lit 0) (.var 1) (.var 2)), (.sl 3 (.lit 0) (.var 4) (.var 5))], 69⟩]))
   (.ret (.bool (.lit false)) [⟨[(.sl 0 (.lit 0) (.var 1) (.var 2)), (.sl 3 (.lit 0) (.var 4) (.var 5))], 69⟩]))))))
theorem S_ref30_supports : FnIs Tryd.prog n_ref30_supports [(.agg [.sl, .sl]), .sl, .sl] T_ref30_supports := ⟨Tryd.f66, [], 4000, Tryd.func66, by kernel_rfl⟩
/-! 74 ablaut/ablautref30.backwards  -/
abbrev n_ref30_backwards : FuncId := 74
def T_ref30_backwards : Tree :=
 (.chk (.cmp .geq (.var 1) (.lit 0))
 (.loop 0 [.sl, (.int .i64)] [(.cst (.slice none 0 0)), (.int .i64 (.bin .sub .i64 (.var 1) (.lit 1)))] [] []
  (.ite (.cmp .geq (.var 6) (.lit 0))
   (.chk (.pick (.cmp .geq (.var 6) (.lit 0)) (.pick (.cmp .lss (.var 6) (.var 1)) (.some 0) (.lit false)) (.lit false))
   (.load 0 (.off (.var 6) 2 (.lit 0)) [(.int .u32), (.int .u32)] []
   (.alloc
   (.ext false ⟨(.call ⟨.builtin .append, #[(.tmp 0), (.tmp 0)], #[22, 22]⟩), 22, [(.sl 3 (.lit 0) (.var 4) (.var 5)), (.slc 0 0 1 1)]⟩ .sl [⟨[(.int .u32 (.var 7)), (.int .u32 (.var 8))], 31⟩]
   (.again 0 0 [.sl, (.int .i64)] [(.sl 9 (.lit 0) (.var 10) (.var 11)), (.int .i64 (.bin .sub .i64 (.var 6) (.lit 1)))] [⟨[(.int .u32 (.var 7)), (.int .u32 (.var 8))], 31⟩])))))
   (.ret (.sl 3 (.lit 0) (.var 4) (.var 5)) []))))
theorem S_ref30_backwards : FnIs Tryd.prog n_ref30_backwards [.sl] T_ref30_backwards := ⟨Tryd.f74, [], 4000, Tryd.func74, by kernel_rfl⟩
end Go.Proofs.YtpbbnmjkbfbelaaDoor
