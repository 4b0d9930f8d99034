/- The trees of this seat's functions, printed by a program of mine (SyGen), checked here by the kernel. -/
import Derived.Test.YthabfpagilbplaaDoorSyDef
import Derived.Test.YthabfpagilbplaaDoorProg
import Derived.KernelRfl
set_option maxRecDepth 100000
namespace Go.Proofs.YthabfpagilbplaaDoor
open Go Go.Sy
/-! 41 ablaut/cognates.Sets  -/
abbrev n_cognates_Sets : FuncId := 41
def T_cognates_Sets : Tree :=
 (.chk (.cmp .geq (.var 1) (.lit 0))
 (.ite (.cmp .gtr (.var 1) (.lit 256))
  (.ret (.tup [(.cst (.slice none 0 0)), (.int .i64 (.lit 12))]) [])
  (.chk (.cmp .geq (.var 1) (.lit 0))
  (.loop 0 [.sl, (.int .i64), (.int .i64)] [(.cst (.slice none 0 0)), (.int .i64 (.lit 0)), (.int .i64 (.lit 0))] [] []
   (.ite (.cmp .lss (.var 7) (.var 1))
    (.chk (.pick (.cmp .geq (.var 7) (.lit 0)) (.pick (.cmp .lss (.var 7) (.var 1)) (.some 0) (.lit false)) (.lit false))
    (.load 0 (.off (.var 7) 1 (.lit 0)) [(.int .i64)] []
    (.ite (.not (.pick (.cmp .lss (.var 8) (.lit (-1))) (.lit true) (.cmp .gtr (.var 8) (.var 7))))
     (.ite (.cmp .geq (.var 8) (.lit 0))
      (.chk (.pick (.cmp .geq (.var 8) (.lit 0)) (.pick (.cmp .lss (.var 8) (.var 1)) (.some 0) (.lit false)) (.lit false))
      (.load 0 (.off (.var 8) 1 (.lit 0)) [(.int .i64)] []
      (.ite (.cmp .neq (.var 9) (.var 8))
       (.ret (.tup [(.cst (.slice none 0 0)), (.int .i64 (.lit 2))]) [])
       (.again 0 0 [.sl, (.int .i64), (.int .i64)] [(.sl 3 (.lit 0) (.var 4) (.var 5)), (.int .i64 (.var 6)), (.int .i64 (.bin .add .i64 (.var 7) (.lit 1)))] []))))
      (.again 0 0 [.sl, (.int .i64), (.int .i64)] [(.sl 3 (.lit 0) (.var 4) (.var 5)), (.int .i64 (.var 6)), (.int .i64 (.bin .add .i64 (.var 7) (.lit 1)))] []))
     (.ret (.tup [(.cst (.slice none 0 0)), (.int .i64 (.lit 2))]) []))))
    (.chk (.cmp .geq (.var 1) (.lit 0))
    (.ext false ⟨(.makeSlice 30 (.tmp 0) (.tmp 0)), 30, [(.int .i64 (.var 1)), (.int .i64 (.var 1))]⟩ .sl []
    (.chk (.cmp .geq (.var 1) (.lit 0))
    (.loop 0 [.sl, (.int .i64)] [(.cst (.slice none 0 0)), (.int .i64 (.lit 0))] [] []
     (.ite (.cmp .lss (.var 14) (.var 1))
      (.chk (.pick (.cmp .geq (.var 14) (.lit 0)) (.pick (.cmp .lss (.var 14) (.var 1)) (.some 0) (.lit false)) (.lit false))
      (.load 0 (.off (.var 14) 1 (.lit 0)) [(.int .i64)] []
      (.ite (.cmp .lss (.var 15) (.lit 0))
       (.again 0 0 [.sl, (.int .i64)] [(.sl 11 (.lit 0) (.var 12) (.var 13)), (.int .i64 (.bin .add .i64 (.var 14) (.lit 1)))] [])
       (.ite (.cmp .eql (.var 15) (.var 14))
        (.chk (.cmp .geq (.var 12) (.lit 0))
        (.chk (.pick (.cmp .geq (.var 14) (.lit 0)) (.pick (.cmp .lss (.var 14) (.var 9)) (.some 8) (.lit false)) (.lit false))
        (.store false 8 (.off (.var 14) 1 (.lit 0)) [(.int .i64 (.var 12))] []
        (.alloc
        (.alloc
        (.ext false ⟨(.call ⟨.builtin .append, #[(.tmp 0), (.tmp 0)], #[60, 60]⟩), 60, [(.sl 11 (.lit 0) (.var 12) (.var 13)), (.slc 1 0 1 1)]⟩ .sl [⟨[(.int .i64 (.var 14))], 3⟩, ⟨[(.slc 0 0 1 1)], 30⟩]
        (.again 0 0 [.sl, (.int .i64)] [(.sl 16 (.lit 0) (.var 17) (.var 18)), (.int .i64 (.bin .add .i64 (.var 14) (.lit 1)))] [⟨[(.int .i64 (.var 14))], 3⟩, ⟨[(.slc 0 0 1 1)], 30⟩])))))))
        (.chk (.pick (.cmp .geq (.var 15) (.lit 0)) (.pick (.cmp .lss (.var 15) (.var 9)) (.some 8) (.lit false)) (.lit false))
        (.load 8 (.off (.var 15) 1 (.lit 0)) [(.int .i64)] []
        (.chk (.pick (.cmp .geq (.var 15) (.lit 0)) (.pick (.cmp .lss (.var 15) (.var 9)) (.some 8) (.lit false)) (.lit false))
        (.load 8 (.off (.var 15) 1 (.lit 0)) [(.int .i64)] []
        (.chk (.pick (.cmp .geq (.var 17) (.lit 0)) (.pick (.cmp .lss (.var 17) (.var 12)) (.some 11) (.lit false)) (.lit false))
        (.load 11 (.off (.var 17) 1 (.lit 0)) [.sl] []
        (.alloc
        (.exk ⟨(.call ⟨.builtin .append, #[(.tmp 0), (.tmp 0)], #[30, 30]⟩), 30, [(.sl 18 (.lit 0) (.var 19) (.var 20)), (.slc 0 0 1 1)]⟩ .sl [⟨[(.int .i64 (.var 14))], 3⟩] ⟨(.load 3 (.tmp 0)), 3, [(.ptr 8 (.off (.var 15) 1 (.lit 0)))]⟩
        (.chk (.pick (.cmp .geq (.var 16) (.lit 0)) (.pick (.cmp .lss (.var 16) (.var 12)) (.some 11) (.lit false)) (.lit false))
        (.store false 11 (.off (.var 16) 1 (.lit 0)) [(.sl 21 (.lit 0) (.var 22) (.var 23))] [⟨[(.int .i64 (.var 14))], 3⟩]
        (.again 0 0 [.sl, (.int .i64)] [(.sl 11 (.lit 0) (.var 12) (.var 13)), (.int .i64 (.bin .add .i64 (.var 14) (.lit 1)))] [⟨[(.int .i64 (.var 14))], 3⟩])))))))))))))))
      (.ret (.tup [(.sl 11 (.lit 0) (.var 12) (.var 13)), (.int .i64 (.lit 0))]) [])))))))))))
theorem S_cognates_Sets : FnIs Tryd.prog n_cognates_Sets [.sl] T_cognates_Sets := ⟨Tryd.f41, [], 4000, Tryd.func41, by kernel_rfl⟩
/-! 42 ablaut/ablautref19.Sets  -/
abbrev n_ref19_Sets : FuncId := 42
def T_ref19_Sets : Tree :=
 (.chk (.cmp .geq (.var 1) (.lit 0))
 (.ite (.cmp .gtr (.var 1) (.lit 256))
  (.ret (.tup [(.cst (.slice none 0 0)), (.int .i64 (.lit 12))]) [])
  (.loop 0 [.sl, (.int .i64), (.int .i64)] [(.cst (.slice none 0 0)), (.int .i64 (.lit 0)), (.int .i64 (.lit 0))] [] []
   (.chk (.cmp .geq (.var 1) (.lit 0))
   (.ite (.cmp .lss (.var 7) (.var 1))
    (.chk (.pick (.cmp .geq (.var 7) (.lit 0)) (.pick (.cmp .lss (.var 7) (.var 1)) (.some 0) (.lit false)) (.lit false))
    (.load 0 (.off (.var 7) 1 (.lit 0)) [(.int .i64)] []
    (.join 1 [.bool] []
     (.ite (.cmp .lss (.var 8) (.lit 0))
      (.again 1 0 [.bool] [(.bool (.pick (.cmp .neq (.var 8) (.lit (-1))) (.lit true) (.lit false)))] [])
      (.ite (.cmp .neq (.var 8) (.lit (-1)))
       (.ite (.cmp .gtr (.var 8) (.var 7))
        (.again 1 0 [.bool] [(.bool (.lit true))] [])
        (.chk (.pick (.cmp .geq (.var 8) (.lit 0)) (.pick (.cmp .lss (.var 8) (.var 1)) (.some 0) (.lit false)) (.lit false))
        (.load 0 (.off (.var 8) 1 (.lit 0)) [(.int .i64)] []
        (.again 1 0 [.bool] [(.bool (.cmp .neq (.var 9) (.var 8)))] []))))
       (.again 1 0 [.bool] [(.bool (.lit false))] [])))
    (.ite (.var 9)
     (.ret (.tup [(.cst (.slice none 0 0)), (.int .i64 (.lit 2))]) [])
     (.again 0 0 [.sl, (.int .i64), (.int .i64)] [(.sl 3 (.lit 0) (.var 4) (.var 5)), (.int .i64 (.var 6)), (.int .i64 (.bin .add .i64 (.var 7) (.lit 1)))] [])))))
    (.loop 0 [.sl, (.int .i64)] [(.cst (.slice none 0 0)), (.int .i64 (.lit 0))] [] []
     (.chk (.cmp .geq (.var 1) (.lit 0))
     (.ite (.cmp .lss (.var 11) (.var 1))
      (.loop 1 [.sl, (.int .i64)] [(.cst (.slice none 0 0)), (.int .i64 (.lit 0))] [] []
       (.chk (.cmp .geq (.var 1) (.lit 0))
       (.ite (.cmp .lss (.var 15) (.var 1))
        (.chk (.pick (.cmp .geq (.var 15) (.lit 0)) (.pick (.cmp .lss (.var 15) (.var 1)) (.some 0) (.lit false)) (.lit false))
        (.load 0 (.off (.var 15) 1 (.lit 0)) [(.int .i64)] []
        (.join 2 [.sl] []
         (.ite (.cmp .eql (.var 16) (.var 11))
          (.alloc
          (.ext false ⟨(.call ⟨.builtin .append, #[(.tmp 0), (.tmp 0)], #[30, 30]⟩), 30, [(.sl 12 (.lit 0) (.var 13) (.var 14)), (.slc 0 0 1 1)]⟩ .sl [⟨[(.int .i64 (.var 15))], 3⟩]
          (.again 2 0 [.sl] [(.sl 17 (.lit 0) (.var 18) (.var 19))] [⟨[(.int .i64 (.var 15))], 3⟩])))
          (.again 2 0 [.sl] [(.sl 12 (.lit 0) (.var 13) (.var 14))] []))
        (.again 1 0 [.sl, (.int .i64)] [(.sl 17 (.lit 0) (.var 18) (.var 19)), (.int .i64 (.bin .add .i64 (.var 15) (.lit 1)))] []))))
        (.chk (.cmp .geq (.var 13) (.lit 0))
        (.join 1 [.sl] []
         (.ite (.cmp .gtr (.var 13) (.lit 0))
          (.alloc
          (.ext false ⟨(.call ⟨.builtin .append, #[(.tmp 0), (.tmp 0)], #[60, 60]⟩), 60, [(.sl 8 (.lit 0) (.var 9) (.var 10)), (.slc 0 0 1 1)]⟩ .sl [⟨[(.sl 12 (.lit 0) (.var 13) (.var 14))], 30⟩]
          (.again 1 0 [.sl] [(.sl 16 (.lit 0) (.var 17) (.var 18))] [⟨[(.sl 12 (.lit 0) (.var 13) (.var 14))], 30⟩])))
          (.again 1 0 [.sl] [(.sl 8 (.lit 0) (.var 9) (.var 10))] []))
        (.again 0 0 [.sl, (.int .i64)] [(.sl 16 (.lit 0) (.var 17) (.var 18)), (.int .i64 (.bin .add .i64 (.var 11) (.lit 1)))] []))))))
      (.ret (.tup [(.sl 8 (.lit 0) (.var 9) (.var 10)), (.int .i64 (.lit 0))]) [])))))))))
theorem S_ref19_Sets : FnIs Tryd.prog n_ref19_Sets [.sl] T_ref19_Sets := ⟨Tryd.f42, [{ key := 200007, tmps := [(41, .bool)], join := true, dead := 4648000756639294483458 }, { key := 18, tmps := [], join := true }, { key := 20, tmps := [], join := true }], 4000, Tryd.func42, by kernel_rfl⟩
/-! 43 ablaut/ablautlaw19.lists  -/
abbrev n_law19_lists : FuncId := 43
def T_law19_lists : Tree :=
 (.call false 77 [(.sl 0 (.lit 0) (.var 1) (.var 2)), (.sl 3 (.lit 0) (.var 4) (.var 5)), (.cst (.func (.func 78) #[] #[]))] .bool []
 (.ret (.bool (.var 6)) []))
theorem S_law19_lists : FnIs Tryd.prog n_law19_lists [.sl, .sl] T_law19_lists := ⟨Tryd.f43, [], 4000, Tryd.func43, by kernel_rfl⟩
/-! 77 slices.EqualFunc[[][]int,[][]int,[]int,[]int]  -/
abbrev n_slices_EqualFunc_____int_____int___int___int_ : FuncId := 77
def T_slices_EqualFunc_____int_____int___int___int_ : Tree :=
 (.chk (.cmp .geq (.var 1) (.lit 0))
 (.chk (.cmp .geq (.var 4) (.lit 0))
 (.ite (.cmp .neq (.var 1) (.var 4))
  (.ret (.bool (.lit false)) [])
  (.chk (.cmp .geq (.var 1) (.lit 0))
  (.loop 0 [.bool, (.int .i64)] [(.bool (.lit false)), (.int .i64 (.lit 0))] [] []
   (.ite (.cmp .lss (.var 8) (.var 1))
    (.chk (.pick (.cmp .geq (.var 8) (.lit 0)) (.pick (.cmp .lss (.var 8) (.var 1)) (.some 0) (.lit false)) (.lit false))
    (.load 0 (.off (.var 8) 1 (.lit 0)) [.sl] []
    (.chk (.pick (.cmp .geq (.var 8) (.lit 0)) (.pick (.cmp .lss (.var 8) (.var 4)) (.some 3) (.lit false)) (.lit false))
    (.load 3 (.off (.var 8) 1 (.lit 0)) [.sl] []
    (.callv false (.val 6) [(.sl 9 (.lit 0) (.var 10) (.var 11)), (.sl 12 (.lit 0) (.var 13) (.var 14))] .bool []
    (.ite (.not (.var 15))
     (.ret (.bool (.lit false)) [])
     (.again 0 0 [.bool, (.int .i64)] [(.bool (.var 7)), (.int .i64 (.bin .add .i64 (.var 8) (.lit 1)))] [])))))))
    (.ret (.bool (.lit true)) [])))))))
theorem S_slices_EqualFunc_____int_____int___int___int_ : FnIs Tryd.prog n_slices_EqualFunc_____int_____int___int___int_ [.sl, .sl, .val] T_slices_EqualFunc_____int_____int___int___int_ := ⟨Tryd.f77, [], 4000, Tryd.func77, by kernel_rfl⟩
/-! 78 ablaut/ablautlaw19.lists$1  -/
abbrev n_law19_lists_1 : FuncId := 78
def T_law19_lists_1 : Tree :=
 (.call false 21 [(.sl 0 (.lit 0) (.var 1) (.var 2)), (.sl 3 (.lit 0) (.var 4) (.var 5))] .bool []
 (.ret (.bool (.var 6)) []))
theorem S_law19_lists_1 : FnIs Tryd.prog n_law19_lists_1 [.sl, .sl] T_law19_lists_1 := ⟨Tryd.f78, [], 4000, Tryd.func78, by kernel_rfl⟩
end Go.Proofs.YthabfpagilbplaaDoor
