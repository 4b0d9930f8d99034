/- The trees of this seat's functions, printed by a program of mine (SyGen), checked here by the kernel. -/
import Derived.Test.YthabfpagilbplaaDoorSyDef
import Derived.Test.YthabfpagilbplaaDoorProg
import Derived.KernelRfl
set_option maxRecDepth 100000
namespace Go.Proofs.YthabfpagilbplaaDoor
open Go Go.Sy
/-! 11 ablaut/ablautlaw19.CognatesClasses  -/
abbrev n_law19_CognatesClasses : FuncId := 11
def T_law19_CognatesClasses : Tree :=
 (.chk (.cmp .geq (.var 1) (.lit 0))
 (.chk (.pick (.cmp .leq (.lit 0) (.mn (.var 1) (.lit 256))) (.cmp .leq (.mn (.var 1) (.lit 256)) (.var 2)) (.lit false))
 (.chk (.cmp .geq (.mn (.var 1) (.lit 256)) (.lit 0))
 (.loop 0 [.sl, (.int .i64)] [(.cst (.slice none 0 0)), (.int .i64 (.lit 0))] [] []
  (.ite (.cmp .lss (.var 6) (.mn (.var 1) (.lit 256)))
   (.chk (.pick (.cmp .geq (.ifeq (.var 2) (.lit 0) (.lit 0) (.lit 0)) (.lit 0)) (.pick (.cmp .geq (.var 6) (.lit 0)) (.pick (.cmp .lss (.var 6) (.mn (.var 1) (.lit 256))) (.some 0) (.lit false)) (.lit false)) (.lit false))
   (.load 0 (.off (.var 6) 1 (.ifeq (.var 2) (.lit 0) (.lit 0) (.lit 0))) [(.int .u16)] []
   (.ite (.cmp .eql (.bin .rem .u16 (.var 7) (.lit 5)) (.lit 0))
    (.alloc
    (.ext false ⟨(.call ⟨.builtin .append, #[(.tmp 0), (.tmp 0)], #[30, 30]⟩), 30, [(.sl 3 (.lit 0) (.var 4) (.var 5)), (.slc 0 0 1 1)]⟩ .sl [⟨[(.int .i64 (.lit (-1)))], 3⟩]
    (.again 0 0 [.sl, (.int .i64)] [(.sl 8 (.lit 0) (.var 9) (.var 10)), (.int .i64 (.bin .add .i64 (.var 6) (.lit 1)))] [⟨[(.int .i64 (.lit (-1)))], 3⟩])))
    (.ite (.pick (.cmp .eql (.bin .rem .u16 (.var 7) (.lit 5)) (.lit 1)) (.lit true) (.cmp .eql (.var 6) (.lit 0)))
     (.alloc
     (.ext false ⟨(.call ⟨.builtin .append, #[(.tmp 0), (.tmp 0)], #[30, 30]⟩), 30, [(.sl 3 (.lit 0) (.var 4) (.var 5)), (.slc 0 0 1 1)]⟩ .sl [⟨[(.int .i64 (.var 6))], 3⟩]
     (.again 0 0 [.sl, (.int .i64)] [(.sl 8 (.lit 0) (.var 9) (.var 10)), (.int .i64 (.bin .add .i64 (.var 6) (.lit 1)))] [⟨[(.int .i64 (.var 6))], 3⟩])))
     (.chk (.cmp .neq (.var 6) (.lit 0))
     (.chk (.pick (.cmp .geq (.bin .rem .i64 (.conv .i64 (.var 7)) (.var 6)) (.lit 0)) (.pick (.cmp .lss (.bin .rem .i64 (.conv .i64 (.var 7)) (.var 6)) (.var 4)) (.some 3) (.lit false)) (.lit false))
     (.load 3 (.off (.bin .rem .i64 (.conv .i64 (.var 7)) (.var 6)) 1 (.lit 0)) [(.int .i64)] []
     (.ite (.cmp .lss (.var 8) (.lit 0))
      (.alloc
      (.ext false ⟨(.call ⟨.builtin .append, #[(.tmp 0), (.tmp 0)], #[30, 30]⟩), 30, [(.sl 3 (.lit 0) (.var 4) (.var 5)), (.slc 0 0 1 1)]⟩ .sl [⟨[(.int .i64 (.var 6))], 3⟩]
      (.again 0 0 [.sl, (.int .i64)] [(.sl 9 (.lit 0) (.var 10) (.var 11)), (.int .i64 (.bin .add .i64 (.var 6) (.lit 1)))] [⟨[(.int .i64 (.var 6))], 3⟩])))
      (.chk (.cmp .neq (.var 6) (.lit 0))
      (.chk (.pick (.cmp .geq (.bin .rem .i64 (.conv .i64 (.var 7)) (.var 6)) (.lit 0)) (.pick (.cmp .lss (.bin .rem .i64 (.conv .i64 (.var 7)) (.var 6)) (.var 4)) (.some 3) (.lit false)) (.lit false))
      (.load 3 (.off (.bin .rem .i64 (.conv .i64 (.var 7)) (.var 6)) 1 (.lit 0)) [(.int .i64)] []
      (.alloc
      (.ext false ⟨(.call ⟨.builtin .append, #[(.tmp 0), (.tmp 0)], #[30, 30]⟩), 30, [(.sl 3 (.lit 0) (.var 4) (.var 5)), (.slc 0 0 1 1)]⟩ .sl [⟨[(.int .i64 (.var 9))], 3⟩]
      (.again 0 0 [.sl, (.int .i64)] [(.sl 10 (.lit 0) (.var 11) (.var 12)), (.int .i64 (.bin .add .i64 (.var 6) (.lit 1)))] [⟨[(.int .i64 (.var 9))], 3⟩]))))))))))))))
   (.call false 41 [(.sl 3 (.lit 0) (.var 4) (.var 5))] (.tup [.sl, (.int .i64)]) []
   (.ite (.cmp .neq (.var 10) (.lit 0))
    (.ret (.bool (.lit false)) [])
    (.chk (.cmp .geq (.var 8) (.lit 0))
    (.loop 0 [.bool, (.int .i64), (.int .i64), (.int .i64)] [(.bool (.lit false)), (.int .i64 (.lit 0)), (.int .i64 (.lit (-1))), (.int .i64 (.lit 0))] [] []
     (.ite (.cmp .lss (.var 14) (.var 8))
      (.chk (.pick (.cmp .geq (.var 14) (.lit 0)) (.pick (.cmp .lss (.var 14) (.var 8)) (.some 7) (.lit false)) (.lit false))
      (.load 7 (.off (.var 14) 1 (.lit 0)) [.sl] []
      (.chk (.cmp .geq (.var 16) (.lit 0))
      (.ite (.cmp .eql (.var 16) (.lit 0))
       (.ret (.bool (.lit false)) [])
       (.chk (.pick (.cmp .lss (.lit 0) (.var 16)) (.some 15) (.lit false))
       (.load 15 (.lit 0) [(.int .i64)] []
       (.ite (.cmp .leq (.var 18) (.var 13))
        (.ret (.bool (.lit false)) [])
        (.call false 44 [(.sl 15 (.lit 0) (.var 16) (.var 17))] .bool []
        (.ite (.not (.var 19))
         (.ret (.bool (.lit false)) [])
         (.chk (.pick (.cmp .lss (.lit 0) (.var 16)) (.some 15) (.lit false))
         (.load 15 (.lit 0) [(.int .i64)] []
         (.chk (.cmp .geq (.var 16) (.lit 0))
         (.loop 1 [.bool, (.int .i64), (.int .i64)] [(.bool (.var 11)), (.int .i64 (.var 12)), (.int .i64 (.lit 0))] [] []
          (.ite (.cmp .lss (.var 23) (.var 16))
           (.chk (.pick (.cmp .geq (.var 23) (.lit 0)) (.pick (.cmp .lss (.var 23) (.var 16)) (.some 15) (.lit false)) (.lit false))
           (.load 15 (.off (.var 23) 1 (.lit 0)) [(.int .i64)] []
           (.ite (.cmp .lss (.var 24) (.lit 0))
            (.ret (.bool (.lit false)) [])
            (.chk (.cmp .geq (.var 4) (.lit 0))
            (.ite (.cmp .geq (.var 24) (.var 4))
             (.ret (.bool (.lit false)) [])
             (.chk (.pick (.cmp .geq (.var 24) (.lit 0)) (.pick (.cmp .lss (.var 24) (.var 4)) (.some 3) (.lit false)) (.lit false))
             (.load 3 (.off (.var 24) 1 (.lit 0)) [(.int .i64)] []
             (.chk (.pick (.cmp .lss (.lit 0) (.var 16)) (.some 15) (.lit false))
             (.load 15 (.lit 0) [(.int .i64)] []
             (.ite (.not (.cmp .neq (.var 25) (.var 26)))
              (.ite (.cmp .gtr (.var 23) (.lit 0))
               (.chk (.pick (.cmp .geq (.bin .sub .i64 (.var 23) (.lit 1)) (.lit 0)) (.pick (.cmp .lss (.bin .sub .i64 (.var 23) (.lit 1)) (.var 16)) (.some 15) (.lit false)) (.lit false))
               (.load 15 (.off (.bin .sub .i64 (.var 23) (.lit 1)) 1 (.lit 0)) [(.int .i64)] []
               (.ite (.cmp .eql (.var 27) (.var 24))
                (.ret (.bool (.lit false)) [])
                (.again 1 0 [.bool, (.int .i64), (.int .i64)] [(.bool (.var 21)), (.int .i64 (.bin .add .i64 (.var 22) (.lit 1))), (.int .i64 (.bin .add .i64 (.var 23) (.lit 1)))] []))))
               (.again 1 0 [.bool, (.int .i64), (.int .i64)] [(.bool (.var 21)), (.int .i64 (.bin .add .i64 (.var 22) (.lit 1))), (.int .i64 (.bin .add .i64 (.var 23) (.lit 1)))] []))
              (.ret (.bool (.lit false)) [])))))))))))
           (.again 0 0 [.bool, (.int .i64), (.int .i64), (.int .i64)] [(.bool (.var 21)), (.int .i64 (.var 22)), (.int .i64 (.var 20)), (.int .i64 (.bin .add .i64 (.var 14) (.lit 1)))] [])))))))))))))))
      (.chk (.cmp .geq (.var 4) (.lit 0))
      (.loop 0 [(.int .i64), (.int .i64)] [(.int .i64 (.var 12)), (.int .i64 (.lit 0))] [] []
       (.ite (.cmp .lss (.var 16) (.var 4))
        (.chk (.pick (.cmp .geq (.var 16) (.lit 0)) (.pick (.cmp .lss (.var 16) (.var 4)) (.some 3) (.lit false)) (.lit false))
        (.load 3 (.off (.var 16) 1 (.lit 0)) [(.int .i64)] []
        (.ite (.cmp .geq (.var 17) (.lit 0))
         (.again 0 0 [(.int .i64), (.int .i64)] [(.int .i64 (.bin .sub .i64 (.var 15) (.lit 1))), (.int .i64 (.bin .add .i64 (.var 16) (.lit 1)))] [])
         (.again 0 0 [(.int .i64), (.int .i64)] [(.int .i64 (.var 15)), (.int .i64 (.bin .add .i64 (.var 16) (.lit 1)))] []))))
        (.ite (.cmp .eql (.var 15) (.lit 0))
         (.call false 16 [] .bool []
         (.ret (.bool (.var 17)) []))
         (.ret (.bool (.lit false)) [])))))))))))))))
theorem S_law19_CognatesClasses : FnIs Tryd.prog n_law19_CognatesClasses [.sl] T_law19_CognatesClasses := ⟨Tryd.f11, [], 4000, Tryd.func11, by kernel_rfl⟩
end Go.Proofs.YthabfpagilbplaaDoor
