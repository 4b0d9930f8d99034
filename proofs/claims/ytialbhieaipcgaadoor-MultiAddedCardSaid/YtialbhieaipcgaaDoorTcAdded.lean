/- The trees of this seat's functions, printed by a program of mine (SyGen), checked here by the kernel. -/
import Derived.Test.YtialbhieaipcgaaDoorSyDef
import Derived.Test.YtialbhieaipcgaaDoorProg
import Derived.KernelRfl
set_option maxRecDepth 100000
namespace Go.Proofs.YtialbhieaipcgaaDoor
open Go Go.Sy
/-! 9 ablaut/ablautlaw18.MultiAdded  -/
abbrev n_law18_MultiAdded : FuncId := 9
def T_law18_MultiAdded : Tree :=
 (.alloc
 (.join 0 [.bool] [⟨[(.sl 6 (.lit 0) (.var 7) (.var 8)), (.int .i64 (.var 9))], 26⟩]
  (.call false 25 [(.sl 0 (.lit 0) (.var 1) (.var 2)), (.int .i64 (.lit 4)), (.int .i64 (.lit 8))] .bool [⟨[(.sl 6 (.lit 0) (.var 7) (.var 8)), (.int .i64 (.var 9))], 26⟩]
  (.ite (.not (.var 13))
   (.again 0 1 [.bool] [(.bool (.lit true))] [⟨[(.sl 6 (.lit 0) (.var 7) (.var 8)), (.int .i64 (.var 9))], 26⟩])
   (.alloc
   (.call false 25 [(.slc 1 0 1 1), (.int .i64 (.lit 1)), (.int .i64 (.lit 8))] .bool [⟨[(.sl 6 (.lit 0) (.var 7) (.var 8)), (.int .i64 (.var 9))], 26⟩, ⟨[(.sl 3 (.lit 0) (.var 4) (.var 5))], 46⟩]
   (.ite (.not (.var 14))
    (.again 0 1 [.bool] [(.bool (.lit true))] [⟨[(.sl 6 (.lit 0) (.var 7) (.var 8)), (.int .i64 (.var 9))], 26⟩, ⟨[(.sl 3 (.lit 0) (.var 4) (.var 5))], 46⟩])
    (.chk (.cmp .geq (.var 11) (.lit 0))
    (.ite (.cmp .gtr (.var 11) (.lit 100))
     (.again 0 1 [.bool] [(.bool (.lit true))] [⟨[(.sl 6 (.lit 0) (.var 7) (.var 8)), (.int .i64 (.var 9))], 26⟩, ⟨[(.sl 3 (.lit 0) (.var 4) (.var 5))], 46⟩])
     (.call false 26 [(.agg [(.sl 6 (.lit 0) (.var 7) (.var 8)), (.int .i64 (.var 9))])] (.int .i64) [⟨[(.sl 6 (.lit 0) (.var 7) (.var 8)), (.int .i64 (.var 9))], 26⟩, ⟨[(.sl 3 (.lit 0) (.var 4) (.var 5))], 46⟩]
     (.again 0 1 [.bool] [(.bool (.cmp .neq (.var 15) (.lit 0)))] [⟨[(.sl 6 (.lit 0) (.var 7) (.var 8)), (.int .i64 (.var 9))], 26⟩, ⟨[(.sl 3 (.lit 0) (.var 4) (.var 5))], 46⟩])))))))))
 (.ite (.var 13)
  (.call false 16 [] .bool [⟨[(.sl 6 (.lit 0) (.var 7) (.var 8)), (.int .i64 (.var 9))], 26⟩]
  (.ret (.bool (.var 14)) [⟨[(.sl 6 (.lit 0) (.var 7) (.var 8)), (.int .i64 (.var 9))], 26⟩]))
  (.call false 27 [(.sl 0 (.lit 0) (.var 1) (.var 2)), (.sl 10 (.lit 0) (.var 11) (.var 12))] .sl [⟨[(.sl 6 (.lit 0) (.var 7) (.var 8)), (.int .i64 (.var 9))], 26⟩]
  (.alloc
  (.ext false ⟨(.call ⟨.builtin .append, #[(.tmp 0), (.tmp 0)], #[22, 22]⟩), 22, [(.slc 1 0 0 0), (.sl 0 (.lit 0) (.var 1) (.var 2))]⟩ .sl [⟨[(.sl 6 (.lit 0) (.var 7) (.var 8)), (.int .i64 (.var 9))], 26⟩, ⟨[], 46⟩]
  (.alloc
  (.ext false ⟨(.call ⟨.builtin .append, #[(.tmp 0), (.tmp 0)], #[22, 22]⟩), 22, [(.sl 17 (.lit 0) (.var 18) (.var 19)), (.slc 2 0 1 1)]⟩ .sl [⟨[(.sl 6 (.lit 0) (.var 7) (.var 8)), (.int .i64 (.var 9))], 26⟩, ⟨[], 46⟩, ⟨[(.sl 3 (.lit 0) (.var 4) (.var 5))], 46⟩]
  (.call false 30 [(.sl 0 (.lit 0) (.var 1) (.var 2)), (.sl 14 (.lit 0) (.var 15) (.var 16)), (.sl 3 (.lit 0) (.var 4) (.var 5)), (.agg [(.sl 6 (.lit 0) (.var 7) (.var 8)), (.int .i64 (.var 9))])] (.tup [.sl, (.int .i64)]) [⟨[(.sl 6 (.lit 0) (.var 7) (.var 8)), (.int .i64 (.var 9))], 26⟩, ⟨[], 46⟩, ⟨[(.sl 3 (.lit 0) (.var 4) (.var 5))], 46⟩]
  (.chk (.cmp .geq (.var 1) (.lit 0))
  (.call false 29 [(.sl 20 (.lit 0) (.var 21) (.var 22)), (.sl 23 (.lit 0) (.var 24) (.var 25)), (.int .i64 (.var 1))] (.tup [.sl, (.int .i64)]) [⟨[(.sl 6 (.lit 0) (.var 7) (.var 8)), (.int .i64 (.var 9))], 26⟩, ⟨[], 46⟩, ⟨[(.sl 3 (.lit 0) (.var 4) (.var 5))], 46⟩]
  (.join 0 [.bool] [⟨[(.sl 6 (.lit 0) (.var 7) (.var 8)), (.int .i64 (.var 9))], 26⟩, ⟨[], 46⟩, ⟨[(.sl 3 (.lit 0) (.var 4) (.var 5))], 46⟩]
   (.ite (.pick (.cmp .neq (.var 26) (.lit 0)) (.lit true) (.cmp .neq (.var 30) (.lit 0)))
    (.again 0 3 [.bool] [(.bool (.lit true))] [⟨[(.sl 6 (.lit 0) (.var 7) (.var 8)), (.int .i64 (.var 9))], 26⟩, ⟨[], 46⟩, ⟨[(.sl 3 (.lit 0) (.var 4) (.var 5))], 46⟩])
    (.call false 32 [(.sl 20 (.lit 0) (.var 21) (.var 22)), (.sl 23 (.lit 0) (.var 24) (.var 25))] (.int .i64) [⟨[(.sl 6 (.lit 0) (.var 7) (.var 8)), (.int .i64 (.var 9))], 26⟩, ⟨[], 46⟩, ⟨[(.sl 3 (.lit 0) (.var 4) (.var 5))], 46⟩]
    (.ite (.cmp .neq (.var 31) (.lit 0))
     (.again 0 3 [.bool] [(.bool (.lit true))] [⟨[(.sl 6 (.lit 0) (.var 7) (.var 8)), (.int .i64 (.var 9))], 26⟩, ⟨[], 46⟩, ⟨[(.sl 3 (.lit 0) (.var 4) (.var 5))], 46⟩])
     (.call false 28 [(.sl 27 (.lit 0) (.var 28) (.var 29)), (.sl 14 (.lit 0) (.var 15) (.var 16))] .bool [⟨[(.sl 6 (.lit 0) (.var 7) (.var 8)), (.int .i64 (.var 9))], 26⟩, ⟨[], 46⟩, ⟨[(.sl 3 (.lit 0) (.var 4) (.var 5))], 46⟩]
     (.again 0 3 [.bool] [(.bool (.not (.var 32)))] [⟨[(.sl 6 (.lit 0) (.var 7) (.var 8)), (.int .i64 (.var 9))], 26⟩, ⟨[], 46⟩, ⟨[(.sl 3 (.lit 0) (.var 4) (.var 5))], 46⟩])))))
  (.ite (.var 31)
   (.ret (.bool (.lit false)) [⟨[(.sl 6 (.lit 0) (.var 7) (.var 8)), (.int .i64 (.var 9))], 26⟩, ⟨[], 46⟩, ⟨[(.sl 3 (.lit 0) (.var 4) (.var 5))], 46⟩])
   (.call false 17 [(.sl 20 (.lit 0) (.var 21) (.var 22)), (.sl 23 (.lit 0) (.var 24) (.var 25)), (.agg [(.sl 6 (.lit 0) (.var 7) (.var 8)), (.int .i64 (.var 9))])] (.tup [(.int .i64), (.int .i64)]) [⟨[(.sl 6 (.lit 0) (.var 7) (.var 8)), (.int .i64 (.var 9))], 26⟩, ⟨[], 46⟩, ⟨[(.sl 3 (.lit 0) (.var 4) (.var 5))], 46⟩]
   (.loop 0 [.sl, .sl, (.int .i64)] [(.cst (.slice none 0 0)), (.cst (.slice none 0 0)), (.int .i64 (.lit 0))] [⟨[(.sl 6 (.lit 0) (.var 7) (.var 8)), (.int .i64 (.var 9))], 26⟩, ⟨[], 46⟩, ⟨[(.sl 3 (.lit 0) (.var 4) (.var 5))], 46⟩] [⟨[(.sl 6 (.lit 0) (.var 7) (.var 8)), (.int .i64 (.var 9))], 26⟩, ⟨[], 46⟩, ⟨[(.sl 3 (.lit 0) (.var 4) (.var 5))], 46⟩]
    (.chk (.cmp .geq (.var 15) (.lit 0))
    (.ite (.cmp .lss (.var 40) (.var 15))
     (.alloc
     (.chk (.pick (.cmp .geq (.var 40) (.lit 0)) (.pick (.cmp .lss (.var 40) (.var 15)) (.some 14) (.lit false)) (.lit false))
     (.load 14 (.off (.var 40) 1 (.lit 0)) [.sl] [⟨[(.sl 6 (.lit 0) (.var 7) (.var 8)), (.int .i64 (.var 9))], 26⟩, ⟨[], 46⟩, ⟨[(.sl 3 (.lit 0) (.var 4) (.var 5))], 46⟩, ⟨[], 3⟩]
     (.ext false ⟨(.call ⟨.builtin .append, #[(.tmp 0), (.tmp 0)], #[49, 49]⟩), 49, [(.slc 3 0 0 0), (.sl 41 (.lit 0) (.var 42) (.var 43))]⟩ .sl [⟨[(.sl 6 (.lit 0) (.var 7) (.var 8)), (.int .i64 (.var 9))], 26⟩, ⟨[], 46⟩, ⟨[(.sl 3 (.lit 0) (.var 4) (.var 5))], 46⟩, ⟨[], 3⟩]
     (.alloc
     (.ext false ⟨(.call ⟨.builtin .append, #[(.tmp 0), (.tmp 0)], #[49, 49]⟩), 49, [(.sl 44 (.lit 0) (.var 45) (.var 46)), (.slc 4 0 1 1)]⟩ .sl [⟨[(.sl 6 (.lit 0) (.var 7) (.var 8)), (.int .i64 (.var 9))], 26⟩, ⟨[], 46⟩, ⟨[(.sl 3 (.lit 0) (.var 4) (.var 5))], 46⟩, ⟨[], 3⟩, ⟨[(.int .i64 (.lit (-1)))], 3⟩]
     (.alloc
     (.ext false ⟨(.call ⟨.builtin .append, #[(.tmp 0), (.tmp 0)], #[23, 23]⟩), 23, [(.sl 34 (.lit 0) (.var 35) (.var 36)), (.slc 5 0 1 1)]⟩ .sl [⟨[(.sl 6 (.lit 0) (.var 7) (.var 8)), (.int .i64 (.var 9))], 26⟩, ⟨[], 46⟩, ⟨[(.sl 3 (.lit 0) (.var 4) (.var 5))], 46⟩, ⟨[], 3⟩, ⟨[(.int .i64 (.lit (-1)))], 3⟩, ⟨[(.sl 47 (.lit 0) (.var 48) (.var 49))], 49⟩]
     (.chk (.cmp .geq (.var 4) (.lit 0))
     (.join 1 [(.int .i64)] [⟨[(.sl 6 (.lit 0) (.var 7) (.var 8)), (.int .i64 (.var 9))], 26⟩, ⟨[], 46⟩, ⟨[(.sl 3 (.lit 0) (.var 4) (.var 5))], 46⟩, ⟨[], 3⟩, ⟨[(.int .i64 (.lit (-1)))], 3⟩, ⟨[(.sl 47 (.lit 0) (.var 48) (.var 49))], 49⟩]
      (.ite (.cmp .lss (.var 40) (.var 4))
       (.again 1 6 [(.int .i64)] [(.int .i64 (.var 40))] [⟨[(.sl 6 (.lit 0) (.var 7) (.var 8)), (.int .i64 (.var 9))], 26⟩, ⟨[], 46⟩, ⟨[(.sl 3 (.lit 0) (.var 4) (.var 5))], 46⟩, ⟨[], 3⟩, ⟨[(.int .i64 (.lit (-1)))], 3⟩, ⟨[(.sl 47 (.lit 0) (.var 48) (.var 49))], 49⟩])
       (.again 1 6 [(.int .i64)] [(.int .i64 (.lit (-1)))] [⟨[(.sl 6 (.lit 0) (.var 7) (.var 8)), (.int .i64 (.var 9))], 26⟩, ⟨[], 46⟩, ⟨[(.sl 3 (.lit 0) (.var 4) (.var 5))], 46⟩, ⟨[], 3⟩, ⟨[(.int .i64 (.lit (-1)))], 3⟩, ⟨[(.sl 47 (.lit 0) (.var 48) (.var 49))], 49⟩]))
     (.alloc
     (.chk (.pick (.cmp .geq (.var 40) (.lit 0)) (.pick (.cmp .lss (.var 40) (.var 15)) (.some 14) (.lit false)) (.lit false))
     (.load 14 (.off (.var 40) 1 (.lit 0)) [.sl] [⟨[(.sl 6 (.lit 0) (.var 7) (.var 8)), (.int .i64 (.var 9))], 26⟩, ⟨[], 46⟩, ⟨[(.sl 3 (.lit 0) (.var 4) (.var 5))], 46⟩, ⟨[], 3⟩, ⟨[(.int .i64 (.lit (-1)))], 3⟩, ⟨[(.sl 47 (.lit 0) (.var 48) (.var 49))], 49⟩, ⟨[], 3⟩]
     (.ext false ⟨(.call ⟨.builtin .append, #[(.tmp 0), (.tmp 0)], #[49, 49]⟩), 49, [(.slc 6 0 0 0), (.sl 54 (.lit 0) (.var 55) (.var 56))]⟩ .sl [⟨[(.sl 6 (.lit 0) (.var 7) (.var 8)), (.int .i64 (.var 9))], 26⟩, ⟨[], 46⟩, ⟨[(.sl 3 (.lit 0) (.var 4) (.var 5))], 46⟩, ⟨[], 3⟩, ⟨[(.int .i64 (.lit (-1)))], 3⟩, ⟨[(.sl 47 (.lit 0) (.var 48) (.var 49))], 49⟩, ⟨[], 3⟩]
     (.alloc
     (.ext false ⟨(.call ⟨.builtin .append, #[(.tmp 0), (.tmp 0)], #[49, 49]⟩), 49, [(.sl 57 (.lit 0) (.var 58) (.var 59)), (.slc 7 0 1 1)]⟩ .sl [⟨[(.sl 6 (.lit 0) (.var 7) (.var 8)), (.int .i64 (.var 9))], 26⟩, ⟨[], 46⟩, ⟨[(.sl 3 (.lit 0) (.var 4) (.var 5))], 46⟩, ⟨[], 3⟩, ⟨[(.int .i64 (.lit (-1)))], 3⟩, ⟨[(.sl 47 (.lit 0) (.var 48) (.var 49))], 49⟩, ⟨[], 3⟩, ⟨[(.int .i64 (.var 53))], 3⟩]
     (.alloc
     (.ext false ⟨(.call ⟨.builtin .append, #[(.tmp 0), (.tmp 0)], #[23, 23]⟩), 23, [(.sl 37 (.lit 0) (.var 38) (.var 39)), (.slc 8 0 1 1)]⟩ .sl [⟨[(.sl 6 (.lit 0) (.var 7) (.var 8)), (.int .i64 (.var 9))], 26⟩, ⟨[], 46⟩, ⟨[(.sl 3 (.lit 0) (.var 4) (.var 5))], 46⟩, ⟨[], 3⟩, ⟨[(.int .i64 (.lit (-1)))], 3⟩, ⟨[(.sl 47 (.lit 0) (.var 48) (.var 49))], 49⟩, ⟨[], 3⟩, ⟨[(.int .i64 (.var 53))], 3⟩, ⟨[(.sl 60 (.lit 0) (.var 61) (.var 62))], 49⟩]
     (.again 0 3 [.sl, .sl, (.int .i64)] [(.sl 50 (.lit 0) (.var 51) (.var 52)), (.sl 63 (.lit 0) (.var 64) (.var 65)), (.int .i64 (.bin .add .i64 (.var 40) (.lit 1)))] [⟨[(.sl 6 (.lit 0) (.var 7) (.var 8)), (.int .i64 (.var 9))], 26⟩, ⟨[], 46⟩, ⟨[(.sl 3 (.lit 0) (.var 4) (.var 5))], 46⟩, ⟨[], 3⟩, ⟨[(.int .i64 (.lit (-1)))], 3⟩, ⟨[(.sl 47 (.lit 0) (.var 48) (.var 49))], 49⟩, ⟨[], 3⟩, ⟨[(.int .i64 (.var 53))], 3⟩, ⟨[(.sl 60 (.lit 0) (.var 61) (.var 62))], 49⟩])))))))))))))))))))
     (.loop 0 [.sl, .sl, (.int .i64)] [(.sl 34 (.lit 0) (.var 35) (.var 36)), (.sl 37 (.lit 0) (.var 38) (.var 39)), (.int .i64 (.lit 0))] [⟨[(.sl 6 (.lit 0) (.var 7) (.var 8)), (.int .i64 (.var 9))], 26⟩, ⟨[], 46⟩, ⟨[(.sl 3 (.lit 0) (.var 4) (.var 5))], 46⟩] [⟨[(.sl 6 (.lit 0) (.var 7) (.var 8)), (.int .i64 (.var 9))], 26⟩, ⟨[], 46⟩, ⟨[(.sl 3 (.lit 0) (.var 4) (.var 5))], 46⟩]
      (.chk (.cmp .geq (.var 4) (.lit 0))
      (.ite (.cmp .lss (.var 47) (.var 4))
       (.chk (.cmp .geq (.var 1) (.lit 0))
       (.ext false ⟨(.makeSlice 49 (.tmp 0) (.tmp 0)), 49, [(.int .i64 (.bin .add .i64 (.var 1) (.lit 1))), (.int .i64 (.bin .add .i64 (.var 1) (.lit 1)))]⟩ .sl [⟨[(.sl 6 (.lit 0) (.var 7) (.var 8)), (.int .i64 (.var 9))], 26⟩, ⟨[], 46⟩, ⟨[(.sl 3 (.lit 0) (.var 4) (.var 5))], 46⟩]
       (.loop 1 [(.int .i64)] [(.int .i64 (.lit 0))] [⟨[(.sl 6 (.lit 0) (.var 7) (.var 8)), (.int .i64 (.var 9))], 26⟩, ⟨[], 46⟩, ⟨[(.sl 3 (.lit 0) (.var 4) (.var 5))], 46⟩] [⟨[(.sl 6 (.lit 0) (.var 7) (.var 8)), (.int .i64 (.var 9))], 26⟩, ⟨[], 46⟩, ⟨[(.sl 3 (.lit 0) (.var 4) (.var 5))], 46⟩]
        (.chk (.cmp .geq (.var 1) (.lit 0))
        (.ite (.cmp .lss (.var 51) (.var 1))
         (.chk (.pick (.cmp .geq (.var 51) (.lit 0)) (.pick (.cmp .lss (.var 51) (.var 49)) (.some 48) (.lit false)) (.lit false))
         (.store false 48 (.off (.var 51) 1 (.lit 0)) [(.int .i64 (.lit (-1)))] [⟨[(.sl 6 (.lit 0) (.var 7) (.var 8)), (.int .i64 (.var 9))], 26⟩, ⟨[], 46⟩, ⟨[(.sl 3 (.lit 0) (.var 4) (.var 5))], 46⟩]
         (.again 1 3 [(.int .i64)] [(.int .i64 (.bin .add .i64 (.var 51) (.lit 1)))] [⟨[(.sl 6 (.lit 0) (.var 7) (.var 8)), (.int .i64 (.var 9))], 26⟩, ⟨[], 46⟩, ⟨[(.sl 3 (.lit 0) (.var 4) (.var 5))], 46⟩])))
         (.chk (.cmp .geq (.var 1) (.lit 0))
         (.chk (.pick (.cmp .geq (.var 1) (.lit 0)) (.pick (.cmp .lss (.var 1) (.var 49)) (.some 48) (.lit false)) (.lit false))
         (.store false 48 (.off (.var 1) 1 (.lit 0)) [(.int .i64 (.var 47))] [⟨[(.sl 6 (.lit 0) (.var 7) (.var 8)), (.int .i64 (.var 9))], 26⟩, ⟨[], 46⟩, ⟨[(.sl 3 (.lit 0) (.var 4) (.var 5))], 46⟩]
         (.alloc
         (.ext false ⟨(.call ⟨.builtin .append, #[(.tmp 0), (.tmp 0)], #[23, 23]⟩), 23, [(.sl 41 (.lit 0) (.var 42) (.var 43)), (.slc 3 0 1 1)]⟩ .sl [⟨[(.sl 6 (.lit 0) (.var 7) (.var 8)), (.int .i64 (.var 9))], 26⟩, ⟨[], 46⟩, ⟨[(.sl 3 (.lit 0) (.var 4) (.var 5))], 46⟩, ⟨[(.sl 48 (.lit 0) (.var 49) (.var 50))], 49⟩]
         (.chk (.cmp .geq (.var 15) (.lit 0))
         (.join 1 [.sl] [⟨[(.sl 6 (.lit 0) (.var 7) (.var 8)), (.int .i64 (.var 9))], 26⟩, ⟨[], 46⟩, ⟨[(.sl 3 (.lit 0) (.var 4) (.var 5))], 46⟩, ⟨[(.sl 48 (.lit 0) (.var 49) (.var 50))], 49⟩]
          (.ite (.cmp .geq (.var 47) (.var 15))
           (.alloc
           (.ext false ⟨(.call ⟨.builtin .append, #[(.tmp 0), (.tmp 0)], #[23, 23]⟩), 23, [(.sl 44 (.lit 0) (.var 45) (.var 46)), (.slc 4 0 1 1)]⟩ .sl [⟨[(.sl 6 (.lit 0) (.var 7) (.var 8)), (.int .i64 (.var 9))], 26⟩, ⟨[], 46⟩, ⟨[(.sl 3 (.lit 0) (.var 4) (.var 5))], 46⟩, ⟨[(.sl 48 (.lit 0) (.var 49) (.var 50))], 49⟩, ⟨[(.sl 48 (.lit 0) (.var 49) (.var 50))], 49⟩]
           (.again 1 4 [.sl] [(.sl 55 (.lit 0) (.var 56) (.var 57))] [⟨[(.sl 6 (.lit 0) (.var 7) (.var 8)), (.int .i64 (.var 9))], 26⟩, ⟨[], 46⟩, ⟨[(.sl 3 (.lit 0) (.var 4) (.var 5))], 46⟩, ⟨[(.sl 48 (.lit 0) (.var 49) (.var 50))], 49⟩, ⟨[(.sl 48 (.lit 0) (.var 49) (.var 50))], 49⟩])))
           (.again 1 4 [.sl] [(.sl 44 (.lit 0) (.var 45) (.var 46))] [⟨[(.sl 6 (.lit 0) (.var 7) (.var 8)), (.int .i64 (.var 9))], 26⟩, ⟨[], 46⟩, ⟨[(.sl 3 (.lit 0) (.var 4) (.var 5))], 46⟩, ⟨[(.sl 48 (.lit 0) (.var 49) (.var 50))], 49⟩]))
         (.again 0 3 [.sl, .sl, (.int .i64)] [(.sl 52 (.lit 0) (.var 53) (.var 54)), (.sl 55 (.lit 0) (.var 56) (.var 57)), (.int .i64 (.bin .add .i64 (.var 47) (.lit 1)))] [⟨[(.sl 6 (.lit 0) (.var 7) (.var 8)), (.int .i64 (.var 9))], 26⟩, ⟨[], 46⟩, ⟨[(.sl 3 (.lit 0) (.var 4) (.var 5))], 46⟩, ⟨[(.sl 48 (.lit 0) (.var 49) (.var 50))], 49⟩])))))))))))))
       (.call false 17 [(.sl 20 (.lit 0) (.var 21) (.var 22)), (.sl 41 (.lit 0) (.var 42) (.var 43)), (.agg [(.sl 6 (.lit 0) (.var 7) (.var 8)), (.int .i64 (.var 9))])] (.tup [(.int .i64), (.int .i64)]) [⟨[(.sl 6 (.lit 0) (.var 7) (.var 8)), (.int .i64 (.var 9))], 26⟩, ⟨[], 46⟩, ⟨[(.sl 3 (.lit 0) (.var 4) (.var 5))], 46⟩]
       (.call false 17 [(.sl 20 (.lit 0) (.var 21) (.var 22)), (.sl 44 (.lit 0) (.var 45) (.var 46)), (.agg [(.sl 6 (.lit 0) (.var 7) (.var 8)), (.int .i64 (.var 9))])] (.tup [(.int .i64), (.int .i64)]) [⟨[(.sl 6 (.lit 0) (.var 7) (.var 8)), (.int .i64 (.var 9))], 26⟩, ⟨[], 46⟩, ⟨[(.sl 3 (.lit 0) (.var 4) (.var 5))], 46⟩]
       (.join 0 [.bool] [⟨[(.sl 6 (.lit 0) (.var 7) (.var 8)), (.int .i64 (.var 9))], 26⟩, ⟨[], 46⟩, ⟨[(.sl 3 (.lit 0) (.var 4) (.var 5))], 46⟩]
        (.ite (.pick (.pick (.pick (.pick (.cmp .eql (.var 33) (.lit 0)) (.cmp .eql (.var 49) (.lit 0)) (.lit false)) (.cmp .eql (.var 51) (.lit 0)) (.lit false)) (.cmp .leq (.var 32) (.var 48)) (.lit false)) (.cmp .leq (.var 32) (.var 50)) (.lit false))
         (.call false 16 [] .bool [⟨[(.sl 6 (.lit 0) (.var 7) (.var 8)), (.int .i64 (.var 9))], 26⟩, ⟨[], 46⟩, ⟨[(.sl 3 (.lit 0) (.var 4) (.var 5))], 46⟩]
         (.again 0 3 [.bool] [(.bool (.var 52))] [⟨[(.sl 6 (.lit 0) (.var 7) (.var 8)), (.int .i64 (.var 9))], 26⟩, ⟨[], 46⟩, ⟨[(.sl 3 (.lit 0) (.var 4) (.var 5))], 46⟩]))
         (.again 0 3 [.bool] [(.bool (.lit false))] [⟨[(.sl 6 (.lit 0) (.var 7) (.var 8)), (.int .i64 (.var 9))], 26⟩, ⟨[], 46⟩, ⟨[(.sl 3 (.lit 0) (.var 4) (.var 5))], 46⟩]))
       (.ret (.bool (.var 52)) [⟨[(.sl 6 (.lit 0) (.var 7) (.var 8)), (.int .i64 (.var 9))], 26⟩, ⟨[], 46⟩, ⟨[(.sl 3 (.lit 0) (.var 4) (.var 5))], 46⟩]))))))))))))))))))))))))
theorem S_law18_MultiAdded : FnIs Tryd.prog n_law18_MultiAdded [.sl, .sl, (.agg [.sl, (.int .i64)]), .sl] T_law18_MultiAdded := ⟨Tryd.f9, [{ key := 200001, tmps := [(46, .bool)], join := true, dead := 51422017416275996759599092859234911910284553071638731538038960 }, { key := 200007, tmps := [(90, .bool)], join := true }, { key := 17, tmps := [], join := true }, { key := 30, tmps := [], join := true }, { key := 200033, tmps := [], join := true }], 4000, Tryd.func9, by kernel_rfl⟩
end Go.Proofs.YtialbhieaipcgaaDoor
