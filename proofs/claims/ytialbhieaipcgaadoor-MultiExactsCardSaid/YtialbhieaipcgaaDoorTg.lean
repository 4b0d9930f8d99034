/- The trees of this seat's functions, printed by a program of mine (SyGen), checked here by the kernel. -/
import Derived.Test.YtialbhieaipcgaaDoorSyDef
import Derived.Test.YtialbhieaipcgaaDoorProg
import Derived.KernelRfl
set_option maxRecDepth 100000
namespace Go.Proofs.YtialbhieaipcgaaDoor
open Go Go.Sy
/-! 23 ablaut/multi.Exact  -/
abbrev n_multi_Exact : FuncId := 23
def T_multi_Exact : Tree :=
 (.alloc
 (.alloc
 (.alloc
 (.call false 46 [(.slc 2 0 2 2)] (.int .i64) [⟨[(.sl 0 (.lit 0) (.var 1) (.var 2))], 22⟩, ⟨[(.sl 3 (.lit 0) (.var 4) (.var 5)), (.int .i64 (.var 6))], 26⟩, ⟨[(.fn (.func 60) [] [(.loc 1 0)]), (.fn (.func 61) [] [(.loc 0 0)])], 73⟩]
 (.ite (.cmp .neq (.var 7) (.lit 0))
  (.ret (.tup [(.cst (.slice none 0 0)), (.int .i64 (.lit 0)), (.int .i64 (.var 7))]) [⟨[(.sl 0 (.lit 0) (.var 1) (.var 2))], 22⟩, ⟨[(.sl 3 (.lit 0) (.var 4) (.var 5)), (.int .i64 (.var 6))], 26⟩, ⟨[(.fn (.func 60) [] [(.loc 1 0)]), (.fn (.func 61) [] [(.loc 0 0)])], 73⟩])
  (.allocc 83 ([(.int .i64 (.lit 0)), (.int .i64 (.lit 0)), (.int .i64 (.lit 0))])
  (.chk (.cmp .geq (.var 1) (.lit 0))
  (.loop 0 [.sl, (.int .i64), (.int .i64), (.int .i64)] [(.cst (.slice none 0 0)), (.int .i64 (.lit 0)), (.int .i64 (.lit 0)), (.int .i64 (.lit 0))] [⟨[(.sl 0 (.lit 0) (.var 1) (.var 2))], 22⟩, ⟨[(.sl 3 (.lit 0) (.var 4) (.var 5)), (.int .i64 (.var 6))], 26⟩, ⟨[(.fn (.func 60) [] [(.loc 1 0)]), (.fn (.func 61) [] [(.loc 0 0)])], 73⟩] [⟨[(.sl 0 (.lit 0) (.var 1) (.var 2))], 22⟩, ⟨[(.sl 3 (.lit 0) (.var 4) (.var 5)), (.int .i64 (.var 6))], 26⟩, ⟨[(.fn (.func 60) [] [(.loc 1 0)]), (.fn (.func 61) [] [(.loc 0 0)])], 73⟩]
   (.ite (.cmp .lss (.var 14) (.var 1))
    (.chk (.pick (.cmp .geq (.var 14) (.lit 0)) (.pick (.cmp .lss (.var 14) (.var 1)) (.some 0) (.lit false)) (.lit false))
    (.load 0 (.off (.var 14) 1 (.lit 0)) [.sl] [⟨[(.sl 0 (.lit 0) (.var 1) (.var 2))], 22⟩, ⟨[(.sl 3 (.lit 0) (.var 4) (.var 5)), (.int .i64 (.var 6))], 26⟩, ⟨[(.fn (.func 60) [] [(.loc 1 0)]), (.fn (.func 61) [] [(.loc 0 0)])], 73⟩]
    (.chk (.cmp .geq (.var 16) (.lit 0))
    (.ite (.cmp .gtr (.var 16) (.lit 6))
     (.ret (.tup [(.cst (.slice none 0 0)), (.int .i64 (.lit 0)), (.int .i64 (.lit 11))]) [⟨[(.sl 0 (.lit 0) (.var 1) (.var 2))], 22⟩, ⟨[(.sl 3 (.lit 0) (.var 4) (.var 5)), (.int .i64 (.var 6))], 26⟩, ⟨[(.fn (.func 60) [] [(.loc 1 0)]), (.fn (.func 61) [] [(.loc 0 0)])], 73⟩])
     (.chk (.cmp .geq (.var 16) (.lit 0))
     (.chk (.pick (.cmp .geq (.var 14) (.lit 0)) (.pick (.cmp .lss (.var 14) (.lit 3)) (.some 8) (.lit false)) (.lit false))
     (.store false 8 (.off (.var 14) 1 (.lit 0)) [(.int .i64 (.var 16))] [⟨[(.sl 0 (.lit 0) (.var 1) (.var 2))], 22⟩, ⟨[(.sl 3 (.lit 0) (.var 4) (.var 5)), (.int .i64 (.var 6))], 26⟩, ⟨[(.fn (.func 60) [] [(.loc 1 0)]), (.fn (.func 61) [] [(.loc 0 0)])], 73⟩]
     (.again 0 3 [.sl, (.int .i64), (.int .i64), (.int .i64)] [(.sl 9 (.lit 0) (.var 10) (.var 11)), (.int .i64 (.var 12)), (.int .i64 (.var 13)), (.int .i64 (.bin .add .i64 (.var 14) (.lit 1)))] [⟨[(.sl 0 (.lit 0) (.var 1) (.var 2))], 22⟩, ⟨[(.sl 3 (.lit 0) (.var 4) (.var 5)), (.int .i64 (.var 6))], 26⟩, ⟨[(.fn (.func 60) [] [(.loc 1 0)]), (.fn (.func 61) [] [(.loc 0 0)])], 73⟩]))))))))
    (.call false 50 [(.sl 0 (.lit 0) (.var 1) (.var 2)), (.agg [(.sl 3 (.lit 0) (.var 4) (.var 5)), (.int .i64 (.var 6))])] .val [⟨[(.sl 0 (.lit 0) (.var 1) (.var 2))], 22⟩, ⟨[(.sl 3 (.lit 0) (.var 4) (.var 5)), (.int .i64 (.var 6))], 26⟩, ⟨[(.fn (.func 60) [] [(.loc 1 0)]), (.fn (.func 61) [] [(.loc 0 0)])], 73⟩]
    (.alloc
    (.alloc
    (.allocb 89 none
    (.chk (.some 8)
    (.load 8 (.lit 0) [(.int .i64)] [⟨[(.sl 0 (.lit 0) (.var 1) (.var 2))], 22⟩, ⟨[(.sl 3 (.lit 0) (.var 4) (.var 5)), (.int .i64 (.var 6))], 26⟩, ⟨[(.fn (.func 60) [] [(.loc 1 0)]), (.fn (.func 61) [] [(.loc 0 0)])], 73⟩, ⟨[(.val 15)], 75⟩, ⟨[(.fn (.func 62) [] [(.loc 0 0), (.ptr 8 (.lit 0))])], 85⟩]
    (.loop 0 [(.int .i64)] [(.int .i64 (.var 17))] [⟨[(.sl 0 (.lit 0) (.var 1) (.var 2))], 22⟩, ⟨[(.sl 3 (.lit 0) (.var 4) (.var 5)), (.int .i64 (.var 6))], 26⟩, ⟨[(.fn (.func 60) [] [(.loc 1 0)]), (.fn (.func 61) [] [(.loc 0 0)])], 73⟩, ⟨[(.val 15)], 75⟩, ⟨[(.fn (.func 62) [] [(.loc 0 0), (.ptr 8 (.lit 0))])], 85⟩] [⟨[(.sl 0 (.lit 0) (.var 1) (.var 2))], 22⟩, ⟨[(.sl 3 (.lit 0) (.var 4) (.var 5)), (.int .i64 (.var 6))], 26⟩, ⟨[(.fn (.func 60) [] [(.loc 1 0)]), (.fn (.func 61) [] [(.loc 0 0)])], 73⟩, ⟨[(.val 15)], 75⟩, ⟨[(.fn (.func 62) [] [(.loc 0 0), (.ptr 8 (.lit 0))])], 85⟩]
     (.ite (.cmp .geq (.var 18) (.lit 0))
      (.chk (.some 8)
      (.load 8 (.lit 1) [(.int .i64)] [⟨[(.sl 0 (.lit 0) (.var 1) (.var 2))], 22⟩, ⟨[(.sl 3 (.lit 0) (.var 4) (.var 5)), (.int .i64 (.var 6))], 26⟩, ⟨[(.fn (.func 60) [] [(.loc 1 0)]), (.fn (.func 61) [] [(.loc 0 0)])], 73⟩, ⟨[(.val 15)], 75⟩, ⟨[(.fn (.func 62) [] [(.loc 0 0), (.ptr 8 (.lit 0))])], 85⟩]
      (.loop 1 [(.int .i64)] [(.int .i64 (.var 19))] [⟨[(.sl 0 (.lit 0) (.var 1) (.var 2))], 22⟩, ⟨[(.sl 3 (.lit 0) (.var 4) (.var 5)), (.int .i64 (.var 6))], 26⟩, ⟨[(.fn (.func 60) [] [(.loc 1 0)]), (.fn (.func 61) [] [(.loc 0 0)])], 73⟩, ⟨[(.val 15)], 75⟩, ⟨[(.fn (.func 62) [] [(.loc 0 0), (.ptr 8 (.lit 0))])], 85⟩] [⟨[(.sl 0 (.lit 0) (.var 1) (.var 2))], 22⟩, ⟨[(.sl 3 (.lit 0) (.var 4) (.var 5)), (.int .i64 (.var 6))], 26⟩, ⟨[(.fn (.func 60) [] [(.loc 1 0)]), (.fn (.func 61) [] [(.loc 0 0)])], 73⟩, ⟨[(.val 15)], 75⟩, ⟨[(.fn (.func 62) [] [(.loc 0 0), (.ptr 8 (.lit 0))])], 85⟩]
       (.ite (.cmp .geq (.var 20) (.lit 0))
        (.chk (.some 8)
        (.load 8 (.lit 2) [(.int .i64)] [⟨[(.sl 0 (.lit 0) (.var 1) (.var 2))], 22⟩, ⟨[(.sl 3 (.lit 0) (.var 4) (.var 5)), (.int .i64 (.var 6))], 26⟩, ⟨[(.fn (.func 60) [] [(.loc 1 0)]), (.fn (.func 61) [] [(.loc 0 0)])], 73⟩, ⟨[(.val 15)], 75⟩, ⟨[(.fn (.func 62) [] [(.loc 0 0), (.ptr 8 (.lit 0))])], 85⟩]
        (.loop 2 [(.int .i64)] [(.int .i64 (.var 21))] [⟨[(.sl 0 (.lit 0) (.var 1) (.var 2))], 22⟩, ⟨[(.sl 3 (.lit 0) (.var 4) (.var 5)), (.int .i64 (.var 6))], 26⟩, ⟨[(.fn (.func 60) [] [(.loc 1 0)]), (.fn (.func 61) [] [(.loc 0 0)])], 73⟩, ⟨[(.val 15)], 75⟩, ⟨[(.fn (.func 62) [] [(.loc 0 0), (.ptr 8 (.lit 0))])], 85⟩] [⟨[(.sl 0 (.lit 0) (.var 1) (.var 2))], 22⟩, ⟨[(.sl 3 (.lit 0) (.var 4) (.var 5)), (.int .i64 (.var 6))], 26⟩, ⟨[(.fn (.func 60) [] [(.loc 1 0)]), (.fn (.func 61) [] [(.loc 0 0)])], 73⟩, ⟨[(.val 15)], 75⟩, ⟨[(.fn (.func 62) [] [(.loc 0 0), (.ptr 8 (.lit 0))])], 85⟩]
         (.ite (.cmp .geq (.var 22) (.lit 0))
          (.alloc
          (.load 8 (.lit 0) [(.int .i64), (.int .i64), (.int .i64)] [⟨[(.sl 0 (.lit 0) (.var 1) (.var 2))], 22⟩, ⟨[(.sl 3 (.lit 0) (.var 4) (.var 5)), (.int .i64 (.var 6))], 26⟩, ⟨[(.fn (.func 60) [] [(.loc 1 0)]), (.fn (.func 61) [] [(.loc 0 0)])], 73⟩, ⟨[(.val 15)], 75⟩, ⟨[(.fn (.func 62) [] [(.loc 0 0), (.ptr 8 (.lit 0))])], 85⟩, ⟨[(.int .i64 (.var 18)), (.int .i64 (.var 20)), (.int .i64 (.var 22))], 83⟩]
          (.join 3 [] [⟨[(.sl 0 (.lit 0) (.var 1) (.var 2))], 22⟩, ⟨[(.sl 3 (.lit 0) (.var 4) (.var 5)), (.int .i64 (.var 6))], 26⟩, ⟨[(.fn (.func 60) [] [(.loc 1 0)]), (.fn (.func 61) [] [(.loc 0 0)])], 73⟩, ⟨[(.val 15)], 75⟩, ⟨[(.fn (.func 62) [] [(.loc 0 0), (.ptr 8 (.lit 0))])], 85⟩, ⟨[(.int .i64 (.var 18)), (.int .i64 (.var 20)), (.int .i64 (.var 22))], 83⟩]
           (.ite (.not (.pick (.cmp .eql (.var 18) (.var 23)) (.pick (.cmp .eql (.var 20) (.var 24)) (.cmp .eql (.var 22) (.var 25)) (.lit false)) (.lit false)))
            (.chk (.pick (.cmp .geq (.var 18) (.lit 0)) (.pick (.cmp .lss (.var 18) (.lit 7)) (.some 16) (.lit false)) (.lit false))
            (.chk (.pick (.cmp .geq (.off (.var 18) 49 (.lit 0)) (.lit 0)) (.pick (.cmp .geq (.var 20) (.lit 0)) (.pick (.cmp .lss (.var 20) (.lit 7)) (.some 16) (.lit false)) (.lit false)) (.lit false))
            (.call false 64 [(.agg [(.int .i64 (.var 18)), (.int .i64 (.var 20)), (.int .i64 (.var 22))]), (.loc 4 0), (.loc 3 0), (.ptr 16 (.lit 0))] (.tup [.sl, (.agg [(.int .i64), (.int .i64), (.int .i64)]), (.int .i64)]) [⟨[(.sl 0 (.lit 0) (.var 1) (.var 2))], 22⟩, ⟨[(.sl 3 (.lit 0) (.var 4) (.var 5)), (.int .i64 (.var 6))], 26⟩, ⟨[(.fn (.func 60) [] [(.loc 1 0)]), (.fn (.func 61) [] [(.loc 0 0)])], 73⟩, ⟨[(.val 15)], 75⟩, ⟨[(.fn (.func 62) [] [(.loc 0 0), (.ptr 8 (.lit 0))])], 85⟩, ⟨[(.int .i64 (.var 18)), (.int .i64 (.var 20)), (.int .i64 (.var 22))], 83⟩]
            (.chk (.pick (.cmp .geq (.off (.var 20) 7 (.off (.var 18) 49 (.lit 0))) (.lit 0)) (.pick (.cmp .geq (.var 22) (.lit 0)) (.pick (.cmp .lss (.var 22) (.lit 7)) (.some 16) (.lit false)) (.lit false)) (.lit false))
            (.store false 16 (.off (.var 22) 1 (.off (.var 20) 7 (.off (.var 18) 49 (.lit 0)))) [(.int .i64 (.var 32))] [⟨[(.sl 0 (.lit 0) (.var 1) (.var 2))], 22⟩, ⟨[(.sl 3 (.lit 0) (.var 4) (.var 5)), (.int .i64 (.var 6))], 26⟩, ⟨[(.fn (.func 60) [] [(.loc 1 0)]), (.fn (.func 61) [] [(.loc 0 0)])], 73⟩, ⟨[(.val 15)], 75⟩, ⟨[(.fn (.func 62) [] [(.loc 0 0), (.ptr 8 (.lit 0))])], 85⟩, ⟨[(.int .i64 (.var 18)), (.int .i64 (.var 20)), (.int .i64 (.var 22))], 83⟩]
            (.again 3 6 [] [] [⟨[(.sl 0 (.lit 0) (.var 1) (.var 2))], 22⟩, ⟨[(.sl 3 (.lit 0) (.var 4) (.var 5)), (.int .i64 (.var 6))], 26⟩, ⟨[(.fn (.func 60) [] [(.loc 1 0)]), (.fn (.func 61) [] [(.loc 0 0)])], 73⟩, ⟨[(.val 15)], 75⟩, ⟨[(.fn (.func 62) [] [(.loc 0 0), (.ptr 8 (.lit 0))])], 85⟩, ⟨[(.int .i64 (.var 18)), (.int .i64 (.var 20)), (.int .i64 (.var 22))], 83⟩]))))))
            (.again 3 6 [] [] [⟨[(.sl 0 (.lit 0) (.var 1) (.var 2))], 22⟩, ⟨[(.sl 3 (.lit 0) (.var 4) (.var 5)), (.int .i64 (.var 6))], 26⟩, ⟨[(.fn (.func 60) [] [(.loc 1 0)]), (.fn (.func 61) [] [(.loc 0 0)])], 73⟩, ⟨[(.val 15)], 75⟩, ⟨[(.fn (.func 62) [] [(.loc 0 0), (.ptr 8 (.lit 0))])], 85⟩, ⟨[(.int .i64 (.var 18)), (.int .i64 (.var 20)), (.int .i64 (.var 22))], 83⟩]))
          (.again 2 5 [(.int .i64)] [(.int .i64 (.bin .sub .i64 (.var 22) (.lit 1)))] [⟨[(.sl 0 (.lit 0) (.var 1) (.var 2))], 22⟩, ⟨[(.sl 3 (.lit 0) (.var 4) (.var 5)), (.int .i64 (.var 6))], 26⟩, ⟨[(.fn (.func 60) [] [(.loc 1 0)]), (.fn (.func 61) [] [(.loc 0 0)])], 73⟩, ⟨[(.val 15)], 75⟩, ⟨[(.fn (.func 62) [] [(.loc 0 0), (.ptr 8 (.lit 0))])], 85⟩, ⟨[(.int .i64 (.var 18)), (.int .i64 (.var 20)), (.int .i64 (.var 22))], 83⟩]))))
          (.again 1 5 [(.int .i64)] [(.int .i64 (.bin .sub .i64 (.var 20) (.lit 1)))] [⟨[(.sl 0 (.lit 0) (.var 1) (.var 2))], 22⟩, ⟨[(.sl 3 (.lit 0) (.var 4) (.var 5)), (.int .i64 (.var 6))], 26⟩, ⟨[(.fn (.func 60) [] [(.loc 1 0)]), (.fn (.func 61) [] [(.loc 0 0)])], 73⟩, ⟨[(.val 15)], 75⟩, ⟨[(.fn (.func 62) [] [(.loc 0 0), (.ptr 8 (.lit 0))])], 85⟩])))))
        (.again 0 5 [(.int .i64)] [(.int .i64 (.bin .sub .i64 (.var 18) (.lit 1)))] [⟨[(.sl 0 (.lit 0) (.var 1) (.var 2))], 22⟩, ⟨[(.sl 3 (.lit 0) (.var 4) (.var 5)), (.int .i64 (.var 6))], 26⟩, ⟨[(.fn (.func 60) [] [(.loc 1 0)]), (.fn (.func 61) [] [(.loc 0 0)])], 73⟩, ⟨[(.val 15)], 75⟩, ⟨[(.fn (.func 62) [] [(.loc 0 0), (.ptr 8 (.lit 0))])], 85⟩])))))
      (.allocc 83 ([(.int .i64 (.lit 0)), (.int .i64 (.lit 0)), (.int .i64 (.lit 0))])
      (.store false 19 (.lit 0) [(.int .i64 (.lit 0)), (.int .i64 (.lit 0)), (.int .i64 (.lit 0))] [⟨[(.sl 0 (.lit 0) (.var 1) (.var 2))], 22⟩, ⟨[(.sl 3 (.lit 0) (.var 4) (.var 5)), (.int .i64 (.var 6))], 26⟩, ⟨[(.fn (.func 60) [] [(.loc 1 0)]), (.fn (.func 61) [] [(.loc 0 0)])], 73⟩, ⟨[(.val 15)], 75⟩, ⟨[(.fn (.func 62) [] [(.loc 0 0), (.ptr 8 (.lit 0))])], 85⟩]
      (.loop 0 [.sl, .ptr] [(.cst (.slice none 0 0)), (.ptr 19 (.lit 0))] [⟨[(.sl 0 (.lit 0) (.var 1) (.var 2))], 22⟩, ⟨[(.sl 3 (.lit 0) (.var 4) (.var 5)), (.int .i64 (.var 6))], 26⟩, ⟨[(.fn (.func 60) [] [(.loc 1 0)]), (.fn (.func 61) [] [(.loc 0 0)])], 73⟩, ⟨[(.val 15)], 75⟩, ⟨[(.fn (.func 62) [] [(.loc 0 0), (.ptr 8 (.lit 0))])], 85⟩] [⟨[(.sl 0 (.lit 0) (.var 1) (.var 2))], 22⟩, ⟨[(.sl 3 (.lit 0) (.var 4) (.var 5)), (.int .i64 (.var 6))], 26⟩, ⟨[(.fn (.func 60) [] [(.loc 1 0)]), (.fn (.func 61) [] [(.loc 0 0)])], 73⟩, ⟨[(.val 15)], 75⟩, ⟨[(.fn (.func 62) [] [(.loc 0 0), (.ptr 8 (.lit 0))])], 85⟩]
       (.load 23 (.lit 0) [(.int .i64), (.int .i64), (.int .i64)] [⟨[(.sl 0 (.lit 0) (.var 1) (.var 2))], 22⟩, ⟨[(.sl 3 (.lit 0) (.var 4) (.var 5)), (.int .i64 (.var 6))], 26⟩, ⟨[(.fn (.func 60) [] [(.loc 1 0)]), (.fn (.func 61) [] [(.loc 0 0)])], 73⟩, ⟨[(.val 15)], 75⟩, ⟨[(.fn (.func 62) [] [(.loc 0 0), (.ptr 8 (.lit 0))])], 85⟩]
       (.load 8 (.lit 0) [(.int .i64), (.int .i64), (.int .i64)] [⟨[(.sl 0 (.lit 0) (.var 1) (.var 2))], 22⟩, ⟨[(.sl 3 (.lit 0) (.var 4) (.var 5)), (.int .i64 (.var 6))], 26⟩, ⟨[(.fn (.func 60) [] [(.loc 1 0)]), (.fn (.func 61) [] [(.loc 0 0)])], 73⟩, ⟨[(.val 15)], 75⟩, ⟨[(.fn (.func 62) [] [(.loc 0 0), (.ptr 8 (.lit 0))])], 85⟩]
       (.ite (.not (.pick (.cmp .eql (.var 24) (.var 27)) (.pick (.cmp .eql (.var 25) (.var 28)) (.cmp .eql (.var 26) (.var 29)) (.lit false)) (.lit false)))
        (.load 23 (.lit 0) [(.int .i64), (.int .i64), (.int .i64)] [⟨[(.sl 0 (.lit 0) (.var 1) (.var 2))], 22⟩, ⟨[(.sl 3 (.lit 0) (.var 4) (.var 5)), (.int .i64 (.var 6))], 26⟩, ⟨[(.fn (.func 60) [] [(.loc 1 0)]), (.fn (.func 61) [] [(.loc 0 0)])], 73⟩, ⟨[(.val 15)], 75⟩, ⟨[(.fn (.func 62) [] [(.loc 0 0), (.ptr 8 (.lit 0))])], 85⟩]
        (.call false 64 [(.agg [(.int .i64 (.var 30)), (.int .i64 (.var 31)), (.int .i64 (.var 32))]), (.loc 4 0), (.loc 3 0), (.ptr 16 (.lit 0))] (.tup [.sl, (.agg [(.int .i64), (.int .i64), (.int .i64)]), (.int .i64)]) [⟨[(.sl 0 (.lit 0) (.var 1) (.var 2))], 22⟩, ⟨[(.sl 3 (.lit 0) (.var 4) (.var 5)), (.int .i64 (.var 6))], 26⟩, ⟨[(.fn (.func 60) [] [(.loc 1 0)]), (.fn (.func 61) [] [(.loc 0 0)])], 73⟩, ⟨[(.val 15)], 75⟩, ⟨[(.fn (.func 62) [] [(.loc 0 0), (.ptr 8 (.lit 0))])], 85⟩]
        (.alloc
        (.alloc
        (.ext false ⟨(.call ⟨.builtin .append, #[(.tmp 0), (.tmp 0)], #[23, 23]⟩), 23, [(.sl 20 (.lit 0) (.var 21) (.var 22)), (.slc 6 0 1 1)]⟩ .sl [⟨[(.sl 0 (.lit 0) (.var 1) (.var 2))], 22⟩, ⟨[(.sl 3 (.lit 0) (.var 4) (.var 5)), (.int .i64 (.var 6))], 26⟩, ⟨[(.fn (.func 60) [] [(.loc 1 0)]), (.fn (.func 61) [] [(.loc 0 0)])], 73⟩, ⟨[(.val 15)], 75⟩, ⟨[(.fn (.func 62) [] [(.loc 0 0), (.ptr 8 (.lit 0))])], 85⟩, ⟨[(.int .i64 (.var 36)), (.int .i64 (.var 37)), (.int .i64 (.var 38))], 83⟩, ⟨[(.sl 33 (.lit 0) (.var 34) (.var 35))], 49⟩]
        (.store false 23 (.lit 0) [(.int .i64 (.var 36)), (.int .i64 (.var 37)), (.int .i64 (.var 38))] [⟨[(.sl 0 (.lit 0) (.var 1) (.var 2))], 22⟩, ⟨[(.sl 3 (.lit 0) (.var 4) (.var 5)), (.int .i64 (.var 6))], 26⟩, ⟨[(.fn (.func 60) [] [(.loc 1 0)]), (.fn (.func 61) [] [(.loc 0 0)])], 73⟩, ⟨[(.val 15)], 75⟩, ⟨[(.fn (.func 62) [] [(.loc 0 0), (.ptr 8 (.lit 0))])], 85⟩, ⟨[(.int .i64 (.var 36)), (.int .i64 (.var 37)), (.int .i64 (.var 38))], 83⟩, ⟨[(.sl 33 (.lit 0) (.var 34) (.var 35))], 49⟩]
        (.load 23 (.lit 0) [(.int .i64), (.int .i64), (.int .i64)] [⟨[(.sl 0 (.lit 0) (.var 1) (.var 2))], 22⟩, ⟨[(.sl 3 (.lit 0) (.var 4) (.var 5)), (.int .i64 (.var 6))], 26⟩, ⟨[(.fn (.func 60) [] [(.loc 1 0)]), (.fn (.func 61) [] [(.loc 0 0)])], 73⟩, ⟨[(.val 15)], 75⟩, ⟨[(.fn (.func 62) [] [(.loc 0 0), (.ptr 8 (.lit 0))])], 85⟩, ⟨[(.int .i64 (.var 36)), (.int .i64 (.var 37)), (.int .i64 (.var 38))], 83⟩, ⟨[(.sl 33 (.lit 0) (.var 34) (.var 35))], 49⟩]
        (.allocc 83 ([(.int .i64 (.lit 0)), (.int .i64 (.lit 0)), (.int .i64 (.lit 0))])
        (.store false 46 (.lit 0) [(.int .i64 (.var 43)), (.int .i64 (.var 44)), (.int .i64 (.var 45))] [⟨[(.sl 0 (.lit 0) (.var 1) (.var 2))], 22⟩, ⟨[(.sl 3 (.lit 0) (.var 4) (.var 5)), (.int .i64 (.var 6))], 26⟩, ⟨[(.fn (.func 60) [] [(.loc 1 0)]), (.fn (.func 61) [] [(.loc 0 0)])], 73⟩, ⟨[(.val 15)], 75⟩, ⟨[(.fn (.func 62) [] [(.loc 0 0), (.ptr 8 (.lit 0))])], 85⟩, ⟨[(.int .i64 (.var 36)), (.int .i64 (.var 37)), (.int .i64 (.var 38))], 83⟩, ⟨[(.sl 33 (.lit 0) (.var 34) (.var 35))], 49⟩]
        (.again 0 5 [.sl, .ptr] [(.sl 40 (.lit 0) (.var 41) (.var 42)), (.ptr 46 (.lit 0))] [⟨[(.sl 0 (.lit 0) (.var 1) (.var 2))], 22⟩, ⟨[(.sl 3 (.lit 0) (.var 4) (.var 5)), (.int .i64 (.var 6))], 26⟩, ⟨[(.fn (.func 60) [] [(.loc 1 0)]), (.fn (.func 61) [] [(.loc 0 0)])], 73⟩, ⟨[(.val 15)], 75⟩, ⟨[(.fn (.func 62) [] [(.loc 0 0), (.ptr 8 (.lit 0))])], 85⟩, ⟨[(.int .i64 (.var 36)), (.int .i64 (.var 37)), (.int .i64 (.var 38))], 83⟩, ⟨[(.sl 33 (.lit 0) (.var 34) (.var 35))], 49⟩]))))))))))
        (.chk (.some 16)
        (.chk (.some 16)
        (.chk (.some 16)
        (.load 16 (.lit 0) [(.int .i64)] [⟨[(.sl 0 (.lit 0) (.var 1) (.var 2))], 22⟩, ⟨[(.sl 3 (.lit 0) (.var 4) (.var 5)), (.int .i64 (.var 6))], 26⟩, ⟨[(.fn (.func 60) [] [(.loc 1 0)]), (.fn (.func 61) [] [(.loc 0 0)])], 73⟩, ⟨[(.val 15)], 75⟩, ⟨[(.fn (.func 62) [] [(.loc 0 0), (.ptr 8 (.lit 0))])], 85⟩]
        (.ret (.tup [(.sl 20 (.lit 0) (.var 21) (.var 22)), (.int .i64 (.var 30)), (.int .i64 (.lit 0))]) [⟨[(.sl 0 (.lit 0) (.var 1) (.var 2))], 22⟩, ⟨[(.sl 3 (.lit 0) (.var 4) (.var 5)), (.int .i64 (.var 6))], 26⟩, ⟨[(.fn (.func 60) [] [(.loc 1 0)]), (.fn (.func 61) [] [(.loc 0 0)])], 73⟩, ⟨[(.val 15)], 75⟩, ⟨[(.fn (.func 62) [] [(.loc 0 0), (.ptr 8 (.lit 0))])], 85⟩]))))))))))))))))))))))))))))
theorem S_multi_Exact : FnIs Tryd.prog n_multi_Exact [.sl, (.agg [.sl, (.int .i64)])] T_multi_Exact := ⟨Tryd.f23, [{ key := 27, tmps := [], join := true, dead := 2555578658262099442119966680154112 }, { key := 999999, tmps := [], join := false, dead := 1048832 }], 4000, Tryd.func23, by kernel_rfl⟩
/-! 24 ablaut/ablautref18.Exact  -/
abbrev n_ref18_Exact : FuncId := 24
def T_ref18_Exact : Tree :=
 (.alloc
 (.call false 51 [(.agg [(.sl 3 (.lit 0) (.var 4) (.var 5)), (.int .i64 (.var 6))])] (.int .i64) [⟨[(.sl 3 (.lit 0) (.var 4) (.var 5)), (.int .i64 (.var 6))], 26⟩]
 (.join 0 [(.int .i64)] [⟨[(.sl 3 (.lit 0) (.var 4) (.var 5)), (.int .i64 (.var 6))], 26⟩]
  (.ite (.cmp .eql (.var 7) (.lit 0))
   (.call false 58 [(.sl 0 (.lit 0) (.var 1) (.var 2)), (.int .i64 (.lit 3))] (.int .i64) [⟨[(.sl 3 (.lit 0) (.var 4) (.var 5)), (.int .i64 (.var 6))], 26⟩]
   (.again 0 1 [(.int .i64)] [(.int .i64 (.var 8))] [⟨[(.sl 3 (.lit 0) (.var 4) (.var 5)), (.int .i64 (.var 6))], 26⟩]))
   (.again 0 1 [(.int .i64)] [(.int .i64 (.var 7))] [⟨[(.sl 3 (.lit 0) (.var 4) (.var 5)), (.int .i64 (.var 6))], 26⟩]))
 (.ite (.cmp .neq (.var 8) (.lit 0))
  (.ret (.tup [(.cst (.slice none 0 0)), (.int .i64 (.lit 0)), (.int .i64 (.var 8))]) [⟨[(.sl 3 (.lit 0) (.var 4) (.var 5)), (.int .i64 (.var 6))], 26⟩])
  (.chk (.cmp .geq (.var 1) (.lit 0))
  (.ext false ⟨(.makeSlice 49 (.tmp 0) (.tmp 0)), 49, [(.int .i64 (.var 1)), (.int .i64 (.var 1))]⟩ .sl [⟨[(.sl 3 (.lit 0) (.var 4) (.var 5)), (.int .i64 (.var 6))], 26⟩]
  (.loop 0 [.sl, (.int .i64), (.int .i64), (.int .i64)] [(.cst (.slice none 0 0)), (.int .i64 (.lit 0)), (.int .i64 (.lit 0)), (.int .i64 (.lit 0))] [⟨[(.sl 3 (.lit 0) (.var 4) (.var 5)), (.int .i64 (.var 6))], 26⟩] [⟨[(.sl 3 (.lit 0) (.var 4) (.var 5)), (.int .i64 (.var 6))], 26⟩]
   (.chk (.cmp .geq (.var 1) (.lit 0))
   (.ite (.cmp .lss (.var 17) (.var 1))
    (.chk (.pick (.cmp .geq (.var 17) (.lit 0)) (.pick (.cmp .lss (.var 17) (.var 1)) (.some 0) (.lit false)) (.lit false))
    (.load 0 (.off (.var 17) 1 (.lit 0)) [.sl] [⟨[(.sl 3 (.lit 0) (.var 4) (.var 5)), (.int .i64 (.var 6))], 26⟩]
    (.chk (.cmp .geq (.var 19) (.lit 0))
    (.ite (.cmp .gtr (.var 19) (.lit 6))
     (.ret (.tup [(.cst (.slice none 0 0)), (.int .i64 (.lit 0)), (.int .i64 (.lit 11))]) [⟨[(.sl 3 (.lit 0) (.var 4) (.var 5)), (.int .i64 (.var 6))], 26⟩])
     (.chk (.pick (.cmp .geq (.var 17) (.lit 0)) (.pick (.cmp .lss (.var 17) (.var 1)) (.some 0) (.lit false)) (.lit false))
     (.load 0 (.off (.var 17) 1 (.lit 0)) [.sl] [⟨[(.sl 3 (.lit 0) (.var 4) (.var 5)), (.int .i64 (.var 6))], 26⟩]
     (.chk (.cmp .geq (.var 22) (.lit 0))
     (.chk (.pick (.cmp .geq (.var 17) (.lit 0)) (.pick (.cmp .lss (.var 17) (.var 10)) (.some 9) (.lit false)) (.lit false))
     (.store false 9 (.off (.var 17) 1 (.lit 0)) [(.int .i64 (.var 22))] [⟨[(.sl 3 (.lit 0) (.var 4) (.var 5)), (.int .i64 (.var 6))], 26⟩]
     (.again 0 1 [.sl, (.int .i64), (.int .i64), (.int .i64)] [(.sl 12 (.lit 0) (.var 13) (.var 14)), (.int .i64 (.var 15)), (.int .i64 (.var 16)), (.int .i64 (.bin .add .i64 (.var 17) (.lit 1)))] [⟨[(.sl 3 (.lit 0) (.var 4) (.var 5)), (.int .i64 (.var 6))], 26⟩]))))))))))
    (.chk (.cmp .geq (.var 1) (.lit 0))
    (.ite (.cmp .eql (.var 1) (.lit 0))
     (.ret (.tup [(.cst (.slice none 0 0)), (.int .i64 (.lit 0)), (.int .i64 (.lit 0))]) [⟨[(.sl 3 (.lit 0) (.var 4) (.var 5)), (.int .i64 (.var 6))], 26⟩])
     (.call false 65 [(.sl 9 (.lit 0) (.var 10) (.var 11))] (.int .i64) [⟨[(.sl 3 (.lit 0) (.var 4) (.var 5)), (.int .i64 (.var 6))], 26⟩]
     (.ext false ⟨(.makeSlice 24 (.tmp 0) (.tmp 0)), 24, [(.int .i64 (.bin .add .i64 (.var 18) (.lit 1))), (.int .i64 (.bin .add .i64 (.var 18) (.lit 1)))]⟩ .sl [⟨[(.sl 3 (.lit 0) (.var 4) (.var 5)), (.int .i64 (.var 6))], 26⟩]
     (.call false 65 [(.sl 9 (.lit 0) (.var 10) (.var 11))] (.int .i64) [⟨[(.sl 3 (.lit 0) (.var 4) (.var 5)), (.int .i64 (.var 6))], 26⟩]
     (.loop 0 [(.int .i64)] [(.int .i64 (.bin .sub .i64 (.var 22) (.lit 1)))] [⟨[(.sl 3 (.lit 0) (.var 4) (.var 5)), (.int .i64 (.var 6))], 26⟩] [⟨[(.sl 3 (.lit 0) (.var 4) (.var 5)), (.int .i64 (.var 6))], 26⟩]
      (.ite (.cmp .geq (.var 23) (.lit 0))
       (.join 1 [] [⟨[(.sl 3 (.lit 0) (.var 4) (.var 5)), (.int .i64 (.var 6))], 26⟩]
        (.call false 66 [(.int .i64 (.var 23)), (.sl 0 (.lit 0) (.var 1) (.var 2))] (.tup [.sl, .bool]) [⟨[(.sl 3 (.lit 0) (.var 4) (.var 5)), (.int .i64 (.var 6))], 26⟩]
        (.ite (.not (.var 27))
         (.again 1 1 [] [] [⟨[(.sl 3 (.lit 0) (.var 4) (.var 5)), (.int .i64 (.var 6))], 26⟩])
         (.chk (.cmp .geq (.var 1) (.lit 0))
         (.chk (.cmp .geq (.var 1) (.lit 0))
         (.loop 2 [(.int .i64), (.int .i64)] [(.int .i64 (.lit (-1))), (.int .i64 (.bin .sub .i64 (.bin .shl .i64 (.lit 1) (.var 1)) (.lit 1)))] [⟨[(.sl 3 (.lit 0) (.var 4) (.var 5)), (.int .i64 (.var 6))], 26⟩] [⟨[(.sl 3 (.lit 0) (.var 4) (.var 5)), (.int .i64 (.var 6))], 26⟩]
          (.ite (.cmp .gtr (.var 29) (.lit 0))
           (.join 3 [(.int .i64)] [⟨[(.sl 3 (.lit 0) (.var 4) (.var 5)), (.int .i64 (.var 6))], 26⟩]
            (.call false 67 [(.sl 0 (.lit 0) (.var 1) (.var 2)), (.sl 24 (.lit 0) (.var 25) (.var 26)), (.int .i64 (.var 29))] (.tup [.sl, .bool]) [⟨[(.sl 3 (.lit 0) (.var 4) (.var 5)), (.int .i64 (.var 6))], 26⟩]
            (.ite (.not (.var 33))
             (.again 3 1 [(.int .i64)] [(.int .i64 (.var 28))] [⟨[(.sl 3 (.lit 0) (.var 4) (.var 5)), (.int .i64 (.var 6))], 26⟩])
             (.call false 68 [(.sl 0 (.lit 0) (.var 1) (.var 2)), (.sl 30 (.lit 0) (.var 31) (.var 32)), (.agg [(.sl 3 (.lit 0) (.var 4) (.var 5)), (.int .i64 (.var 6))])] (.int .i64) [⟨[(.sl 3 (.lit 0) (.var 4) (.var 5)), (.int .i64 (.var 6))], 26⟩]
             (.call false 69 [(.sl 24 (.lit 0) (.var 25) (.var 26)), (.sl 30 (.lit 0) (.var 31) (.var 32))] .sl [⟨[(.sl 3 (.lit 0) (.var 4) (.var 5)), (.int .i64 (.var 6))], 26⟩]
             (.call false 65 [(.sl 35 (.lit 0) (.var 36) (.var 37))] (.int .i64) [⟨[(.sl 3 (.lit 0) (.var 4) (.var 5)), (.int .i64 (.var 6))], 26⟩]
             (.chk (.pick (.cmp .geq (.var 38) (.lit 0)) (.pick (.cmp .lss (.var 38) (.var 20)) (.some 19) (.lit false)) (.lit false))
             (.load 19 (.off (.var 38) 1 (.lit 0)) [(.int .i64)] [⟨[(.sl 3 (.lit 0) (.var 4) (.var 5)), (.int .i64 (.var 6))], 26⟩]
             (.join 4 [(.int .i64)] [⟨[(.sl 3 (.lit 0) (.var 4) (.var 5)), (.int .i64 (.var 6))], 26⟩]
              (.ite (.pick (.cmp .lss (.var 28) (.lit 0)) (.lit true) (.cmp .lss (.bin .add .i64 (.var 34) (.var 39)) (.var 28)))
               (.again 4 1 [(.int .i64)] [(.int .i64 (.bin .add .i64 (.var 34) (.var 39)))] [⟨[(.sl 3 (.lit 0) (.var 4) (.var 5)), (.int .i64 (.var 6))], 26⟩])
               (.again 4 1 [(.int .i64)] [(.int .i64 (.var 28))] [⟨[(.sl 3 (.lit 0) (.var 4) (.var 5)), (.int .i64 (.var 6))], 26⟩]))
             (.again 3 1 [(.int .i64)] [(.int .i64 (.var 40))] [⟨[(.sl 3 (.lit 0) (.var 4) (.var 5)), (.int .i64 (.var 6))], 26⟩])))))))))
           (.again 2 1 [(.int .i64), (.int .i64)] [(.int .i64 (.var 30)), (.int .i64 (.bin .sub .i64 (.var 29) (.lit 1)))] [⟨[(.sl 3 (.lit 0) (.var 4) (.var 5)), (.int .i64 (.var 6))], 26⟩]))
           (.chk (.pick (.cmp .geq (.var 23) (.lit 0)) (.pick (.cmp .lss (.var 23) (.var 20)) (.some 19) (.lit false)) (.lit false))
           (.store false 19 (.off (.var 23) 1 (.lit 0)) [(.int .i64 (.var 28))] [⟨[(.sl 3 (.lit 0) (.var 4) (.var 5)), (.int .i64 (.var 6))], 26⟩]
           (.again 1 1 [] [] [⟨[(.sl 3 (.lit 0) (.var 4) (.var 5)), (.int .i64 (.var 6))], 26⟩])))))))))
       (.again 0 1 [(.int .i64)] [(.int .i64 (.bin .sub .i64 (.var 23) (.lit 1)))] [⟨[(.sl 3 (.lit 0) (.var 4) (.var 5)), (.int .i64 (.var 6))], 26⟩]))
       (.chk (.cmp .geq (.var 1) (.lit 0))
       (.ext false ⟨(.makeSlice 49 (.tmp 0) (.tmp 0)), 49, [(.int .i64 (.var 1)), (.int .i64 (.var 1))]⟩ .sl [⟨[(.sl 3 (.lit 0) (.var 4) (.var 5)), (.int .i64 (.var 6))], 26⟩]
       (.loop 0 [.sl, .sl] [(.cst (.slice none 0 0)), (.sl 24 (.lit 0) (.var 25) (.var 26))] [⟨[(.sl 3 (.lit 0) (.var 4) (.var 5)), (.int .i64 (.var 6))], 26⟩] [⟨[(.sl 3 (.lit 0) (.var 4) (.var 5)), (.int .i64 (.var 6))], 26⟩]
        (.call false 65 [(.sl 30 (.lit 0) (.var 31) (.var 32))] (.int .i64) [⟨[(.sl 3 (.lit 0) (.var 4) (.var 5)), (.int .i64 (.var 6))], 26⟩]
        (.call false 65 [(.sl 9 (.lit 0) (.var 10) (.var 11))] (.int .i64) [⟨[(.sl 3 (.lit 0) (.var 4) (.var 5)), (.int .i64 (.var 6))], 26⟩]
        (.ite (.cmp .lss (.var 33) (.var 34))
         (.chk (.cmp .geq (.var 1) (.lit 0))
         (.chk (.cmp .geq (.var 1) (.lit 0))
         (.join 1 [.sl, .sl, (.int .i64)] [⟨[(.sl 3 (.lit 0) (.var 4) (.var 5)), (.int .i64 (.var 6))], 26⟩]
          (.loop 2 [.sl, .sl, (.int .i64)] [(.sl 27 (.lit 0) (.var 28) (.var 29)), (.sl 30 (.lit 0) (.var 31) (.var 32)), (.int .i64 (.bin .sub .i64 (.bin .shl .i64 (.lit 1) (.var 1)) (.lit 1)))] [⟨[(.sl 3 (.lit 0) (.var 4) (.var 5)), (.int .i64 (.var 6))], 26⟩] [⟨[(.sl 3 (.lit 0) (.var 4) (.var 5)), (.int .i64 (.var 6))], 26⟩]
           (.ite (.cmp .gtr (.var 41) (.lit 0))
            (.call false 67 [(.sl 0 (.lit 0) (.var 1) (.var 2)), (.sl 38 (.lit 0) (.var 39) (.var 40)), (.int .i64 (.var 41))] (.tup [.sl, .bool]) [⟨[(.sl 3 (.lit 0) (.var 4) (.var 5)), (.int .i64 (.var 6))], 26⟩]
            (.ite (.var 45)
             (.call false 68 [(.sl 0 (.lit 0) (.var 1) (.var 2)), (.sl 42 (.lit 0) (.var 43) (.var 44)), (.agg [(.sl 3 (.lit 0) (.var 4) (.var 5)), (.int .i64 (.var 6))])] (.int .i64) [⟨[(.sl 3 (.lit 0) (.var 4) (.var 5)), (.int .i64 (.var 6))], 26⟩]
             (.call false 69 [(.sl 38 (.lit 0) (.var 39) (.var 40)), (.sl 42 (.lit 0) (.var 43) (.var 44))] .sl [⟨[(.sl 3 (.lit 0) (.var 4) (.var 5)), (.int .i64 (.var 6))], 26⟩]
             (.call false 65 [(.sl 47 (.lit 0) (.var 48) (.var 49))] (.int .i64) [⟨[(.sl 3 (.lit 0) (.var 4) (.var 5)), (.int .i64 (.var 6))], 26⟩]
             (.chk (.pick (.cmp .geq (.var 50) (.lit 0)) (.pick (.cmp .lss (.var 50) (.var 20)) (.some 19) (.lit false)) (.lit false))
             (.load 19 (.off (.var 50) 1 (.lit 0)) [(.int .i64)] [⟨[(.sl 3 (.lit 0) (.var 4) (.var 5)), (.int .i64 (.var 6))], 26⟩]
             (.call true 65 [(.sl 38 (.lit 0) (.var 39) (.var 40))] (.int .i64) [⟨[(.sl 3 (.lit 0) (.var 4) (.var 5)), (.int .i64 (.var 6))], 26⟩]
             (.chk (.pick (.cmp .geq (.var 52) (.lit 0)) (.pick (.cmp .lss (.var 52) (.var 20)) (.some 19) (.lit false)) (.lit false))
             (.load 19 (.off (.var 52) 1 (.lit 0)) [(.int .i64)] [⟨[(.sl 3 (.lit 0) (.var 4) (.var 5)), (.int .i64 (.var 6))], 26⟩]
             (.ite (.cmp .eql (.bin .add .i64 (.var 46) (.var 51)) (.var 53))
              (.alloc
              (.ext false ⟨(.call ⟨.builtin .append, #[(.tmp 0), (.tmp 0)], #[23, 23]⟩), 23, [(.sl 35 (.lit 0) (.var 36) (.var 37)), (.slc 1 0 1 1)]⟩ .sl [⟨[(.sl 3 (.lit 0) (.var 4) (.var 5)), (.int .i64 (.var 6))], 26⟩, ⟨[(.sl 42 (.lit 0) (.var 43) (.var 44))], 49⟩]
              (.call false 69 [(.sl 38 (.lit 0) (.var 39) (.var 40)), (.sl 42 (.lit 0) (.var 43) (.var 44))] .sl [⟨[(.sl 3 (.lit 0) (.var 4) (.var 5)), (.int .i64 (.var 6))], 26⟩, ⟨[(.sl 42 (.lit 0) (.var 43) (.var 44))], 49⟩]
              (.again 1 1 [.sl, .sl, (.int .i64)] [(.sl 54 (.lit 0) (.var 55) (.var 56)), (.sl 57 (.lit 0) (.var 58) (.var 59)), (.int .i64 (.var 41))] [⟨[(.sl 3 (.lit 0) (.var 4) (.var 5)), (.int .i64 (.var 6))], 26⟩, ⟨[(.sl 42 (.lit 0) (.var 43) (.var 44))], 49⟩]))))
              (.again 2 1 [.sl, .sl, (.int .i64)] [(.sl 35 (.lit 0) (.var 36) (.var 37)), (.sl 38 (.lit 0) (.var 39) (.var 40)), (.int .i64 (.bin .sub .i64 (.var 41) (.lit 1)))] [⟨[(.sl 3 (.lit 0) (.var 4) (.var 5)), (.int .i64 (.var 6))], 26⟩]))))))))))
             (.again 2 1 [.sl, .sl, (.int .i64)] [(.sl 35 (.lit 0) (.var 36) (.var 37)), (.sl 38 (.lit 0) (.var 39) (.var 40)), (.int .i64 (.bin .sub .i64 (.var 41) (.lit 1)))] [⟨[(.sl 3 (.lit 0) (.var 4) (.var 5)), (.int .i64 (.var 6))], 26⟩])))
            (.again 1 1 [.sl, .sl, (.int .i64)] [(.sl 35 (.lit 0) (.var 36) (.var 37)), (.sl 38 (.lit 0) (.var 39) (.var 40)), (.int .i64 (.var 41))] [⟨[(.sl 3 (.lit 0) (.var 4) (.var 5)), (.int .i64 (.var 6))], 26⟩])))
         (.again 0 1 [.sl, .sl] [(.sl 35 (.lit 0) (.var 36) (.var 37)), (.sl 38 (.lit 0) (.var 39) (.var 40))] [⟨[(.sl 3 (.lit 0) (.var 4) (.var 5)), (.int .i64 (.var 6))], 26⟩]))))
         (.chk (.pick (.cmp .lss (.lit 0) (.var 20)) (.some 19) (.lit false))
         (.load 19 (.lit 0) [(.int .i64)] [⟨[(.sl 3 (.lit 0) (.var 4) (.var 5)), (.int .i64 (.var 6))], 26⟩]
         (.ret (.tup [(.sl 27 (.lit 0) (.var 28) (.var 29)), (.int .i64 (.var 35)), (.int .i64 (.lit 0))]) [⟨[(.sl 3 (.lit 0) (.var 4) (.var 5)), (.int .i64 (.var 6))], 26⟩])))))))))))))))))))))))))
theorem S_ref18_Exact : FnIs Tryd.prog n_ref18_Exact [.sl, (.agg [.sl, (.int .i64)])] T_ref18_Exact := ⟨Tryd.f24, [{ key := 3, tmps := [], join := true, dead := 23939396819474660201329278775928482054754900360822788 }, { key := 100003, tmps := [], join := true }, { key := 100005, tmps := [], join := true }, { key := 29, tmps := [], join := true }, { key := 100008, tmps := [], join := true }], 4000, Tryd.func24, by kernel_rfl⟩
/-! 60 ablaut/multi.Exact$1  -/
abbrev n_multi_Exact_1 : FuncId := 60
def T_multi_Exact_1 : Tree :=
 (.load 0 (.lit 0) [.sl, (.int .i64)] []
 (.call false 26 [(.agg [(.sl 1 (.lit 0) (.var 2) (.var 3)), (.int .i64 (.var 4))])] (.int .i64) []
 (.ret (.int .i64 (.var 5)) [])))
theorem S_multi_Exact_1 : FnIs Tryd.prog n_multi_Exact_1 [.ptr] T_multi_Exact_1 := ⟨Tryd.f60, [], 4000, Tryd.func60, by kernel_rfl⟩
/-! 61 ablaut/multi.Exact$2  -/
abbrev n_multi_Exact_2 : FuncId := 61
def T_multi_Exact_2 : Tree :=
 (.load 0 (.lit 0) [.sl] []
 (.call false 56 [(.int .i64 (.lit 3)), (.sl 1 (.lit 0) (.var 2) (.var 3))] (.int .i64) []
 (.ret (.int .i64 (.var 4)) [])))
theorem S_multi_Exact_2 : FnIs Tryd.prog n_multi_Exact_2 [.ptr] T_multi_Exact_2 := ⟨Tryd.f61, [], 4000, Tryd.func61, by kernel_rfl⟩
/-! 62 ablaut/multi.Exact$3  -/
abbrev n_multi_Exact_3 : FuncId := 62
def T_multi_Exact_3 : Tree :=
 (.allocc 83 ([(.int .i64 (.var 0)), (.int .i64 (.var 1)), (.int .i64 (.var 2))])
 (.alloc
 (.alloc
 (.load 4 (.lit 0) [.sl] [⟨[(.int .i64 (.lit 0)), (.int .i64 (.lit 0)), (.int .i64 (.lit 0))], 83⟩, ⟨[(.int .i64 (.lit (-1)))], 3⟩]
 (.chk (.cmp .geq (.var 8) (.lit 0))
 (.call false 63 [(.slc 1 0 1 1), (.int .i64 (.var 8))] .sl [⟨[(.int .i64 (.lit 0)), (.int .i64 (.lit 0)), (.int .i64 (.lit 0))], 83⟩, ⟨[(.int .i64 (.lit (-1)))], 3⟩]
 (.loop 0 [.sl, .bool, (.int .i64), (.int .i64), (.int .i64), (.int .i64)] [(.cst (.slice none 0 0)), (.bool (.lit false)), (.int .i64 (.lit 0)), (.int .i64 (.lit 0)), (.int .i64 (.lit 0)), (.int .i64 (.lit 0))] [⟨[(.int .i64 (.lit 0)), (.int .i64 (.lit 0)), (.int .i64 (.lit 0))], 83⟩, ⟨[(.int .i64 (.lit (-1)))], 3⟩] [⟨[(.int .i64 (.var 18)), (.int .i64 (.var 19)), (.int .i64 (.var 20))], 83⟩, ⟨[(.int .i64 (.lit (-1)))], 3⟩]
  (.ite (.cmp .lss (.var 17) (.lit 3))
   (.join 1 [.sl, .bool, (.int .i64), (.int .i64), (.int .i64)] [⟨[(.int .i64 (.var 25)), (.int .i64 (.var 26)), (.int .i64 (.var 27))], 83⟩, ⟨[(.int .i64 (.lit (-1)))], 3⟩]
    (.chk (.cmp .geq (.bin .sub .i64 (.lit 2) (.var 17)) (.lit 0))
    (.ite (.cmp .eql (.bin .and .i64 (.bin .shr .i64 (.var 3) (.bin .sub .i64 (.lit 2) (.var 17))) (.lit 1)) (.lit 0))
     (.again 1 2 [.sl, .bool, (.int .i64), (.int .i64), (.int .i64)] [(.sl 13 (.lit 0) (.var 14) (.var 15)), (.bool (.var 16)), (.int .i64 (.var 18)), (.int .i64 (.var 19)), (.int .i64 (.var 20))] [⟨[(.int .i64 (.var 18)), (.int .i64 (.var 19)), (.int .i64 (.var 20))], 83⟩, ⟨[(.int .i64 (.lit (-1)))], 3⟩])
     (.chk (.pick (.cmp .geq (.var 17) (.lit 0)) (.pick (.cmp .lss (.var 17) (.lit 3)) (.some 6) (.lit false)) (.lit false))
     (.load 6 (.off (.var 17) 1 (.lit 0)) [(.int .i64)] [⟨[(.int .i64 (.var 18)), (.int .i64 (.var 19)), (.int .i64 (.var 20))], 83⟩, ⟨[(.int .i64 (.lit (-1)))], 3⟩]
     (.chk (.pick (.cmp .geq (.var 17) (.lit 0)) (.pick (.cmp .lss (.var 17) (.lit 3)) (.some 5) (.lit false)) (.lit false))
     (.load 5 (.off (.var 17) 1 (.lit 0)) [(.int .i64)] [⟨[(.int .i64 (.var 18)), (.int .i64 (.var 19)), (.int .i64 (.var 20))], 83⟩, ⟨[(.int .i64 (.lit (-1)))], 3⟩]
     (.ite (.cmp .eql (.var 21) (.var 22))
      (.load 6 (.lit 0) [(.int .i64), (.int .i64), (.int .i64)] [⟨[(.int .i64 (.var 18)), (.int .i64 (.var 19)), (.int .i64 (.var 20))], 83⟩, ⟨[(.int .i64 (.lit (-1)))], 3⟩]
      (.ret (.tup [(.cst (.slice none 0 0)), (.agg [(.int .i64 (.var 23)), (.int .i64 (.var 24)), (.int .i64 (.var 25))]), (.bool (.lit false))]) [⟨[(.int .i64 (.var 23)), (.int .i64 (.var 24)), (.int .i64 (.var 25))], 83⟩, ⟨[(.int .i64 (.lit (-1)))], 3⟩]))
      (.chk (.pick (.cmp .geq (.var 17) (.lit 0)) (.pick (.cmp .lss (.var 17) (.lit 3)) (.some 6) (.lit false)) (.lit false))
      (.load 6 (.off (.var 17) 1 (.lit 0)) [(.int .i64)] [⟨[(.int .i64 (.var 18)), (.int .i64 (.var 19)), (.int .i64 (.var 20))], 83⟩, ⟨[(.int .i64 (.lit (-1)))], 3⟩]
      (.chk (.pick (.cmp .geq (.var 17) (.lit 0)) (.pick (.cmp .lss (.var 17) (.var 11)) (.some 10) (.lit false)) (.lit false))
      (.store false 10 (.off (.var 17) 1 (.lit 0)) [(.int .i64 (.var 23))] [⟨[(.int .i64 (.var 18)), (.int .i64 (.var 19)), (.int .i64 (.var 20))], 83⟩, ⟨[(.int .i64 (.lit (-1)))], 3⟩]
      (.chk (.pick (.cmp .geq (.var 17) (.lit 0)) (.pick (.cmp .lss (.var 17) (.lit 3)) (.some 6) (.lit false)) (.lit false))
      (.load 6 (.off (.var 17) 1 (.lit 0)) [(.int .i64)] [⟨[(.int .i64 (.var 18)), (.int .i64 (.var 19)), (.int .i64 (.var 20))], 83⟩, ⟨[(.int .i64 (.lit (-1)))], 3⟩]
      (.chk (.pick (.cmp .geq (.var 17) (.lit 0)) (.pick (.cmp .lss (.var 17) (.lit 3)) (.some 6) (.lit false)) (.lit false))
      (.store false 6 (.off (.var 17) 1 (.lit 0)) [(.int .i64 (.bin .add .i64 (.var 24) (.lit 1)))] [⟨[(.int .i64 (.var 18)), (.int .i64 (.var 19)), (.int .i64 (.var 20))], 83⟩, ⟨[(.int .i64 (.lit (-1)))], 3⟩]
      (.again 1 2 [.sl, .bool, (.int .i64), (.int .i64), (.int .i64)] [(.sl 13 (.lit 0) (.var 14) (.var 15)), (.bool (.var 16)), (.int .i64 (.var 18)), (.int .i64 (.var 19)), (.int .i64 (.var 20))] [⟨[(.int .i64 (.var 18)), (.int .i64 (.var 19)), (.int .i64 (.var 20))], 83⟩, ⟨[(.int .i64 (.lit (-1)))], 3⟩]))))))))))))))))
   (.again 0 2 [.sl, .bool, (.int .i64), (.int .i64), (.int .i64), (.int .i64)] [(.sl 21 (.lit 0) (.var 22) (.var 23)), (.bool (.var 24)), (.int .i64 (.bin .add .i64 (.var 17) (.lit 1))), (.int .i64 (.var 25)), (.int .i64 (.var 26)), (.int .i64 (.var 27))] [⟨[(.int .i64 (.var 25)), (.int .i64 (.var 26)), (.int .i64 (.var 27))], 83⟩, ⟨[(.int .i64 (.lit (-1)))], 3⟩]))
   (.load 6 (.lit 0) [(.int .i64), (.int .i64), (.int .i64)] [⟨[(.int .i64 (.var 18)), (.int .i64 (.var 19)), (.int .i64 (.var 20))], 83⟩, ⟨[(.int .i64 (.lit (-1)))], 3⟩]
   (.ret (.tup [(.sl 10 (.lit 0) (.var 11) (.var 12)), (.agg [(.int .i64 (.var 21)), (.int .i64 (.var 22)), (.int .i64 (.var 23))]), (.bool (.lit true))]) [⟨[(.int .i64 (.var 21)), (.int .i64 (.var 22)), (.int .i64 (.var 23))], 83⟩, ⟨[(.int .i64 (.lit (-1)))], 3⟩]))))))))))
theorem S_multi_Exact_3 : FnIs Tryd.prog n_multi_Exact_3 [(.agg [(.int .i64), (.int .i64), (.int .i64)]), (.int .i64), .ptr, .ptr] T_multi_Exact_3 := ⟨Tryd.f62, [{ key := 100001, tmps := [], join := true, dead := 70367661946912 }, { key := 999999, tmps := [], join := false, dead := 16 }], 4000, Tryd.func62, by kernel_rfl⟩
/-! 64 ablaut/multi.Exact$4  -/
abbrev n_multi_Exact_4 : FuncId := 64
def T_multi_Exact_4 : Tree :=
 (.alloc
 (.alloc
 (.loop 0 [.sl, (.int .i64), (.int .i64), (.int .i64), (.int .i64), (.int .i64)] [(.cst (.slice none 0 0)), (.int .i64 (.lit (-1))), (.int .i64 (.lit 7)), (.int .i64 (.lit 0)), (.int .i64 (.lit 0)), (.int .i64 (.lit 0))] [⟨[(.int .i64 (.var 0)), (.int .i64 (.var 1)), (.int .i64 (.var 2))], 83⟩, ⟨[(.int .i64 (.lit 0)), (.int .i64 (.lit 0)), (.int .i64 (.lit 0))], 83⟩] [⟨[(.int .i64 (.var 0)), (.int .i64 (.var 1)), (.int .i64 (.var 2))], 83⟩, ⟨[(.int .i64 (.var 11)), (.int .i64 (.var 12)), (.int .i64 (.var 13))], 83⟩]
  (.ite (.cmp .gtr (.var 10) (.lit 0))
   (.join 1 [.sl, (.int .i64), (.int .i64), (.int .i64), (.int .i64)] [⟨[(.int .i64 (.var 0)), (.int .i64 (.var 1)), (.int .i64 (.var 2))], 83⟩, ⟨[(.int .i64 (.var 18)), (.int .i64 (.var 19)), (.int .i64 (.var 20))], 83⟩]
    (.load 3 (.lit 0) [.val] [⟨[(.int .i64 (.var 0)), (.int .i64 (.var 1)), (.int .i64 (.var 2))], 83⟩, ⟨[(.int .i64 (.var 11)), (.int .i64 (.var 12)), (.int .i64 (.var 13))], 83⟩]
    (.callv false (.val 14) [(.agg [(.int .i64 (.var 0)), (.int .i64 (.var 1)), (.int .i64 (.var 2))]), (.int .i64 (.var 10))] (.tup [.sl, (.agg [(.int .i64), (.int .i64), (.int .i64)]), .bool]) [⟨[(.int .i64 (.var 0)), (.int .i64 (.var 1)), (.int .i64 (.var 2))], 83⟩, ⟨[(.int .i64 (.var 11)), (.int .i64 (.var 12)), (.int .i64 (.var 13))], 83⟩]
    (.alloc
    (.ite (.not (.var 21))
     (.again 1 2 [.sl, (.int .i64), (.int .i64), (.int .i64), (.int .i64)] [(.sl 6 (.lit 0) (.var 7) (.var 8)), (.int .i64 (.var 9)), (.int .i64 (.var 11)), (.int .i64 (.var 12)), (.int .i64 (.var 13))] [⟨[(.int .i64 (.var 0)), (.int .i64 (.var 1)), (.int .i64 (.var 2))], 83⟩, ⟨[(.int .i64 (.var 11)), (.int .i64 (.var 12)), (.int .i64 (.var 13))], 83⟩, ⟨[(.int .i64 (.var 18)), (.int .i64 (.var 19)), (.int .i64 (.var 20))], 83⟩])
     (.load 4 (.lit 0) [.val] [⟨[(.int .i64 (.var 0)), (.int .i64 (.var 1)), (.int .i64 (.var 2))], 83⟩, ⟨[(.int .i64 (.var 11)), (.int .i64 (.var 12)), (.int .i64 (.var 13))], 83⟩, ⟨[(.int .i64 (.var 18)), (.int .i64 (.var 19)), (.int .i64 (.var 20))], 83⟩]
     (.chk (.pick (.cmp .geq (.var 18) (.lit 0)) (.pick (.cmp .lss (.var 18) (.lit 7)) (.some 5) (.lit false)) (.lit false))
     (.chk (.pick (.cmp .geq (.off (.var 18) 49 (.lit 0)) (.lit 0)) (.pick (.cmp .geq (.var 19) (.lit 0)) (.pick (.cmp .lss (.var 19) (.lit 7)) (.some 5) (.lit false)) (.lit false)) (.lit false))
     (.chk (.pick (.cmp .geq (.off (.var 19) 7 (.off (.var 18) 49 (.lit 0))) (.lit 0)) (.pick (.cmp .geq (.var 20) (.lit 0)) (.pick (.cmp .lss (.var 20) (.lit 7)) (.some 5) (.lit false)) (.lit false)) (.lit false))
     (.load 5 (.off (.var 20) 1 (.off (.var 19) 7 (.off (.var 18) 49 (.lit 0)))) [(.int .i64)] [⟨[(.int .i64 (.var 0)), (.int .i64 (.var 1)), (.int .i64 (.var 2))], 83⟩, ⟨[(.int .i64 (.var 11)), (.int .i64 (.var 12)), (.int .i64 (.var 13))], 83⟩, ⟨[(.int .i64 (.var 18)), (.int .i64 (.var 19)), (.int .i64 (.var 20))], 83⟩]
     (.callv true (.val 22) [(.sl 15 (.lit 0) (.var 16) (.var 17))] (.int .i64) [⟨[(.int .i64 (.var 0)), (.int .i64 (.var 1)), (.int .i64 (.var 2))], 83⟩, ⟨[(.int .i64 (.var 11)), (.int .i64 (.var 12)), (.int .i64 (.var 13))], 83⟩, ⟨[(.int .i64 (.var 18)), (.int .i64 (.var 19)), (.int .i64 (.var 20))], 83⟩]
     (.join 2 [.sl, (.int .i64), (.int .i64), (.int .i64), (.int .i64)] [⟨[(.int .i64 (.var 0)), (.int .i64 (.var 1)), (.int .i64 (.var 2))], 83⟩, ⟨[(.int .i64 (.var 29)), (.int .i64 (.var 30)), (.int .i64 (.var 31))], 83⟩, ⟨[(.int .i64 (.var 18)), (.int .i64 (.var 19)), (.int .i64 (.var 20))], 83⟩]
      (.ite (.pick (.cmp .lss (.var 9) (.lit 0)) (.lit true) (.cmp .lss (.bin .add .i64 (.var 24) (.var 23)) (.var 9)))
       (.again 2 3 [.sl, (.int .i64), (.int .i64), (.int .i64), (.int .i64)] [(.sl 15 (.lit 0) (.var 16) (.var 17)), (.int .i64 (.bin .add .i64 (.var 24) (.var 23))), (.int .i64 (.var 18)), (.int .i64 (.var 19)), (.int .i64 (.var 20))] [⟨[(.int .i64 (.var 0)), (.int .i64 (.var 1)), (.int .i64 (.var 2))], 83⟩, ⟨[(.int .i64 (.var 18)), (.int .i64 (.var 19)), (.int .i64 (.var 20))], 83⟩, ⟨[(.int .i64 (.var 18)), (.int .i64 (.var 19)), (.int .i64 (.var 20))], 83⟩])
       (.again 2 3 [.sl, (.int .i64), (.int .i64), (.int .i64), (.int .i64)] [(.sl 6 (.lit 0) (.var 7) (.var 8)), (.int .i64 (.var 9)), (.int .i64 (.var 11)), (.int .i64 (.var 12)), (.int .i64 (.var 13))] [⟨[(.int .i64 (.var 0)), (.int .i64 (.var 1)), (.int .i64 (.var 2))], 83⟩, ⟨[(.int .i64 (.var 11)), (.int .i64 (.var 12)), (.int .i64 (.var 13))], 83⟩, ⟨[(.int .i64 (.var 18)), (.int .i64 (.var 19)), (.int .i64 (.var 20))], 83⟩]))
     (.again 1 2 [.sl, (.int .i64), (.int .i64), (.int .i64), (.int .i64)] [(.sl 25 (.lit 0) (.var 26) (.var 27)), (.int .i64 (.var 28)), (.int .i64 (.var 29)), (.int .i64 (.var 30)), (.int .i64 (.var 31))] [⟨[(.int .i64 (.var 0)), (.int .i64 (.var 1)), (.int .i64 (.var 2))], 83⟩, ⟨[(.int .i64 (.var 29)), (.int .i64 (.var 30)), (.int .i64 (.var 31))], 83⟩, ⟨[(.int .i64 (.var 18)), (.int .i64 (.var 19)), (.int .i64 (.var 20))], 83⟩]))))))))))))
   (.again 0 2 [.sl, (.int .i64), (.int .i64), (.int .i64), (.int .i64), (.int .i64)] [(.sl 14 (.lit 0) (.var 15) (.var 16)), (.int .i64 (.var 17)), (.int .i64 (.bin .sub .i64 (.var 10) (.lit 1))), (.int .i64 (.var 18)), (.int .i64 (.var 19)), (.int .i64 (.var 20))] [⟨[(.int .i64 (.var 0)), (.int .i64 (.var 1)), (.int .i64 (.var 2))], 83⟩, ⟨[(.int .i64 (.var 18)), (.int .i64 (.var 19)), (.int .i64 (.var 20))], 83⟩]))
   (.ret (.tup [(.sl 6 (.lit 0) (.var 7) (.var 8)), (.agg [(.int .i64 (.var 11)), (.int .i64 (.var 12)), (.int .i64 (.var 13))]), (.int .i64 (.var 9))]) [⟨[(.int .i64 (.var 0)), (.int .i64 (.var 1)), (.int .i64 (.var 2))], 83⟩, ⟨[(.int .i64 (.var 11)), (.int .i64 (.var 12)), (.int .i64 (.var 13))], 83⟩])))))
theorem S_multi_Exact_4 : FnIs Tryd.prog n_multi_Exact_4 [(.agg [(.int .i64), (.int .i64), (.int .i64)]), .ptr, .ptr, .ptr] T_multi_Exact_4 := ⟨Tryd.f64, [{ key := 100001, tmps := [], join := true, dead := 17873660953993216 }, { key := 9, tmps := [], join := true }], 4000, Tryd.func64, by kernel_rfl⟩
/-! 65 ablaut/ablautref18.number  -/
abbrev n_ref18_number : FuncId := 65
def T_ref18_number : Tree :=
 (.loop 0 [(.int .i64), (.int .i64)] [(.int .i64 (.lit 0)), (.int .i64 (.lit 0))] [] []
  (.chk (.cmp .geq (.var 1) (.lit 0))
  (.ite (.cmp .lss (.var 4) (.var 1))
   (.chk (.pick (.cmp .geq (.var 4) (.lit 0)) (.pick (.cmp .lss (.var 4) (.var 1)) (.some 0) (.lit false)) (.lit false))
   (.load 0 (.off (.var 4) 1 (.lit 0)) [(.int .i64)] []
   (.again 0 0 [(.int .i64), (.int .i64)] [(.int .i64 (.bin .add .i64 (.bin .mul .i64 (.var 3) (.lit 7)) (.var 5))), (.int .i64 (.bin .add .i64 (.var 4) (.lit 1)))] [])))
   (.ret (.int .i64 (.var 3)) []))))
theorem S_ref18_number : FnIs Tryd.prog n_ref18_number [.sl] T_ref18_number := ⟨Tryd.f65, [], 4000, Tryd.func65, by kernel_rfl⟩
/-! 66 ablaut/ablautref18.digits  -/
abbrev n_ref18_digits : FuncId := 66
def T_ref18_digits : Tree :=
 (.chk (.cmp .geq (.var 2) (.lit 0))
 (.ext false ⟨(.makeSlice 49 (.tmp 0) (.tmp 0)), 49, [(.int .i64 (.var 2)), (.int .i64 (.var 2))]⟩ .sl []
 (.chk (.cmp .geq (.var 2) (.lit 0))
 (.loop 0 [(.int .i64), .sl, .bool, (.int .i64)] [(.int .i64 (.var 0)), (.cst (.slice none 0 0)), (.bool (.lit false)), (.int .i64 (.bin .sub .i64 (.var 2) (.lit 1)))] [] []
  (.ite (.cmp .geq (.var 12) (.lit 0))
   (.chk (.pick (.cmp .geq (.var 12) (.lit 0)) (.pick (.cmp .lss (.var 12) (.var 5)) (.some 4) (.lit false)) (.lit false))
   (.store false 4 (.off (.var 12) 1 (.lit 0)) [(.int .i64 (.bin .rem .i64 (.var 7) (.lit 7)))] []
   (.chk (.pick (.cmp .geq (.var 12) (.lit 0)) (.pick (.cmp .lss (.var 12) (.var 5)) (.some 4) (.lit false)) (.lit false))
   (.load 4 (.off (.var 12) 1 (.lit 0)) [(.int .i64)] []
   (.chk (.pick (.cmp .geq (.var 12) (.lit 0)) (.pick (.cmp .lss (.var 12) (.var 2)) (.some 1) (.lit false)) (.lit false))
   (.load 1 (.off (.var 12) 1 (.lit 0)) [.sl] []
   (.chk (.cmp .geq (.var 15) (.lit 0))
   (.ite (.cmp .gtr (.var 13) (.var 15))
    (.ret (.tup [(.cst (.slice none 0 0)), (.bool (.lit false))]) [])
    (.again 0 0 [(.int .i64), .sl, .bool, (.int .i64)] [(.int .i64 (.bin .quo .i64 (.var 7) (.lit 7))), (.sl 8 (.lit 0) (.var 9) (.var 10)), (.bool (.var 11)), (.int .i64 (.bin .sub .i64 (.var 12) (.lit 1)))] [])))))))))
   (.ret (.tup [(.sl 4 (.lit 0) (.var 5) (.var 6)), (.bool (.lit true))]) []))))))
theorem S_ref18_digits : FnIs Tryd.prog n_ref18_digits [(.int .i64), .sl] T_ref18_digits := ⟨Tryd.f66, [], 4000, Tryd.func66, by kernel_rfl⟩
/-! 67 ablaut/ablautref18.chosen  -/
abbrev n_ref18_chosen : FuncId := 67
def T_ref18_chosen : Tree :=
 (.chk (.cmp .geq (.var 1) (.lit 0))
 (.call false 91 [(.int .i64 (.var 1))] .sl []
 (.loop 0 [.sl, .bool, (.int .i64)] [(.cst (.slice none 0 0)), (.bool (.lit false)), (.int .i64 (.lit 0))] [] []
  (.chk (.cmp .geq (.var 1) (.lit 0))
  (.ite (.cmp .lss (.var 14) (.var 1))
   (.chk (.cmp .geq (.var 1) (.lit 0))
   (.chk (.cmp .geq (.bin .sub .i64 (.bin .sub .i64 (.var 1) (.lit 1)) (.var 14)) (.lit 0))
   (.join 1 [.sl, .bool] []
    (.ite (.cmp .eql (.bin .and .i64 (.bin .shr .i64 (.var 6) (.bin .sub .i64 (.bin .sub .i64 (.var 1) (.lit 1)) (.var 14))) (.lit 1)) (.lit 1))
     (.chk (.pick (.cmp .geq (.var 14) (.lit 0)) (.pick (.cmp .lss (.var 14) (.var 4)) (.some 3) (.lit false)) (.lit false))
     (.load 3 (.off (.var 14) 1 (.lit 0)) [(.int .i64)] []
     (.chk (.pick (.cmp .geq (.var 14) (.lit 0)) (.pick (.cmp .lss (.var 14) (.var 1)) (.some 0) (.lit false)) (.lit false))
     (.load 0 (.off (.var 14) 1 (.lit 0)) [.sl] []
     (.chk (.cmp .geq (.var 17) (.lit 0))
     (.ite (.cmp .eql (.var 15) (.var 17))
      (.ret (.tup [(.cst (.slice none 0 0)), (.bool (.lit false))]) [])
      (.chk (.pick (.cmp .geq (.var 14) (.lit 0)) (.pick (.cmp .lss (.var 14) (.var 4)) (.some 3) (.lit false)) (.lit false))
      (.load 3 (.off (.var 14) 1 (.lit 0)) [(.int .i64)] []
      (.chk (.pick (.cmp .geq (.var 14) (.lit 0)) (.pick (.cmp .lss (.var 14) (.var 8)) (.some 7) (.lit false)) (.lit false))
      (.store false 7 (.off (.var 14) 1 (.lit 0)) [(.int .i64 (.var 19))] []
      (.again 1 0 [.sl, .bool] [(.sl 10 (.lit 0) (.var 11) (.var 12)), (.bool (.var 13))] [])))))))))))
     (.again 1 0 [.sl, .bool] [(.sl 10 (.lit 0) (.var 11) (.var 12)), (.bool (.var 13))] []))
   (.again 0 0 [.sl, .bool, (.int .i64)] [(.sl 15 (.lit 0) (.var 16) (.var 17)), (.bool (.var 18)), (.int .i64 (.bin .add .i64 (.var 14) (.lit 1)))] []))))
   (.ret (.tup [(.sl 7 (.lit 0) (.var 8) (.var 9)), (.bool (.lit true))]) []))))))
theorem S_ref18_chosen : FnIs Tryd.prog n_ref18_chosen [.sl, .sl, (.int .i64)] T_ref18_chosen := ⟨Tryd.f67, [{ key := 6, tmps := [], join := true, dead := 70231170939960 }], 4000, Tryd.func67, by kernel_rfl⟩
/-! 69 ablaut/ablautref18.behind  -/
abbrev n_ref18_behind : FuncId := 69
def T_ref18_behind : Tree :=
 (.alloc
 (.ext false ⟨(.call ⟨.builtin .append, #[(.tmp 0), (.tmp 0)], #[49, 49]⟩), 49, [(.slc 0 0 0 0), (.sl 0 (.lit 0) (.var 1) (.var 2))]⟩ .sl [⟨[], 3⟩]
 (.loop 0 [(.int .i64)] [(.int .i64 (.lit 0))] [⟨[], 3⟩] [⟨[], 3⟩]
  (.chk (.cmp .geq (.var 4) (.lit 0))
  (.ite (.cmp .lss (.var 9) (.var 4))
   (.chk (.pick (.cmp .geq (.var 9) (.lit 0)) (.pick (.cmp .lss (.var 9) (.var 4)) (.some 3) (.lit false)) (.lit false))
   (.load 3 (.off (.var 9) 1 (.lit 0)) [(.int .i64)] [⟨[], 3⟩]
   (.join 1 [] [⟨[], 3⟩]
    (.ite (.cmp .geq (.var 10) (.lit 0))
     (.chk (.pick (.cmp .geq (.var 9) (.lit 0)) (.pick (.cmp .lss (.var 9) (.var 7)) (.some 6) (.lit false)) (.lit false))
     (.load 6 (.off (.var 9) 1 (.lit 0)) [(.int .i64)] [⟨[], 3⟩]
     (.chk (.pick (.cmp .geq (.var 9) (.lit 0)) (.pick (.cmp .lss (.var 9) (.var 7)) (.some 6) (.lit false)) (.lit false))
     (.store false 6 (.off (.var 9) 1 (.lit 0)) [(.int .i64 (.bin .add .i64 (.var 11) (.lit 1)))] [⟨[], 3⟩]
     (.again 1 1 [] [] [⟨[], 3⟩])))))
     (.again 1 1 [] [] [⟨[], 3⟩]))
   (.again 0 1 [(.int .i64)] [(.int .i64 (.bin .add .i64 (.var 9) (.lit 1)))] [⟨[], 3⟩]))))
   (.ret (.sl 6 (.lit 0) (.var 7) (.var 8)) [⟨[], 3⟩]))))))
theorem S_ref18_behind : FnIs Tryd.prog n_ref18_behind [.sl, .sl] T_ref18_behind := ⟨Tryd.f69, [{ key := 6, tmps := [], join := true, dead := 267378572 }], 4000, Tryd.func69, by kernel_rfl⟩
end Go.Proofs.YtialbhieaipcgaaDoor
