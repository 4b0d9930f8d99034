/- The trees of this seat's functions, printed by a program of mine (SyGen), checked here by the kernel. -/
import Derived.Test.YtialbhieaipcgaaDoorSyDef
import Derived.Test.YtialbhieaipcgaaDoorProg
import Derived.KernelRfl
set_option maxRecDepth 100000
namespace Go.Proofs.YtialbhieaipcgaaDoor
open Go Go.Sy
/-! 23 ablaut/multi.Exact  -/
abbrev n_multi_Exact : FuncId := 23
def T_multi_Exact : Tree :=
 (.alloc
 (.alloc
 (.alloc
 (.call false 46 [(.slc 2 0 2 2)] (.int .i64) [⟨[(.sl 0 (.lit 0) (.var 1) (.var 2))], 22⟩, ⟨[(.sl 3 (.lit 0) (.var 4) (.var 5)), (.int .i64 (.var 6))], 26⟩, ⟨[(.fn (.func 60) [] [(.loc 1 0)]), (.fn (.func 61) [] [(.loc 0 0)])], 73⟩]
 (.ite (.cmp .neq (.var 7) (.lit 0))
  (.ret (.tup [(.cst (.slice none 0 0)), (.int .i64 (.lit 0)), (.int .i64 (.var 7))]) [⟨[(.sl 0 (.lit 0) (.var 1) (.var 2))], 22⟩, ⟨[(.sl 3 (.lit 0) (.var 4) (.var 5)), (.int .i64 (.var 6))], 26⟩, ⟨[(.fn (.func 60) [] [(.loc 1 0)]), (.fn (.func 61) [] [(.loc 0 0)])], 73⟩])
  (.allocc 83 ([(.int .i64 (.lit 0)), (.int .i64 (.lit 0)), (.int .i64 (.lit 0))])
  (.chk (.cmp .geq (.var 1) (.lit 0))
  (.loop 0 [.sl, (.int .i64), (.int .i64), (.int .i64)] [(.cst (.slice none 0 0)), (.int .i64 (.lit 0)), (.int .i64 (.lit 0)), (.int .i64 (.lit 0))] [⟨[(.sl 0 (.lit 0) (.var 1) (.var 2))], 22⟩, ⟨[(.sl 3 (.lit 0) (.var 4) (.var 5)), (.int .i64 (.var 6))], 26⟩, ⟨[(.fn (.func 60) [] [(.loc 1 0)]), (.fn (.func 61) [] [(.loc 0 0)])], 73⟩] [⟨[(.sl 0 (.lit 0) (.var 1) (.var 2))], 22⟩, ⟨[(.sl 3 (.lit 0) (.var 4) (.var 5)), (.int .i64 (.var 6))], 26⟩, ⟨[(.fn (.func 60) [] [(.loc 1 0)]), (.fn (.func 61) [] [(.loc 0 0)])], 73⟩]
   (.ite (.cmp .lss (.var 14) (.var 1))
    (.chk (.pick (.cmp .geq (.var 14) (.lit 0)) (.pick (.cmp .lss (.var 14) (.var 1)) (.some 0) (.lit false)) (.lit false))
    (.load 0 (.off (.var 14) 1 (.lit 0)) [.sl] [⟨[(.sl 0 (.lit 0) (.var 1) (.var 2))], 22⟩, ⟨[(.sl 3 (.lit 0) (.var 4) (.var 5)), (.int .i64 (.var 6))], 26⟩, ⟨[(.fn (.func 60) [] [(.loc 1 0)]), (.fn (.func 61) [] [(.loc 0 0)])], 73⟩]
    (.chk (.cmp .geq (.var 16) (.lit 0))
    (.ite (.cmp .gtr (.var 16) (.lit 6))
     (.ret (.tup [(.cst (.slice none 0 0)), (.int .i64 (.lit 0)), (.int .i64 (.lit 11))]) [⟨[(.sl 0 (.lit 0) (.var 1) (.var 2))], 22⟩, ⟨[(.sl 3 (.lit 0) (.var 4) (.var 5)), (.int .i64 (.var 6))], 26⟩, ⟨[(.fn (.func 60) [] [(.loc 1 0)]), (.fn (.func 61) [] [(.loc 0 0)])], 73⟩])
     (.chk (.cmp .geq (.var 16) (.lit 0))
     (.chk (.pick (.cmp .geq (.var 14) (.lit 0)) (.pick (.cmp .lss (.var 14) (.lit 3)) (.some 8) (.lit false)) (.lit false))
     (.store false 8 (.off (.var 14) 1 (.lit 0)) [(.int .i64 (.var 16))] [⟨[(.sl 0 (.lit 0) (.var 1) (.var 2))], 22⟩, ⟨[(.sl 3 (.lit 0) (.var 4) (.var 5)), (.int .i64 (.var 6))], 26⟩, ⟨[(.fn (.func 60) [] [(.loc 1 0)]), (.fn (.func 61) [] [(.loc 0 0)])], 73⟩]
     (.again 0 3 [.sl, (.int .i64), (.int .i64), (.int .i64)] [(.sl 9 (.lit 0) (.var 10) (.var 11)), (.int .i64 (.var 12)), (.int .i64 (.var 13)), (.int .i64 (.bin .add .i64 (.var 14) (.lit 1)))] [⟨[(.sl 0 (.lit 0) (.var 1) (.var 2))], 22⟩, ⟨[(.sl 3 (.lit 0) (.var 4) (.var 5)), (.int .i64 (.var 6))], 26⟩, ⟨[(.fn (.func 60) [] [(.loc 1 0)]), (.fn (.func 61) [] [(.loc 0 0)])], 73⟩]))))))))
    (.call false 50 [(.sl 0 (.lit 0) (.var 1) (.var 2)), (.agg [(.sl 3 (.lit 0) (.var 4) (.var 5)), (.int .i64 (.var 6))])] .val [⟨[(.sl 0 (.lit 0) (.var 1) (.var 2))], 22⟩, ⟨[(.sl 3 (.lit 0) (.var 4) (.var 5)), (.int .i64 (.var 6))], 26⟩, ⟨[(.fn (.func 60) [] [(.loc 1 0)]), (.fn (.func 61) [] [(.loc 0 0)])], 73⟩]
    (.alloc
    (.alloc
    (.allocb 89 none
    (.chk (.some 8)
    (.load 8 (.lit 0) [(.int .i64)] [⟨[(.sl 0 (.lit 0) (.var 1) (.var 2))], 22⟩, ⟨[(.sl 3 (.lit 0) (.var 4) (.var 5)), (.int .i64 (.var 6))], 26⟩, ⟨[(.fn (.func 60) [] [(.loc 1 0)]), (.fn (.func 61) [] [(.loc 0 0)])], 73⟩, ⟨[(.val 15)], 75⟩, ⟨[(.fn (.func 62) [] [(.loc 0 0), (.ptr 8 (.lit 0))])], 85⟩]
    (.loop 0 [(.int .i64)] [(.int .i64 (.var 17))] [⟨[(.sl 0 (.lit 0) (.var 1) (.var 2))], 22⟩, ⟨[(.sl 3 (.lit 0) (.var 4) (.var 5)), (.int .i64 (.var 6))], 26⟩, ⟨[(.fn (.func 60) [] [(.loc 1 0)]), (.fn (.func 61) [] [(.loc 0 0)])], 73⟩, ⟨[(.val 15)], 75⟩, ⟨[(.fn (.func 62) [] [(.loc 0 0), (.ptr 8 (.lit 0))])], 85⟩] [⟨[(.sl 0 (.lit 0) (.var 1) (.var 2))], 22⟩, ⟨[(.sl 3 (.lit 0) (.var 4) (.var 5)), (.int .i64 (.var 6))], 26⟩, ⟨[(.fn (.func 60) [] [(.loc 1 0)]), (.fn (.func 61) [] [(.loc 0 0)])], 73⟩, ⟨[(.val 15)], 75⟩, ⟨[(.fn (.func 62) [] [(.loc 0 0), (.ptr 8 (.lit 0))])], 85⟩]
     (.ite (.cmp .geq (.var 18) (.lit 0))
      (.chk (.some 8)
      (.load 8 (.lit 1) [(.int .i64)] [⟨[(.sl 0 (.lit 0) (.var 1) (.var 2))], 22⟩, ⟨[(.sl 3 (.lit 0) (.var 4) (.var 5)), (.int .i64 (.var 6))], 26⟩, ⟨[(.fn (.func 60) [] [(.loc 1 0)]), (.fn (.func 61) [] [(.loc 0 0)])], 73⟩, ⟨[(.val 15)], 75⟩, ⟨[(.fn (.func 62) [] [(.loc 0 0), (.ptr 8 (.lit 0))])], 85⟩]
      (.loop 1 [(.int .i64)] [(.int .i64 (.var 19))] [⟨[(.sl 0 (.lit 0) (.var 1) (.var 2))], 22⟩, ⟨[(.sl 3 (.lit 0) (.var 4) (.var 5)), (.int .i64 (.var 6))], 26⟩, ⟨[(.fn (.func 60) [] [(.loc 1 0)]), (.fn (.func 61) [] [(.loc 0 0)])], 73⟩, ⟨[(.val 15)], 75⟩, ⟨[(.fn (.func 62) [] [(.loc 0 0), (.ptr 8 (.lit 0))])], 85⟩] [⟨[(.sl 0 (.lit 0) (.var 1) (.var 2))], 22⟩, ⟨[(.sl 3 (.lit 0) (.var 4) (.var 5)), (.int .i64 (.var 6))], 26⟩, ⟨[(.fn (.func 60) [] [(.loc 1 0)]), (.fn (.func 61) [] [(.loc 0 0)])], 73⟩, ⟨[(.val 15)], 75⟩, ⟨[(.fn (.func 62) [] [(.loc 0 0), (.ptr 8 (.lit 0))])], 85⟩]
       (.ite (.cmp .geq (.var 20) (.lit 0))
        (.chk (.some 8)
        (.load 8 (.lit 2) [(.int .i64)] [⟨[(.sl 0 (.lit 0) (.var 1) (.var 2))], 22⟩, ⟨[(.sl 3 (.lit 0) (.var 4) (.var 5)), (.int .i64 (.var 6))], 26⟩, ⟨[(.fn (.func 60) [] [(.loc 1 0)]), (.fn (.func 61) [] [(.loc 0 0)])], 73⟩, ⟨[(.val 15)], 75⟩, ⟨[(.fn (.func 62) [] [(.loc 0 0), (.ptr 8 (.lit 0))])], 85⟩]
        (.loop 2 [(.int .i64)] [(.int .i64 (.var 21))] [⟨[(.sl 0 (.lit 0) (.var 1) (.var 2))], 22⟩, ⟨[(.sl 3 (.lit 0) (.var 4) (.var 5)), (.int .i64 (.var 6))], 26⟩, ⟨[(.fn (.func 60) [] [(.loc 1 0)]), (.fn (.func 61) [] [(.loc 0 0)])], 73⟩, ⟨[(.val 15)], 75⟩, ⟨[(.fn (.func 62) [] [(.loc 0 0), (.ptr 8 (.lit 0))])], 85⟩] [⟨[(.sl 0 (.lit 0) (.var 1) (.var 2))], 22⟩, ⟨[(.sl 3 (.lit 0) (.var 4) (.var 5)), (.int .i64 (.var 6))], 26⟩, ⟨[(.fn (.func 60) [] [(.loc 1 0)]), (.fn (.func 61) [] [(.loc 0 0)])], 73⟩, ⟨[(.val 15)], 75⟩, ⟨[(.fn (.func 62) [] [(.loc 0 0), (.ptr 8 (.lit 0))])], 85⟩]
         (.ite (.cmp .geq (.var 22) (.lit 0))
          (.alloc
          (.load 8 (.lit 0) [(.int .i64), (.int .i64), (.int .i64)] [⟨[(.sl 0 (.lit 0) (.var 1) (.var 2))], 22⟩, ⟨[(.sl 3 (.lit 0) (.var 4) (.var 5)), (.int .i64 (.var 6))], 26⟩, ⟨[(.fn (.func 60) [] [(.loc 1 0)]), (.fn (.func 61) [] [(.loc 0 0)])], 73⟩, ⟨[(.val 15)], 75⟩, ⟨[(.fn (.func 62) [] [(.loc 0 0), (.ptr 8 (.lit 0))])], 85⟩, ⟨[(.int .i64 (.var 18)), (.int .i64 (.var 20)), (.int .i64 (.var 22))], 83⟩]
          (.join 3 [] [⟨[(.sl 0 (.lit 0) (.var 1) (.var 2))], 22⟩, ⟨[(.sl 3 (.lit 0) (.var 4) (.var 5)), (.int .i64 (.var 6))], 26⟩, ⟨[(.fn (.func 60) [] [(.loc 1 0)]), (.fn (.func 61) [] [(.loc 0 0)])], 73⟩, ⟨[(.val 15)], 75⟩, ⟨[(.fn (.func 62) [] [(.loc 0 0), (.ptr 8 (.lit 0))])], 85⟩, ⟨[(.int .i64 (.var 18)), (.int .i64 (.var 20)), (.int .i64 (.var 22))], 83⟩]
           (.ite (.not (.pick (.cmp .eql (.var 18) (.var 23)) (.pick (.cmp .eql (.var 20) (.var 24)) (.cmp .eql (.var 22) (.var 25)) (.lit false)) (.lit false)))
            (.chk (.pick (.cmp .geq (.var 18) (.lit 0)) (.pick (.cmp .lss (.var 18) (.lit 7)) (.some 16) (.lit false)) (.lit false))
            (.chk (.pick (.cmp .geq (.off (.var 18) 49 (.lit 0)) (.lit 0)) (.pick (.cmp .geq (.var 20) (.lit 0)) (.pick (.cmp .lss (.var 20) (.lit 7)) (.some 16) (.lit false)) (.lit false)) (.lit false))
            (.call false 64 [(.agg [(.int .i64 (.var 18)), (.int .i64 (.var 20)), (.int .i64 (.var 22))]), (.loc 4 0), (.loc 3 0), (.ptr 16 (.lit 0))] (.tup [.sl, (.agg [(.int .i64), (.int .i64), (.int .i64)]), (.int .i64)]) [⟨[(.sl 0 (.lit 0) (.var 1) (.var 2))], 22⟩, ⟨[(.sl 3 (.lit 0) (.var 4) (.var 5)), (.int .i64 (.var 6))], 26⟩, ⟨[(.fn (.func 60) [] [(.loc 1 0)]), (.fn (.func 61) [] [(.loc 0 0)])], 73⟩, ⟨[(.val 15)], 75⟩, ⟨[(.fn (.func 62) [] [(.loc 0 0), (.ptr 8 (.lit 0))])], 85⟩, ⟨[(.int .i64 (.var 18)), (.int .i64 (.var 20)), (.int .i64 (.var 22))], 83⟩]
            (.chk (.pick (.cmp .geq (.off (.var 20) 7 (.off (.var 18) 49 (.lit 0))) (.lit 0)) (.pick (.cmp .geq (.var 22) (.lit 0)) (.pick (.cmp .lss (.var 22) (.lit 7)) (.some 16) (.lit false)) (.lit false)) (.lit false))
            (.store false 16 (.off (.var 22) 1 (.off (.var 20) 7 (.off (.var 18) 49 (.lit 0)))) [(.int .i64 (.var 32))] [⟨[(.sl 0 (.lit 0) (.var 1) (.var 2))], 22⟩, ⟨[(.sl 3 (.lit 0) (.var 4) (.var 5)), (.int .i64 (.var 6))], 26⟩, ⟨[(.fn (.func 60) [] [(.loc 1 0)]), (.fn (.func 61) [] [(.loc 0 0)])], 73⟩, ⟨[(.val 15)], 75⟩, ⟨[(.fn (.func 62) [] [(.loc 0 0), (.ptr 8 (.lit 0))])], 85⟩, ⟨[(.int .i64 (.var 18)), (.int .i64 (.var 20)), (.int .i64 (.var 22))], 83⟩]
            (.again 3 6 [] [] [⟨[(.sl 0 (.lit 0) (.var 1) (.var 2))], 22⟩, ⟨[(.sl 3 (.lit 0) (.var 4) (.var 5)), (.int .i64 (.var 6))], 26⟩, ⟨[(.fn (.func 60) [] [(.loc 1 0)]), (.fn (.func 61) [] [(.loc 0 0)])], 73⟩, ⟨[(.val 15)], 75⟩, ⟨[(.fn (.func 62) [] [(.loc 0 0), (.ptr 8 (.lit 0))])], 85⟩, ⟨[(.int .i64 (.var 18)), (.int .i64 (.var 20)), (.int .i64 (.var 22))], 83⟩]))))))
            (.again 3 6 [] [] [⟨[(.sl 0 (.lit 0) (.var 1) (.var 2))], 22⟩, ⟨[(.sl 3 (.lit 0) (.var 4) (.var 5)), (.int .i64 (.var 6))], 26⟩, ⟨[(.fn (.func 60) [] [(.loc 1 0)]), (.fn (.func 61) [] [(.loc 0 0)])], 73⟩, ⟨[(.val 15)], 75⟩, ⟨[(.fn (.func 62) [] [(.loc 0 0), (.ptr 8 (.lit 0))])], 85⟩, ⟨[(.int .i64 (.var 18)), (.int .i64 (.var 20)), (.int .i64 (.var 22))], 83⟩]))
          (.again 2 5 [(.int .i64)] [(.int .i64 (.bin .sub .i64 (.var 22) (.lit 1)))] [⟨[(.sl 0 (.lit 0) (.var 1) (.var 2))], 22⟩, ⟨[(.sl 3 (.lit 0) (.var 4) (.var 5)), (.int .i64 (.var 6))], 26⟩, ⟨[(.fn (.func 60) [] [(.loc 1 0)]), (.fn (.func 61) [] [(.loc 0 0)])], 73⟩, ⟨[(.val 15)], 75⟩, ⟨[(.fn (.func 62) [] [(.loc 0 0), (.ptr 8 (.lit 0))])], 85⟩, ⟨[(.int .i64 (.var 18)), (.int .i64 (.var 20)), (.int .i64 (.var 22))], 83⟩]))))
          (.again 1 5 [(.int .i64)] [(.int .i64 (.bin .sub .i64 (.var 20) (.lit 1)))] [⟨[(.sl 0 (.lit 0) (.var 1) (.var 2))], 22⟩, ⟨[(.sl 3 (.lit 0) (.var 4) (.var 5)), (.int .i64 (.var 6))], 26⟩, ⟨[(.fn (.func 60) [] [(.loc 1 0)]), (.fn (.func 61) [] [(.loc 0 0)])], 73⟩, ⟨[(.val 15)], 75⟩, ⟨[(.fn (.func 62) [] [(.loc 0 0), (.ptr 8 (.lit 0))])], 85⟩])))))
        (.again 0 5 [(.int .i64)] [(.int .i64 (.bin .sub .i64 (.var 18) (.lit 1)))] [⟨[(.sl 0 (.lit 0) (.var 1) (.var 2))], 22⟩, ⟨[(.sl 3 (.lit 0) (.var 4) (.var 5)), (.int .i64 (.var 6))], 26⟩, ⟨[(.fn (.func 60) [] [(.loc 1 0)]), (.fn (.func 61) [] [(.loc 0 0)])], 73⟩, ⟨[(.val 15)], 75⟩, ⟨[(.fn (.func 62) [] [(.loc 0 0), (.ptr 8 (.lit 0))])], 85⟩])))))
      (.allocc 83 ([(.int .i64 (.lit 0)), (.int .i64 (.lit 0)), (.int .i64 (.lit 0))])
      (.store false 19 (.lit 0) [(.int .i64 (.lit 0)), (.int .i64 (.lit 0)), (.int .i64 (.lit 0))] [⟨[(.sl 0 (.lit 0) (.var 1) (.var 2))], 22⟩, ⟨[(.sl 3 (.lit 0) (.var 4) (.var 5)), (.int .i64 (.var 6))], 26⟩, ⟨[(.fn (.func 60) [] [(.loc 1 0)]), (.fn (.func 61) [] [(.loc 0 0)])], 73⟩, ⟨[(.val 15)], 75⟩, ⟨[(.fn (.func 62) [] [(.loc 0 0), (.ptr 8 (.lit 0))])], 85⟩]
      (.loop 0 [.sl, .ptr] [(.cst (.slice none 0 0)), (.ptr 19 (.lit 0))] [⟨[(.sl 0 (.lit 0) (.var 1) (.var 2))], 22⟩, ⟨[(.sl 3 (.lit 0) (.var 4) (.var 5)), (.int .i64 (.var 6))], 26⟩, ⟨[(.fn (.func 60) [] [(.loc 1 0)]), (.fn (.func 61) [] [(.loc 0 0)])], 73⟩, ⟨[(.val 15)], 75⟩, ⟨[(.fn (.func 62) [] [(.loc 0 0), (.ptr 8 (.lit 0))])], 85⟩] [⟨[(.sl 0 (.lit 0) (.var 1) (.var 2))], 22⟩, ⟨[(.sl 3 (.lit 0) (.var 4) (.var 5)), (.int .i64 (.var 6))], 26⟩, ⟨[(.fn (.func 60) [] [(.loc 1 0)]), (.fn (.func 61) [] [(.loc 0 0)])], 73⟩, ⟨[(.val 15)], 75⟩, ⟨[(.fn (.func 62) [] [(.loc 0 0), (.ptr 8 (.lit 0))])], 85⟩]
       (.load 23 (.lit 0) [(.int .i64), (.int .i64), (.int .i64)] [⟨[(.sl 0 (.lit 0) (.var 1) (.var 2))], 22⟩, ⟨[(.sl 3 (.lit 0) (.var 4) (.var 5)), (.int .i64 (.var 6))], 26⟩, ⟨[(.fn (.func 60) [] [(.loc 1 0)]), (.fn (.func 61) [] [(.loc 0 0)])], 73⟩, ⟨[(.val 15)], 75⟩, ⟨[(.fn (.func 62) [] [(.loc 0 0), (.ptr 8 (.lit 0))])], 85⟩]
       (.load 8 (.lit 0) [(.int .i64), (.int .i64), (.int .i64)] [⟨[(.sl 0 (.lit 0) (.var 1) (.var 2))], 22⟩, ⟨[(.sl 3 (.lit 0) (.var 4) (.var 5)), (.int .i64 (.var 6))], 26⟩, ⟨[(.fn (.func 60) [] [(.loc 1 0)]), (.fn (.func 61) [] [(.loc 0 0)])], 73⟩, ⟨[(.val 15)], 75⟩, ⟨[(.fn (.func 62) [] [(.loc 0 0), (.ptr 8 (.lit 0))])], 85⟩]
       (.ite (.not (.pick (.cmp .eql (.var 24) (.var 27)) (.pick (.cmp .eql (.var 25) (.var 28)) (.cmp .eql (.var 26) (.var 29)) (.lit false)) (.lit false)))
        (.load 23 (.lit 0) [(.int .i64), (.int .i64), (.int .i64)] [⟨[(.sl 0 (.lit 0) (.var 1) (.var 2))], 22⟩, ⟨[(.sl 3 (.lit 0) (.var 4) (.var 5)), (.int .i64 (.var 6))], 26⟩, ⟨[(.fn (.func 60) [] [(.loc 1 0)]), (.fn (.func 61) [] [(.loc 0 0)])], 73⟩, ⟨[(.val 15)], 75⟩, ⟨[(.fn (.func 62) [] [(.loc 0 0), (.ptr 8 (.lit 0))])], 85⟩]
        (.call false 64 [(.agg [(.int .i64 (.var 30)), (.int .i64 (.var 31)), (.int .i64 (.var 32))]), (.loc 4 0), (.loc 3 0), (.ptr 16 (.lit 0))] (.tup [.sl, (.agg [(.int .i64), (.int .i64), (.int .i64)]), (.int .i64)]) [⟨[(.sl 0 (.lit 0) (.var 1) (.var 2))], 22⟩, ⟨[(.sl 3 (.lit 0) (.var 4) (.var 5)), (.int .i64 (.var 6))], 26⟩, ⟨[(.fn (.func 60) [] [(.loc 1 0)]), (.fn (.func 61) [] [(.loc 0 0)])], 73⟩, ⟨[(.val 15)], 75⟩, ⟨[(.fn (.func 62) [] [(.loc 0 0), (.ptr 8 (.lit 0))])], 85⟩]
        (.alloc
        (.alloc
        (.ext false ⟨(.call ⟨.builtin .append, #[(.tmp 0), (.tmp 0)], #[23, 23]⟩), 23, [(.sl 20 (.lit 0) (.var 21) (.var 22)), (.slc 6 0 1 1)]⟩ .sl [⟨[(.sl 0 (.lit 0) (.var 1) (.var 2))], 22⟩, ⟨[(.sl 3 (.lit 0) (.var 4) (.var 5)), (.int .i64 (.var 6))], 26⟩, ⟨[(.fn (.func 60) [] [(.loc 1 0)]), (.fn (.func 61) [] [(.loc 0 0)])], 73⟩, ⟨[(.val 15)], 75⟩, ⟨[(.fn (.func 62) [] [(.loc 0 0), (.ptr 8 (.lit 0))])], 85⟩, ⟨[(.int .i64 (.var 36)), (.int .i64 (.var 37)), (.int .i64 (.var 38))], 83⟩, ⟨[(.sl 33 (.lit 0) (.var 34) (.var 35))], 49⟩]
        (.store false 23 (.lit 0) [(.int .i64 (.var 36)), (.int .i64 (.var 37)), (.int .i64 (.var 38))] [⟨[(.sl 0 (.lit 0) (.var 1) (.var 2))], 22⟩, ⟨[(.sl 3 (.lit 0) (.var 4) (.var 5)), (.int .i64 (.var 6))], 26⟩, ⟨[(.fn (.func 60) [] [(.loc 1 0)]), (.fn (.func 61) [] [(.loc 0 0)])], 73⟩, ⟨[(.val 15)], 75⟩, ⟨[(.fn (.func 62) [] [(.loc 0 0), (.ptr 8 (.lit 0))])], 85⟩, ⟨[(.int .i64 (.var 36)), (.int .i64 (.var 37)), (.int .i64 (.var 38))], 83⟩, ⟨[(.sl 33 (.lit 0) (.var 34) (.var 35))], 49⟩]
        (.load 23 (.lit 0) [(.int .i64), (.int .i64), (.int .i64)] [⟨[(.sl 0 (.lit 0) (.var 1) (.var 2))], 22⟩, ⟨[(.sl 3 (.lit 0) (.var 4) (.var 5)), (.int .i64 (.var 6))], 26⟩, ⟨[(.fn (.func 60) [] [(.loc 1 0)]), (.fn (.func 61) [] [(.loc 0 0)])], 73⟩, ⟨[(.val 15)], 75⟩, ⟨[(.fn (.func 62) [] [(.loc 0 0), (.ptr 8 (.lit 0))])], 85⟩, ⟨[(.int .i64 (.var 36)), (.int .i64 (.var 37)), (.int .i64 (.var 38))], 83⟩, ⟨[(.sl 33 (.lit 0) (.var 34) (.var 35))], 49⟩]
        (.allocc 83 ([(.int .i64 (.lit 0)), (.int .i64 (.lit 0)), (.int .i64 (.lit 0))])
        (.store false 46 (.lit 0) [(.int .i64 (.var 43)), (.int .i64 (.var 44)), (.int .i64 (.var 45))] [⟨[(.sl 0 (.lit 0) (.var 1) (.var 2))], 22⟩, ⟨[(.sl 3 (.lit 0) (.var 4) (.var 5)), (.int .i64 (.var 6))], 26⟩, ⟨[(.fn (.func 60) [] [(.loc 1 0)]), (.fn (.func 61) [] [(.loc 0 0)])], 73⟩, ⟨[(.val 15)], 75⟩, ⟨[(.fn (.func 62) [] [(.loc 0 0), (.ptr 8 (.lit 0))])], 85⟩, ⟨[(.int .i64 (.var 36)), (.int .i64 (.var 37)), (.int .i64 (.var 38))], 83⟩, ⟨[(.sl 33 (.lit 0) (.var 34) (.var 35))], 49⟩]
        (.again 0 5 [.sl, .ptr] [(.sl 40 (.lit 0) (.var 41) (.var 42)), (.ptr 46 (.lit 0))] [⟨[(.sl 0 (.lit 0) (.var 1) (.var 2))], 22⟩, ⟨[(.sl 3 (.lit 0) (.var 4) (.var 5)), (.int .i64 (.var 6))], 26⟩, ⟨[(.fn (.func 60) [] [(.loc 1 0)]), (.fn (.func 61) [] [(.loc 0 0)])], 73⟩, ⟨[(.val 15)], 75⟩, ⟨[(.fn (.func 62) [] [(.loc 0 0), (.ptr 8 (.lit 0))])], 85⟩, ⟨[(.int .i64 (.var 36)), (.int .i64 (.var 37)), (.int .i64 (.var 38))], 83⟩, ⟨[(.sl 33 (.lit 0) (.var 34) (.var 35))], 49⟩]))))))))))
        (.chk (.some 16)
        (.chk (.some 16)
        (.chk (.some 16)
        (.load 16 (.lit 0) [(.int .i64)] [⟨[(.sl 0 (.lit 0) (.var 1) (.var 2))], 22⟩, ⟨[(.sl 3 (.lit 0) (.var 4) (.var 5)), (.int .i64 (.var 6))], 26⟩, ⟨[(.fn (.func 60) [] [(.loc 1 0)]), (.fn (.func 61) [] [(.loc 0 0)])], 73⟩, ⟨[(.val 15)], 75⟩, ⟨[(.fn (.func 62) [] [(.loc 0 0), (.ptr 8 (.lit 0))])], 85⟩]
        (.ret (.tup [(.sl 20 (.lit 0) (.var 21) (.var 22)), (.int .i64 (.var 30)), (.int .i64 (.lit 0))]) [⟨[(.sl 0 (.lit 0) (.var 1) (.var 2))], 22⟩, ⟨[(.sl 3 (.lit 0) (.var 4) (.var 5)), (.int .i64 (.var 6))], 26⟩, ⟨[(.fn (.func 60) [] [(.loc 1 0)]), (.fn (.func 61) [] [(.loc 0 0)])], 73⟩, ⟨[(.val 15)], 75⟩, ⟨[(.fn (.func 62) [] [(.loc 0 0), (.ptr 8 (.lit 0))])], 85⟩]))))))))))))))))))))))))))))
theorem S_multi_Exact : FnIs Tryd.prog n_multi_Exact [.sl, (.agg [.sl, (.int .i64)])] T_multi_Exact := ⟨Tryd.f23, [{ key := 27, tmps := [], join := true, dead := 2555578658262099442119966680154112 }, { key := 999999, tmps := [], join := false, dead := 1048832 }], 4000, Tryd.func23, by kernel_rfl⟩
/-! 24 ablaut/ablautref18.Exact  -/
/-! 60 ablaut/multi.Exact$1  -/
abbrev n_multi_Exact_1 : FuncId := 60
def T_multi_Exact_1 : Tree :=
 (.load 0 (.lit 0) [.sl, (.int .i64)] []
 (.call false 26 [(.agg [(.sl 1 (.lit 0) (.var 2) (.var 3)), (.int .i64 (.var 4))])] (.int .i64) []
 (.ret (.int .i64 (.var 5)) [])))
theorem S_multi_Exact_1 : FnIs Tryd.prog n_multi_Exact_1 [.ptr] T_multi_Exact_1 := ⟨Tryd.f60, [], 4000, Tryd.func60, by kernel_rfl⟩
/-! 61 ablaut/multi.Exact$2  -/
abbrev n_multi_Exact_2 : FuncId := 61
def T_multi_Exact_2 : Tree :=
 (.load 0 (.lit 0) [.sl] []
 (.call false 56 [(.int .i64 (.lit 3)), (.sl 1 (.lit 0) (.var 2) (.var 3))] (.int .i64) []
 (.ret (.int .i64 (.var 4)) [])))
theorem S_multi_Exact_2 : FnIs Tryd.prog n_multi_Exact_2 [.ptr] T_multi_Exact_2 := ⟨Tryd.f61, [], 4000, Tryd.func61, by kernel_rfl⟩
/-! 62 ablaut/multi.Exact$3  -/
abbrev n_multi_Exact_3 : FuncId := 62
def T_multi_Exact_3 : Tree :=
 (.allocc 83 ([(.int .i64 (.var 0)), (.int .i64 (.var 1)), (.int .i64 (.var 2))])
 (.alloc
 (.alloc
 (.load 4 (.lit 0) [.sl] [⟨[(.int .i64 (.lit 0)), (.int .i64 (.lit 0)), (.int .i64 (.lit 0))], 83⟩, ⟨[(.int .i64 (.lit (-1)))], 3⟩]
 (.chk (.cmp .geq (.var 8) (.lit 0))
 (.call false 63 [(.slc 1 0 1 1), (.int .i64 (.var 8))] .sl [⟨[(.int .i64 (.lit 0)), (.int .i64 (.lit 0)), (.int .i64 (.lit 0))], 83⟩, ⟨[(.int .i64 (.lit (-1)))], 3⟩]
 (.loop 0 [.sl, .bool, (.int .i64), (.int .i64), (.int .i64), (.int .i64)] [(.cst (.slice none 0 0)), (.bool (.lit false)), (.int .i64 (.lit 0)), (.int .i64 (.lit 0)), (.int .i64 (.lit 0)), (.int .i64 (.lit 0))] [⟨[(.int .i64 (.lit 0)), (.int .i64 (.lit 0)), (.int .i64 (.lit 0))], 83⟩, ⟨[(.int .i64 (.lit (-1)))], 3⟩] [⟨[(.int .i64 (.var 18)), (.int .i64 (.var 19)), (.int .i64 (.var 20))], 83⟩, ⟨[(.int .i64 (.lit (-1)))], 3⟩]
  (.ite (.cmp .lss (.var 17) (.lit 3))
   (.join 1 [.sl, .bool, (.int .i64), (.int .i64), (.int .i64)] [⟨[(.int .i64 (.var 25)), (.int .i64 (.var 26)), (.int .i64 (.var 27))], 83⟩, ⟨[(.int .i64 (.lit (-1)))], 3⟩]
    (.chk (.cmp .geq (.bin .sub .i64 (.lit 2) (.var 17)) (.lit 0))
    (.ite (.cmp .eql (.bin .and .i64 (.bin .shr .i64 (.var 3) (.bin .sub .i64 (.lit 2) (.var 17))) (.lit 1)) (.lit 0))
     (.again 1 2 [.sl, .bool, (.int .i64), (.int .i64), (.int .i64)] [(.sl 13 (.lit 0) (.var 14) (.var 15)), (.bool (.var 16)), (.int .i64 (.var 18)), (.int .i64 (.var 19)), (.int .i64 (.var 20))] [⟨[(.int .i64 (.var 18)), (.int .i64 (.var 19)), (.int .i64 (.var 20))], 83⟩, ⟨[(.int .i64 (.lit (-1)))], 3⟩])
     (.chk (.pick (.cmp .geq (.var 17) (.lit 0)) (.pick (.cmp .lss (.var 17) (.lit 3)) (.some 6) (.lit false)) (.lit false))
     (.load 6 (.off (.var 17) 1 (.lit 0)) [(.int .i64)] [⟨[(.int .i64 (.var 18)), (.int .i64 (.var 19)), (.int .i64 (.var 20))], 83⟩, ⟨[(.int .i64 (.lit (-1)))], 3⟩]
     (.chk (.pick (.cmp .geq (.var 17) (.lit 0)) (.pick (.cmp .lss (.var 17) (.lit 3)) (.some 5) (.lit false)) (.lit false))
     (.load 5 (.off (.var 17) 1 (.lit 0)) [(.int .i64)] [⟨[(.int .i64 (.var 18)), (.int .i64 (.var 19)), (.int .i64 (.var 20))], 83⟩, ⟨[(.int .i64 (.lit (-1)))], 3⟩]
     (.ite (.cmp .eql (.var 21) (.var 22))
      (.load 6 (.lit 0) [(.int .i64), (.int .i64), (.int .i64)] [⟨[(.int .i64 (.var 18)), (.int .i64 (.var 19)), (.int .i64 (.var 20))], 83⟩, ⟨[(.int .i64 (.lit (-1)))], 3⟩]
      (.ret (.tup [(.cst (.slice none 0 0)), (.agg [(.int .i64 (.var 23)), (.int .i64 (.var 24)), (.int .i64 (.var 25))]), (.bool (.lit false))]) [⟨[(.int .i64 (.var 23)), (.int .i64 (.var 24)), (.int .i64 (.var 25))], 83⟩, ⟨[(.int .i64 (.lit (-1)))], 3⟩]))
      (.chk (.pick (.cmp .geq (.var 17) (.lit 0)) (.pick (.cmp .lss (.var 17) (.lit 3)) (.some 6) (.lit false)) (.lit false))
      (.load 6 (.off (.var 17) 1 (.lit 0)) [(.int .i64)] [⟨[(.int .i64 (.var 18)), (.int .i64 (.var 19)), (.int .i64 (.var 20))], 83⟩, ⟨[(.int .i64 (.lit (-1)))], 3⟩]
      (.chk (.pick (.cmp .geq (.var 17) (.lit 0)) (.pick (.cmp .lss (.var 17) (.var 11)) (.some 10) (.lit false)) (.lit false))
      (.store false 10 (.off (.var 17) 1 (.lit 0)) [(.int .i64 (.var 23))] [⟨[(.int .i64 (.var 18)), (.int .i64 (.var 19)), (.int .i64 (.var 20))], 83⟩, ⟨[(.int .i64 (.lit (-1)))], 3⟩]
      (.chk (.pick (.cmp .geq (.var 17) (.lit 0)) (.pick (.cmp .lss (.var 17) (.lit 3)) (.some 6) (.lit false)) (.lit false))
      (.load 6 (.off (.var 17) 1 (.lit 0)) [(.int .i64)] [⟨[(.int .i64 (.var 18)), (.int .i64 (.var 19)), (.int .i64 (.var 20))], 83⟩, ⟨[(.int .i64 (.lit (-1)))], 3⟩]
      (.chk (.pick (.cmp .geq (.var 17) (.lit 0)) (.pick (.cmp .lss (.var 17) (.lit 3)) (.some 6) (.lit false)) (.lit false))
      (.store false 6 (.off (.var 17) 1 (.lit 0)) [(.int .i64 (.bin .add .i64 (.var 24) (.lit 1)))] [⟨[(.int .i64 (.var 18)), (.int .i64 (.var 19)), (.int .i64 (.var 20))], 83⟩, ⟨[(.int .i64 (.lit (-1)))], 3⟩]
      (.again 1 2 [.sl, .bool, (.int .i64), (.int .i64), (.int .i64)] [(.sl 13 (.lit 0) (.var 14) (.var 15)), (.bool (.var 16)), (.int .i64 (.var 18)), (.int .i64 (.var 19)), (.int .i64 (.var 20))] [⟨[(.int .i64 (.var 18)), (.int .i64 (.var 19)), (.int .i64 (.var 20))], 83⟩, ⟨[(.int .i64 (.lit (-1)))], 3⟩]))))))))))))))))
   (.again 0 2 [.sl, .bool, (.int .i64), (.int .i64), (.int .i64), (.int .i64)] [(.sl 21 (.lit 0) (.var 22) (.var 23)), (.bool (.var 24)), (.int .i64 (.bin .add .i64 (.var 17) (.lit 1))), (.int .i64 (.var 25)), (.int .i64 (.var 26)), (.int .i64 (.var 27))] [⟨[(.int .i64 (.var 25)), (.int .i64 (.var 26)), (.int .i64 (.var 27))], 83⟩, ⟨[(.int .i64 (.lit (-1)))], 3⟩]))
   (.load 6 (.lit 0) [(.int .i64), (.int .i64), (.int .i64)] [⟨[(.int .i64 (.var 18)), (.int .i64 (.var 19)), (.int .i64 (.var 20))], 83⟩, ⟨[(.int .i64 (.lit (-1)))], 3⟩]
   (.ret (.tup [(.sl 10 (.lit 0) (.var 11) (.var 12)), (.agg [(.int .i64 (.var 21)), (.int .i64 (.var 22)), (.int .i64 (.var 23))]), (.bool (.lit true))]) [⟨[(.int .i64 (.var 21)), (.int .i64 (.var 22)), (.int .i64 (.var 23))], 83⟩, ⟨[(.int .i64 (.lit (-1)))], 3⟩]))))))))))
theorem S_multi_Exact_3 : FnIs Tryd.prog n_multi_Exact_3 [(.agg [(.int .i64), (.int .i64), (.int .i64)]), (.int .i64), .ptr, .ptr] T_multi_Exact_3 := ⟨Tryd.f62, [{ key := 100001, tmps := [], join := true, dead := 70367661946912 }, { key := 999999, tmps := [], join := false, dead := 16 }], 4000, Tryd.func62, by kernel_rfl⟩
/-! 64 ablaut/multi.Exact$4  -/
abbrev n_multi_Exact_4 : FuncId := 64
def T_multi_Exact_4 : Tree :=
 (.alloc
 (.alloc
 (.loop 0 [.sl, (.int .i64), (.int .i64), (.int .i64), (.int .i64), (.int .i64)] [(.cst (.slice none 0 0)), (.int .i64 (.lit (-1))), (.int .i64 (.lit 7)), (.int .i64 (.lit 0)), (.int .i64 (.lit 0)), (.int .i64 (.lit 0))] [⟨[(.int .i64 (.var 0)), (.int .i64 (.var 1)), (.int .i64 (.var 2))], 83⟩, ⟨[(.int .i64 (.lit 0)), (.int .i64 (.lit 0)), (.int .i64 (.lit 0))], 83⟩] [⟨[(.int .i64 (.var 0)), (.int .i64 (.var 1)), (.int .i64 (.var 2))], 83⟩, ⟨[(.int .i64 (.var 11)), (.int .i64 (.var 12)), (.int .i64 (.var 13))], 83⟩]
  (.ite (.cmp .gtr (.var 10) (.lit 0))
   (.join 1 [.sl, (.int .i64), (.int .i64), (.int .i64), (.int .i64)] [⟨[(.int .i64 (.var 0)), (.int .i64 (.var 1)), (.int .i64 (.var 2))], 83⟩, ⟨[(.int .i64 (.var 18)), (.int .i64 (.var 19)), (.int .i64 (.var 20))], 83⟩]
    (.load 3 (.lit 0) [.val] [⟨[(.int .i64 (.var 0)), (.int .i64 (.var 1)), (.int .i64 (.var 2))], 83⟩, ⟨[(.int .i64 (.var 11)), (.int .i64 (.var 12)), (.int .i64 (.var 13))], 83⟩]
    (.callv false (.val 14) [(.agg [(.int .i64 (.var 0)), (.int .i64 (.var 1)), (.int .i64 (.var 2))]), (.int .i64 (.var 10))] (.tup [.sl, (.agg [(.int .i64), (.int .i64), (.int .i64)]), .bool]) [⟨[(.int .i64 (.var 0)), (.int .i64 (.var 1)), (.int .i64 (.var 2))], 83⟩, ⟨[(.int .i64 (.var 11)), (.int .i64 (.var 12)), (.int .i64 (.var 13))], 83⟩]
    (.alloc
    (.ite (.not (.var 21))
     (.again 1 2 [.sl, (.int .i64), (.int .i64), (.int .i64), (.int .i64)] [(.sl 6 (.lit 0) (.var 7) (.var 8)), (.int .i64 (.var 9)), (.int .i64 (.var 11)), (.int .i64 (.var 12)), (.int .i64 (.var 13))] [⟨[(.int .i64 (.var 0)), (.int .i64 (.var 1)), (.int .i64 (.var 2))], 83⟩, ⟨[(.int .i64 (.var 11)), (.int .i64 (.var 12)), (.int .i64 (.var 13))], 83⟩, ⟨[(.int .i64 (.var 18)), (.int .i64 (.var 19)), (.int .i64 (.var 20))], 83⟩])
     (.load 4 (.lit 0) [.val] [⟨[(.int .i64 (.var 0)), (.int .i64 (.var 1)), (.int .i64 (.var 2))], 83⟩, ⟨[(.int .i64 (.var 11)), (.int .i64 (.var 12)), (.int .i64 (.var 13))], 83⟩, ⟨[(.int .i64 (.var 18)), (.int .i64 (.var 19)), (.int .i64 (.var 20))], 83⟩]
     (.chk (.pick (.cmp .geq (.var 18) (.lit 0)) (.pick (.cmp .lss (.var 18) (.lit 7)) (.some 5) (.lit false)) (.lit false))
     (.chk (.pick (.cmp .geq (.off (.var 18) 49 (.lit 0)) (.lit 0)) (.pick (.cmp .geq (.var 19) (.lit 0)) (.pick (.cmp .lss (.var 19) (.lit 7)) (.some 5) (.lit false)) (.lit false)) (.lit false))
     (.chk (.pick (.cmp .geq (.off (.var 19) 7 (.off (.var 18) 49 (.lit 0))) (.lit 0)) (.pick (.cmp .geq (.var 20) (.lit 0)) (.pick (.cmp .lss (.var 20) (.lit 7)) (.some 5) (.lit false)) (.lit false)) (.lit false))
     (.load 5 (.off (.var 20) 1 (.off (.var 19) 7 (.off (.var 18) 49 (.lit 0)))) [(.int .i64)] [⟨[(.int .i64 (.var 0)), (.int .i64 (.var 1)), (.int .i64 (.var 2))], 83⟩, ⟨[(.int .i64 (.var 11)), (.int .i64 (.var 12)), (.int .i64 (.var 13))], 83⟩, ⟨[(.int .i64 (.var 18)), (.int .i64 (.var 19)), (.int .i64 (.var 20))], 83⟩]
     (.callv true (.val 22) [(.sl 15 (.lit 0) (.var 16) (.var 17))] (.int .i64) [⟨[(.int .i64 (.var 0)), (.int .i64 (.var 1)), (.int .i64 (.var 2))], 83⟩, ⟨[(.int .i64 (.var 11)), (.int .i64 (.var 12)), (.int .i64 (.var 13))], 83⟩, ⟨[(.int .i64 (.var 18)), (.int .i64 (.var 19)), (.int .i64 (.var 20))], 83⟩]
     (.join 2 [.sl, (.int .i64), (.int .i64), (.int .i64), (.int .i64)] [⟨[(.int .i64 (.var 0)), (.int .i64 (.var 1)), (.int .i64 (.var 2))], 83⟩, ⟨[(.int .i64 (.var 29)), (.int .i64 (.var 30)), (.int .i64 (.var 31))], 83⟩, ⟨[(.int .i64 (.var 18)), (.int .i64 (.var 19)), (.int .i64 (.var 20))], 83⟩]
      (.ite (.pick (.cmp .lss (.var 9) (.lit 0)) (.lit true) (.cmp .lss (.bin .add .i64 (.var 24) (.var 23)) (.var 9)))
       (.again 2 3 [.sl, (.int .i64), (.int .i64), (.int .i64), (.int .i64)] [(.sl 15 (.lit 0) (.var 16) (.var 17)), (.int .i64 (.bin .add .i64 (.var 24) (.var 23))), (.int .i64 (.var 18)), (.int .i64 (.var 19)), (.int .i64 (.var 20))] [⟨[(.int .i64 (.var 0)), (.int .i64 (.var 1)), (.int .i64 (.var 2))], 83⟩, ⟨[(.int .i64 (.var 18)), (.int .i64 (.var 19)), (.int .i64 (.var 20))], 83⟩, ⟨[(.int .i64 (.var 18)), (.int .i64 (.var 19)), (.int .i64 (.var 20))], 83⟩])
       (.again 2 3 [.sl, (.int .i64), (.int .i64), (.int .i64), (.int .i64)] [(.sl 6 (.lit 0) (.var 7) (.var 8)), (.int .i64 (.var 9)), (.int .i64 (.var 11)), (.int .i64 (.var 12)), (.int .i64 (.var 13))] [⟨[(.int .i64 (.var 0)), (.int .i64 (.var 1)), (.int .i64 (.var 2))], 83⟩, ⟨[(.int .i64 (.var 11)), (.int .i64 (.var 12)), (.int .i64 (.var 13))], 83⟩, ⟨[(.int .i64 (.var 18)), (.int .i64 (.var 19)), (.int .i64 (.var 20))], 83⟩]))
     (.again 1 2 [.sl, (.int .i64), (.int .i64), (.int .i64), (.int .i64)] [(.sl 25 (.lit 0) (.var 26) (.var 27)), (.int .i64 (.var 28)), (.int .i64 (.var 29)), (.int .i64 (.var 30)), (.int .i64 (.var 31))] [⟨[(.int .i64 (.var 0)), (.int .i64 (.var 1)), (.int .i64 (.var 2))], 83⟩, ⟨[(.int .i64 (.var 29)), (.int .i64 (.var 30)), (.int .i64 (.var 31))], 83⟩, ⟨[(.int .i64 (.var 18)), (.int .i64 (.var 19)), (.int .i64 (.var 20))], 83⟩]))))))))))))
   (.again 0 2 [.sl, (.int .i64), (.int .i64), (.int .i64), (.int .i64), (.int .i64)] [(.sl 14 (.lit 0) (.var 15) (.var 16)), (.int .i64 (.var 17)), (.int .i64 (.bin .sub .i64 (.var 10) (.lit 1))), (.int .i64 (.var 18)), (.int .i64 (.var 19)), (.int .i64 (.var 20))] [⟨[(.int .i64 (.var 0)), (.int .i64 (.var 1)), (.int .i64 (.var 2))], 83⟩, ⟨[(.int .i64 (.var 18)), (.int .i64 (.var 19)), (.int .i64 (.var 20))], 83⟩]))
   (.ret (.tup [(.sl 6 (.lit 0) (.var 7) (.var 8)), (.agg [(.int .i64 (.var 11)), (.int .i64 (.var 12)), (.int .i64 (.var 13))]), (.int .i64 (.var 9))]) [⟨[(.int .i64 (.var 0)), (.int .i64 (.var 1)), (.int .i64 (.var 2))], 83⟩, ⟨[(.int .i64 (.var 11)), (.int .i64 (.var 12)), (.int .i64 (.var 13))], 83⟩])))))
theorem S_multi_Exact_4 : FnIs Tryd.prog n_multi_Exact_4 [(.agg [(.int .i64), (.int .i64), (.int .i64)]), .ptr, .ptr, .ptr] T_multi_Exact_4 := ⟨Tryd.f64, [{ key := 100001, tmps := [], join := true, dead := 17873660953993216 }, { key := 9, tmps := [], join := true }], 4000, Tryd.func64, by kernel_rfl⟩
/-! 65 ablaut/ablautref18.number  -/
/-! 66 ablaut/ablautref18.digits  -/
/-! 67 ablaut/ablautref18.chosen  -/
/-! 69 ablaut/ablautref18.behind  -/
end Go.Proofs.YtialbhieaipcgaaDoor
