/- The trees of this seat's functions, printed by a program of mine (SyGen), checked here by the kernel. -/
import Derived.Test.YtpbbnmjkbfbelaaDoorSyDef
import Derived.Test.YtpbbnmjkbfbelaaDoorProg
import Derived.KernelRfl
set_option maxRecDepth 100000
namespace Go.Proofs.YtpbbnmjkbfbelaaDoor
open Go Go.Sy
/-! 24 ablaut/analogy.Level  -/
abbrev n_analogy_Level : FuncId := 24
def T_analogy_Level : Tree :=
 (.call false 30 [(.sl 0 (.lit 0) (.var 1) (.var 2))] (.int .i64) []
 (.ite (.cmp .neq (.var 5) (.lit 0))
  (.ret (.tup [(.cst (.slice none 0 0)), (.int .i64 (.var 5))]) [])
  (.ite (.cmp .lss (.var 3) (.lit 0))
   (.ret (.tup [(.cst (.slice none 0 0)), (.int .i64 (.lit 3))]) [])
   (.chk (.cmp .geq (.var 1) (.lit 0))
   (.ite (.pick (.cmp .geq (.var 3) (.var 1)) (.lit true) (.cmp .lss (.var 4) (.lit 0)))
    (.ret (.tup [(.cst (.slice none 0 0)), (.int .i64 (.lit 3))]) [])
    (.chk (.pick (.cmp .geq (.var 3) (.lit 0)) (.pick (.cmp .lss (.var 3) (.var 1)) (.some 0) (.lit false)) (.lit false))
    (.load 0 (.off (.var 3) 1 (.lit 0)) [.sl] []
    (.chk (.cmp .geq (.var 7) (.lit 0))
    (.ite (.cmp .geq (.var 4) (.var 7))
     (.ret (.tup [(.cst (.slice none 0 0)), (.int .i64 (.lit 3))]) [])
     (.chk (.pick (.cmp .geq (.var 3) (.lit 0)) (.pick (.cmp .lss (.var 3) (.var 1)) (.some 0) (.lit false)) (.lit false))
     (.load 0 (.off (.var 3) 1 (.lit 0)) [.sl] []
     (.chk (.pick (.cmp .geq (.var 4) (.lit 0)) (.pick (.cmp .lss (.var 4) (.var 10)) (.some 9) (.lit false)) (.lit false))
     (.load 9 (.off (.var 4) 2 (.lit 0)) [.bool, .sl] []
     (.alloc
     (.ite (.not (.var 12))
      (.ret (.tup [(.cst (.slice none 0 0)), (.int .i64 (.lit 5))]) [⟨[(.bool (.var 12)), (.sl 13 (.lit 0) (.var 14) (.var 15))], 41⟩])
      (.call false 55 [(.sl 0 (.lit 0) (.var 1) (.var 2))] .sl [⟨[(.bool (.var 12)), (.sl 13 (.lit 0) (.var 14) (.var 15))], 41⟩]
      (.chk (.cmp .geq (.var 14) (.lit 0))
      (.chk (.pick (.cmp .geq (.var 4) (.lit 0)) (.pick (.cmp .lss (.var 4) (.var 17)) (.some 16) (.lit false)) (.lit false))
      (.load 16 (.off (.var 4) 1 (.lit 0)) [(.int .i64)] [⟨[(.bool (.var 12)), (.sl 13 (.lit 0) (.var 14) (.var 15))], 41⟩]
      (.chk (.pick (.cmp .leq (.lit 0) (.bin .sub .i64 (.var 14) (.var 19))) (.cmp .leq (.bin .sub .i64 (.var 14) (.var 19)) (.var 15)) (.lit false))
      (.chk (.cmp .geq (.var 1) (.lit 0))
      (.loop 0 [.sl, (.int .i64), .sl, (.int .i64)] [(.cst (.slice none 0 0)), (.int .i64 (.lit 0)), (.cst (.slice none 0 0)), (.int .i64 (.lit 0))] [⟨[(.bool (.var 12)), (.sl 13 (.lit 0) (.var 14) (.var 15))], 41⟩] [⟨[(.bool (.var 12)), (.sl 13 (.lit 0) (.var 14) (.var 15))], 41⟩]
       (.ite (.cmp .lss (.var 27) (.var 1))
        (.chk (.pick (.cmp .geq (.var 27) (.lit 0)) (.pick (.cmp .lss (.var 27) (.var 1)) (.some 0) (.lit false)) (.lit false))
        (.load 0 (.off (.var 27) 1 (.lit 0)) [.sl] [⟨[(.bool (.var 12)), (.sl 13 (.lit 0) (.var 14) (.var 15))], 41⟩]
        (.call false 56 [(.sl 28 (.lit 0) (.var 29) (.var 30))] .sl [⟨[(.bool (.var 12)), (.sl 13 (.lit 0) (.var 14) (.var 15))], 41⟩]
        (.chk (.cmp .geq (.var 32) (.lit 0))
        (.loop 1 [.sl, (.int .i64), (.int .i64)] [(.sl 20 (.lit 0) (.var 21) (.var 22)), (.int .i64 (.var 23)), (.int .i64 (.lit 0))] [⟨[(.bool (.var 12)), (.sl 13 (.lit 0) (.var 14) (.var 15))], 41⟩] [⟨[(.bool (.var 12)), (.sl 13 (.lit 0) (.var 14) (.var 15))], 41⟩]
         (.ite (.cmp .lss (.var 38) (.var 32))
          (.chk (.pick (.cmp .geq (.var 38) (.lit 0)) (.pick (.cmp .lss (.var 38) (.var 32)) (.some 31) (.lit false)) (.lit false))
          (.load 31 (.off (.var 38) 2 (.lit 0)) [.bool, .sl] [⟨[(.bool (.var 12)), (.sl 13 (.lit 0) (.var 14) (.var 15))], 41⟩]
          (.alloc
          (.call false 57 [(.sl 40 (.lit 0) (.var 41) (.var 42))] .sl [⟨[(.bool (.var 12)), (.sl 13 (.lit 0) (.var 14) (.var 15))], 41⟩, ⟨[(.bool (.var 39)), (.sl 40 (.lit 0) (.var 41) (.var 42))], 41⟩]
          (.chk (.pick (.cmp .geq (.var 38) (.lit 0)) (.pick (.cmp .lss (.var 38) (.var 32)) (.some 31) (.lit false)) (.lit false))
          (.chk (.pick (.cmp .geq (.off (.var 38) 2 (.lit 0)) (.lit 0)) (.some 31) (.lit false))
          (.store false 31 (.off (.lit 1) 1 (.off (.var 38) 2 (.lit 0))) [(.sl 43 (.lit 0) (.var 44) (.var 45))] [⟨[(.bool (.var 12)), (.sl 13 (.lit 0) (.var 14) (.var 15))], 41⟩, ⟨[(.bool (.var 39)), (.sl 40 (.lit 0) (.var 41) (.var 42))], 41⟩]
          (.ite (.pick (.cmp .neq (.var 27) (.var 3)) (.lit true) (.not (.var 39)))
           (.again 1 1 [.sl, (.int .i64), (.int .i64)] [(.sl 34 (.lit 0) (.var 35) (.var 36)), (.int .i64 (.var 37)), (.int .i64 (.bin .add .i64 (.var 38) (.lit 1)))] [⟨[(.bool (.var 12)), (.sl 13 (.lit 0) (.var 14) (.var 15))], 41⟩, ⟨[(.bool (.var 39)), (.sl 40 (.lit 0) (.var 41) (.var 42))], 41⟩])
           (.chk (.cmp .geq (.var 41) (.lit 0))
           (.chk (.pick (.cmp .geq (.var 38) (.lit 0)) (.pick (.cmp .lss (.var 38) (.var 17)) (.some 16) (.lit false)) (.lit false))
           (.load 16 (.off (.var 38) 1 (.lit 0)) [(.int .i64)] [⟨[(.bool (.var 12)), (.sl 13 (.lit 0) (.var 14) (.var 15))], 41⟩, ⟨[(.bool (.var 39)), (.sl 40 (.lit 0) (.var 41) (.var 42))], 41⟩]
           (.chk (.pick (.cmp .leq (.lit 0) (.bin .sub .i64 (.var 41) (.var 46))) (.pick (.cmp .leq (.bin .sub .i64 (.var 41) (.var 46)) (.var 41)) (.cmp .leq (.var 41) (.var 42)) (.lit false)) (.lit false))
           (.alloc
           (.call false 58 [(.slc 2 0 2 2)] .sl [⟨[(.bool (.var 12)), (.sl 13 (.lit 0) (.var 14) (.var 15))], 41⟩, ⟨[(.bool (.var 39)), (.sl 40 (.lit 0) (.var 41) (.var 42))], 41⟩, ⟨[(.sl 13 (.ifeq (.var 15) (.lit 0) (.lit 0) (.lit 0)) (.bin .sub .i64 (.var 14) (.var 19)) (.var 15)), (.sl 40 (.ifeq (.var 42) (.bin .sub .i64 (.var 41) (.var 46)) (.lit 0) (.off (.bin .sub .i64 (.var 41) (.var 46)) 2 (.lit 0))) (.dif (.var 41) (.bin .sub .i64 (.var 41) (.var 46))) (.dif (.var 42) (.bin .sub .i64 (.var 41) (.var 46))))], 22⟩]
           (.chk (.pick (.cmp .geq (.var 38) (.lit 0)) (.pick (.cmp .lss (.var 38) (.var 32)) (.some 31) (.lit false)) (.lit false))
           (.chk (.pick (.cmp .geq (.off (.var 38) 2 (.lit 0)) (.lit 0)) (.some 31) (.lit false))
           (.store false 31 (.off (.lit 1) 1 (.off (.var 38) 2 (.lit 0))) [(.sl 47 (.lit 0) (.var 48) (.var 49))] [⟨[(.bool (.var 12)), (.sl 13 (.lit 0) (.var 14) (.var 15))], 41⟩, ⟨[(.bool (.var 39)), (.sl 40 (.lit 0) (.var 41) (.var 42))], 41⟩, ⟨[(.sl 13 (.ifeq (.var 15) (.lit 0) (.lit 0) (.lit 0)) (.bin .sub .i64 (.var 14) (.var 19)) (.var 15)), (.sl 40 (.ifeq (.var 42) (.bin .sub .i64 (.var 41) (.var 46)) (.lit 0) (.off (.bin .sub .i64 (.var 41) (.var 46)) 2 (.lit 0))) (.dif (.var 41) (.bin .sub .i64 (.var 41) (.var 46))) (.dif (.var 42) (.bin .sub .i64 (.var 41) (.var 46))))], 22⟩]
           (.chk (.pick (.cmp .geq (.var 38) (.lit 0)) (.pick (.cmp .lss (.var 38) (.var 32)) (.some 31) (.lit false)) (.lit false))
           (.chk (.pick (.cmp .geq (.off (.var 38) 2 (.lit 0)) (.lit 0)) (.some 31) (.lit false))
           (.load 31 (.off (.lit 1) 1 (.off (.var 38) 2 (.lit 0))) [.sl] [⟨[(.bool (.var 12)), (.sl 13 (.lit 0) (.var 14) (.var 15))], 41⟩, ⟨[(.bool (.var 39)), (.sl 40 (.lit 0) (.var 41) (.var 42))], 41⟩, ⟨[(.sl 13 (.ifeq (.var 15) (.lit 0) (.lit 0) (.lit 0)) (.bin .sub .i64 (.var 14) (.var 19)) (.var 15)), (.sl 40 (.ifeq (.var 42) (.bin .sub .i64 (.var 41) (.var 46)) (.lit 0) (.off (.bin .sub .i64 (.var 41) (.var 46)) 2 (.lit 0))) (.dif (.var 41) (.bin .sub .i64 (.var 41) (.var 46))) (.dif (.var 42) (.bin .sub .i64 (.var 41) (.var 46))))], 22⟩]
           (.chk (.cmp .geq (.var 51) (.lit 0))
           (.ite (.cmp .gtr (.var 51) (.lit 32))
            (.ret (.tup [(.cst (.slice none 0 0)), (.int .i64 (.lit 11))]) [⟨[(.bool (.var 12)), (.sl 13 (.lit 0) (.var 14) (.var 15))], 41⟩, ⟨[(.bool (.var 39)), (.sl 40 (.lit 0) (.var 41) (.var 42))], 41⟩, ⟨[(.sl 13 (.ifeq (.var 15) (.lit 0) (.lit 0) (.lit 0)) (.bin .sub .i64 (.var 14) (.var 19)) (.var 15)), (.sl 40 (.ifeq (.var 42) (.bin .sub .i64 (.var 41) (.var 46)) (.lit 0) (.off (.bin .sub .i64 (.var 41) (.var 46)) 2 (.lit 0))) (.dif (.var 41) (.bin .sub .i64 (.var 41) (.var 46))) (.dif (.var 42) (.bin .sub .i64 (.var 41) (.var 46))))], 22⟩])
            (.again 1 1 [.sl, (.int .i64), (.int .i64)] [(.sl 34 (.lit 0) (.var 35) (.var 36)), (.int .i64 (.var 37)), (.int .i64 (.bin .add .i64 (.var 38) (.lit 1)))] [⟨[(.bool (.var 12)), (.sl 13 (.lit 0) (.var 14) (.var 15))], 41⟩, ⟨[(.bool (.var 39)), (.sl 40 (.lit 0) (.var 41) (.var 42))], 41⟩, ⟨[(.sl 13 (.ifeq (.var 15) (.lit 0) (.lit 0) (.lit 0)) (.bin .sub .i64 (.var 14) (.var 19)) (.var 15)), (.sl 40 (.ifeq (.var 42) (.bin .sub .i64 (.var 41) (.var 46)) (.lit 0) (.off (.bin .sub .i64 (.var 41) (.var 46)) 2 (.lit 0))) (.dif (.var 41) (.bin .sub .i64 (.var 41) (.var 46))) (.dif (.var 42) (.bin .sub .i64 (.var 41) (.var 46))))], 22⟩])))))))))))))))))))))))
          (.alloc
          (.ext false ⟨(.call ⟨.builtin .append, #[(.tmp 0), (.tmp 0)], #[42, 42]⟩), 42, [(.sl 24 (.lit 0) (.var 25) (.var 26)), (.slc 1 0 1 1)]⟩ .sl [⟨[(.bool (.var 12)), (.sl 13 (.lit 0) (.var 14) (.var 15))], 41⟩, ⟨[(.sl 31 (.lit 0) (.var 32) (.var 33))], 39⟩]
          (.again 0 1 [.sl, (.int .i64), .sl, (.int .i64)] [(.sl 34 (.lit 0) (.var 35) (.var 36)), (.int .i64 (.var 37)), (.sl 39 (.lit 0) (.var 40) (.var 41)), (.int .i64 (.bin .add .i64 (.var 27) (.lit 1)))] [⟨[(.bool (.var 12)), (.sl 13 (.lit 0) (.var 14) (.var 15))], 41⟩, ⟨[(.sl 31 (.lit 0) (.var 32) (.var 33))], 39⟩])))))))))
        (.ret (.tup [(.sl 24 (.lit 0) (.var 25) (.var 26)), (.int .i64 (.lit 0))]) [⟨[(.bool (.var 12)), (.sl 13 (.lit 0) (.var 14) (.var 15))], 41⟩]))))))))))))))))))))))))
theorem S_analogy_Level : FnIs Tryd.prog n_analogy_Level [.sl, (.int .i64), (.int .i64)] T_analogy_Level := ⟨Tryd.f24, [], 4000, Tryd.func24, by kernel_rfl⟩
/-! 25 ablaut/ablautref30.Level  -/
abbrev n_ref30_Level : FuncId := 25
def T_ref30_Level : Tree :=
 (.call false 59 [(.sl 0 (.lit 0) (.var 1) (.var 2))] (.int .i64) []
 (.ite (.cmp .neq (.var 5) (.lit 0))
  (.ret (.tup [(.cst (.slice none 0 0)), (.int .i64 (.var 5))]) [])
  (.ite (.cmp .lss (.var 3) (.lit 0))
   (.ret (.tup [(.cst (.slice none 0 0)), (.int .i64 (.lit 3))]) [])
   (.chk (.cmp .geq (.var 1) (.lit 0))
   (.ite (.pick (.cmp .geq (.var 3) (.var 1)) (.lit true) (.cmp .lss (.var 4) (.lit 0)))
    (.ret (.tup [(.cst (.slice none 0 0)), (.int .i64 (.lit 3))]) [])
    (.chk (.pick (.cmp .geq (.var 3) (.lit 0)) (.pick (.cmp .lss (.var 3) (.var 1)) (.some 0) (.lit false)) (.lit false))
    (.load 0 (.off (.var 3) 1 (.lit 0)) [.sl] []
    (.chk (.cmp .geq (.var 7) (.lit 0))
    (.ite (.cmp .geq (.var 4) (.var 7))
     (.ret (.tup [(.cst (.slice none 0 0)), (.int .i64 (.lit 3))]) [])
     (.chk (.pick (.cmp .geq (.var 3) (.lit 0)) (.pick (.cmp .lss (.var 3) (.var 1)) (.some 0) (.lit false)) (.lit false))
     (.load 0 (.off (.var 3) 1 (.lit 0)) [.sl] []
     (.chk (.pick (.cmp .geq (.var 4) (.lit 0)) (.pick (.cmp .lss (.var 4) (.var 10)) (.some 9) (.lit false)) (.lit false))
     (.load 9 (.off (.var 4) 2 (.lit 0)) [.bool, .sl] []
     (.alloc
     (.ite (.not (.var 12))
      (.ret (.tup [(.cst (.slice none 0 0)), (.int .i64 (.lit 5))]) [⟨[(.bool (.var 12)), (.sl 13 (.lit 0) (.var 14) (.var 15))], 41⟩])
      (.chk (.cmp .geq (.var 14) (.lit 0))
      (.call false 60 [(.sl 0 (.lit 0) (.var 1) (.var 2)), (.int .i64 (.var 4))] (.int .i64) [⟨[(.bool (.var 12)), (.sl 13 (.lit 0) (.var 14) (.var 15))], 41⟩]
      (.chk (.pick (.cmp .leq (.lit 0) (.bin .sub .i64 (.var 14) (.var 16))) (.cmp .leq (.bin .sub .i64 (.var 14) (.var 16)) (.var 15)) (.lit false))
      (.loop 0 [.sl, (.int .i64), .sl, (.int .i64)] [(.cst (.slice none 0 0)), (.int .i64 (.lit 0)), (.cst (.slice none 0 0)), (.int .i64 (.lit 0))] [⟨[(.bool (.var 12)), (.sl 13 (.lit 0) (.var 14) (.var 15))], 41⟩] [⟨[(.bool (.var 12)), (.sl 13 (.lit 0) (.var 14) (.var 15))], 41⟩]
       (.chk (.cmp .geq (.var 1) (.lit 0))
       (.ite (.cmp .lss (.var 24) (.var 1))
        (.loop 1 [.sl, (.int .i64), .sl, (.int .i64)] [(.sl 17 (.lit 0) (.var 18) (.var 19)), (.int .i64 (.var 20)), (.cst (.slice none 0 0)), (.int .i64 (.lit 0))] [⟨[(.bool (.var 12)), (.sl 13 (.lit 0) (.var 14) (.var 15))], 41⟩] [⟨[(.bool (.var 12)), (.sl 13 (.lit 0) (.var 14) (.var 15))], 41⟩]
         (.chk (.pick (.cmp .geq (.var 24) (.lit 0)) (.pick (.cmp .lss (.var 24) (.var 1)) (.some 0) (.lit false)) (.lit false))
         (.load 0 (.off (.var 24) 1 (.lit 0)) [.sl] [⟨[(.bool (.var 12)), (.sl 13 (.lit 0) (.var 14) (.var 15))], 41⟩]
         (.chk (.cmp .geq (.var 34) (.lit 0))
         (.ite (.cmp .lss (.var 32) (.var 34))
          (.chk (.pick (.cmp .geq (.var 24) (.lit 0)) (.pick (.cmp .lss (.var 24) (.var 1)) (.some 0) (.lit false)) (.lit false))
          (.load 0 (.off (.var 24) 1 (.lit 0)) [.sl] [⟨[(.bool (.var 12)), (.sl 13 (.lit 0) (.var 14) (.var 15))], 41⟩]
          (.chk (.pick (.cmp .geq (.var 32) (.lit 0)) (.pick (.cmp .lss (.var 32) (.var 37)) (.some 36) (.lit false)) (.lit false))
          (.chk (.pick (.cmp .geq (.off (.var 32) 2 (.lit 0)) (.lit 0)) (.some 36) (.lit false))
          (.load 36 (.off (.var 32) 2 (.lit 0)) [.bool] [⟨[(.bool (.var 12)), (.sl 13 (.lit 0) (.var 14) (.var 15))], 41⟩]
          (.chk (.pick (.cmp .geq (.var 24) (.lit 0)) (.pick (.cmp .lss (.var 24) (.var 1)) (.some 0) (.lit false)) (.lit false))
          (.load 0 (.off (.var 24) 1 (.lit 0)) [.sl] [⟨[(.bool (.var 12)), (.sl 13 (.lit 0) (.var 14) (.var 15))], 41⟩]
          (.chk (.pick (.cmp .geq (.var 32) (.lit 0)) (.pick (.cmp .lss (.var 32) (.var 41)) (.some 40) (.lit false)) (.lit false))
          (.chk (.pick (.cmp .geq (.off (.var 32) 2 (.lit 0)) (.lit 0)) (.some 40) (.lit false))
          (.load 40 (.off (.lit 1) 1 (.off (.var 32) 2 (.lit 0))) [.sl] [⟨[(.bool (.var 12)), (.sl 13 (.lit 0) (.var 14) (.var 15))], 41⟩]
          (.call true 15 [(.sl 43 (.lit 0) (.var 44) (.var 45))] .sl [⟨[(.bool (.var 12)), (.sl 13 (.lit 0) (.var 14) (.var 15))], 41⟩]
          (.alloc
          (.ite (.pick (.cmp .eql (.var 24) (.var 3)) (.var 39) (.lit false))
           (.chk (.cmp .geq (.var 47) (.lit 0))
           (.alloc
           (.ext false ⟨(.call ⟨.builtin .append, #[(.tmp 0), (.tmp 0)], #[22, 22]⟩), 22, [(.slc 2 0 0 0), (.sl 13 (.ifeq (.var 15) (.lit 0) (.lit 0) (.lit 0)) (.bin .sub .i64 (.var 14) (.var 16)) (.var 15))]⟩ .sl [⟨[(.bool (.var 12)), (.sl 13 (.lit 0) (.var 14) (.var 15))], 41⟩, ⟨[(.bool (.var 39)), (.sl 46 (.lit 0) (.var 47) (.var 48))], 41⟩, ⟨[], 31⟩]
           (.call false 60 [(.sl 0 (.lit 0) (.var 1) (.var 2)), (.int .i64 (.var 32))] (.int .i64) [⟨[(.bool (.var 12)), (.sl 13 (.lit 0) (.var 14) (.var 15))], 41⟩, ⟨[(.bool (.var 39)), (.sl 46 (.lit 0) (.var 47) (.var 48))], 41⟩, ⟨[], 31⟩]
           (.chk (.pick (.cmp .leq (.lit 0) (.bin .sub .i64 (.var 47) (.var 52))) (.pick (.cmp .leq (.bin .sub .i64 (.var 47) (.var 52)) (.var 47)) (.cmp .leq (.var 47) (.var 48)) (.lit false)) (.lit false))
           (.ext false ⟨(.call ⟨.builtin .append, #[(.tmp 0), (.tmp 0)], #[22, 22]⟩), 22, [(.sl 49 (.lit 0) (.var 50) (.var 51)), (.sl 46 (.ifeq (.var 48) (.bin .sub .i64 (.var 47) (.var 52)) (.lit 0) (.off (.bin .sub .i64 (.var 47) (.var 52)) 2 (.lit 0))) (.dif (.var 47) (.bin .sub .i64 (.var 47) (.var 52))) (.dif (.var 48) (.bin .sub .i64 (.var 47) (.var 52))))]⟩ .sl [⟨[(.bool (.var 12)), (.sl 13 (.lit 0) (.var 14) (.var 15))], 41⟩, ⟨[(.bool (.var 39)), (.sl 46 (.lit 0) (.var 47) (.var 48))], 41⟩, ⟨[], 31⟩]
           (.chk (.cmp .geq (.var 54) (.lit 0))
           (.ite (.cmp .gtr (.var 54) (.lit 32))
            (.ret (.tup [(.cst (.slice none 0 0)), (.int .i64 (.lit 11))]) [⟨[(.bool (.var 12)), (.sl 13 (.lit 0) (.var 14) (.var 15))], 41⟩, ⟨[(.bool (.var 39)), (.sl 53 (.lit 0) (.var 54) (.var 55))], 41⟩, ⟨[], 31⟩])
            (.alloc
            (.ext false ⟨(.call ⟨.builtin .append, #[(.tmp 0), (.tmp 0)], #[39, 39]⟩), 39, [(.sl 29 (.lit 0) (.var 30) (.var 31)), (.slc 3 0 1 1)]⟩ .sl [⟨[(.bool (.var 12)), (.sl 13 (.lit 0) (.var 14) (.var 15))], 41⟩, ⟨[(.bool (.var 39)), (.sl 53 (.lit 0) (.var 54) (.var 55))], 41⟩, ⟨[], 31⟩, ⟨[(.bool (.var 39)), (.sl 53 (.lit 0) (.var 54) (.var 55))], 41⟩]
            (.again 1 1 [.sl, (.int .i64), .sl, (.int .i64)] [(.sl 25 (.lit 0) (.var 26) (.var 27)), (.int .i64 (.var 28)), (.sl 56 (.lit 0) (.var 57) (.var 58)), (.int .i64 (.bin .add .i64 (.var 32) (.lit 1)))] [⟨[(.bool (.var 12)), (.sl 13 (.lit 0) (.var 14) (.var 15))], 41⟩, ⟨[(.bool (.var 39)), (.sl 53 (.lit 0) (.var 54) (.var 55))], 41⟩, ⟨[], 31⟩, ⟨[(.bool (.var 39)), (.sl 53 (.lit 0) (.var 54) (.var 55))], 41⟩])))))))))))
           (.alloc
           (.ext false ⟨(.call ⟨.builtin .append, #[(.tmp 0), (.tmp 0)], #[39, 39]⟩), 39, [(.sl 29 (.lit 0) (.var 30) (.var 31)), (.slc 2 0 1 1)]⟩ .sl [⟨[(.bool (.var 12)), (.sl 13 (.lit 0) (.var 14) (.var 15))], 41⟩, ⟨[(.bool (.var 39)), (.sl 46 (.lit 0) (.var 47) (.var 48))], 41⟩, ⟨[(.bool (.var 39)), (.sl 46 (.lit 0) (.var 47) (.var 48))], 41⟩]
           (.again 1 1 [.sl, (.int .i64), .sl, (.int .i64)] [(.sl 25 (.lit 0) (.var 26) (.var 27)), (.int .i64 (.var 28)), (.sl 49 (.lit 0) (.var 50) (.var 51)), (.int .i64 (.bin .add .i64 (.var 32) (.lit 1)))] [⟨[(.bool (.var 12)), (.sl 13 (.lit 0) (.var 14) (.var 15))], 41⟩, ⟨[(.bool (.var 39)), (.sl 46 (.lit 0) (.var 47) (.var 48))], 41⟩, ⟨[(.bool (.var 39)), (.sl 46 (.lit 0) (.var 47) (.var 48))], 41⟩]))))))))))))))))
          (.alloc
          (.ext false ⟨(.call ⟨.builtin .append, #[(.tmp 0), (.tmp 0)], #[38, 38]⟩), 38, [(.sl 21 (.lit 0) (.var 22) (.var 23)), (.slc 1 0 1 1)]⟩ .sl [⟨[(.bool (.var 12)), (.sl 13 (.lit 0) (.var 14) (.var 15))], 41⟩, ⟨[(.sl 29 (.lit 0) (.var 30) (.var 31))], 39⟩]
          (.again 0 1 [.sl, (.int .i64), .sl, (.int .i64)] [(.sl 25 (.lit 0) (.var 26) (.var 27)), (.int .i64 (.var 28)), (.sl 36 (.lit 0) (.var 37) (.var 38)), (.int .i64 (.bin .add .i64 (.var 24) (.lit 1)))] [⟨[(.bool (.var 12)), (.sl 13 (.lit 0) (.var 14) (.var 15))], 41⟩, ⟨[(.sl 29 (.lit 0) (.var 30) (.var 31))], 39⟩]))))))))
        (.ret (.tup [(.sl 21 (.lit 0) (.var 22) (.var 23)), (.int .i64 (.lit 0))]) [⟨[(.bool (.var 12)), (.sl 13 (.lit 0) (.var 14) (.var 15))], 41⟩]))))))))))))))))))))))
theorem S_ref30_Level : FnIs Tryd.prog n_ref30_Level [.sl, (.int .i64), (.int .i64)] T_ref30_Level := ⟨Tryd.f25, [], 4000, Tryd.func25, by kernel_rfl⟩
/-! 26 ablaut/ablautref30.Same  -/
abbrev n_ref30_Same : FuncId := 26
def T_ref30_Same : Tree :=
 (.chk (.cmp .geq (.var 1) (.lit 0))
 (.chk (.cmp .geq (.var 4) (.lit 0))
 (.ite (.cmp .neq (.var 1) (.var 4))
  (.ret (.bool (.lit false)) [])
  (.loop 0 [.bool, (.int .i64)] [(.bool (.lit false)), (.int .i64 (.lit 0))] [] []
   (.chk (.cmp .geq (.var 1) (.lit 0))
   (.ite (.cmp .lss (.var 7) (.var 1))
    (.chk (.pick (.cmp .geq (.var 7) (.lit 0)) (.pick (.cmp .lss (.var 7) (.var 1)) (.some 0) (.lit false)) (.lit false))
    (.load 0 (.off (.var 7) 1 (.lit 0)) [.sl] []
    (.chk (.cmp .geq (.var 9) (.lit 0))
    (.chk (.pick (.cmp .geq (.var 7) (.lit 0)) (.pick (.cmp .lss (.var 7) (.var 4)) (.some 3) (.lit false)) (.lit false))
    (.load 3 (.off (.var 7) 1 (.lit 0)) [.sl] []
    (.chk (.cmp .geq (.var 12) (.lit 0))
    (.ite (.cmp .neq (.var 9) (.var 12))
     (.ret (.bool (.lit false)) [])
     (.loop 1 [.bool, (.int .i64)] [(.bool (.var 6)), (.int .i64 (.lit 0))] [] []
      (.chk (.pick (.cmp .geq (.var 7) (.lit 0)) (.pick (.cmp .lss (.var 7) (.var 1)) (.some 0) (.lit false)) (.lit false))
      (.load 0 (.off (.var 7) 1 (.lit 0)) [.sl] []
      (.chk (.cmp .geq (.var 17) (.lit 0))
      (.ite (.cmp .lss (.var 15) (.var 17))
       (.chk (.pick (.cmp .geq (.var 7) (.lit 0)) (.pick (.cmp .lss (.var 7) (.var 1)) (.some 0) (.lit false)) (.lit false))
       (.load 0 (.off (.var 7) 1 (.lit 0)) [.sl] []
       (.chk (.pick (.cmp .geq (.var 15) (.lit 0)) (.pick (.cmp .lss (.var 15) (.var 20)) (.some 19) (.lit false)) (.lit false))
       (.chk (.pick (.cmp .geq (.off (.var 15) 2 (.lit 0)) (.lit 0)) (.some 19) (.lit false))
       (.load 19 (.off (.var 15) 2 (.lit 0)) [.bool] []
       (.chk (.pick (.cmp .geq (.var 7) (.lit 0)) (.pick (.cmp .lss (.var 7) (.var 4)) (.some 3) (.lit false)) (.lit false))
       (.load 3 (.off (.var 7) 1 (.lit 0)) [.sl] []
       (.chk (.pick (.cmp .geq (.var 15) (.lit 0)) (.pick (.cmp .lss (.var 15) (.var 24)) (.some 23) (.lit false)) (.lit false))
       (.chk (.pick (.cmp .geq (.off (.var 15) 2 (.lit 0)) (.lit 0)) (.some 23) (.lit false))
       (.load 23 (.off (.var 15) 2 (.lit 0)) [.bool] []
       (.ite (.not (.beq (.var 22) (.var 26)))
        (.ret (.bool (.lit false)) [])
        (.chk (.pick (.cmp .geq (.var 7) (.lit 0)) (.pick (.cmp .lss (.var 7) (.var 1)) (.some 0) (.lit false)) (.lit false))
        (.load 0 (.off (.var 7) 1 (.lit 0)) [.sl] []
        (.chk (.pick (.cmp .geq (.var 15) (.lit 0)) (.pick (.cmp .lss (.var 15) (.var 28)) (.some 27) (.lit false)) (.lit false))
        (.chk (.pick (.cmp .geq (.off (.var 15) 2 (.lit 0)) (.lit 0)) (.some 27) (.lit false))
        (.load 27 (.off (.lit 1) 1 (.off (.var 15) 2 (.lit 0))) [.sl] []
        (.chk (.pick (.cmp .geq (.var 7) (.lit 0)) (.pick (.cmp .lss (.var 7) (.var 4)) (.some 3) (.lit false)) (.lit false))
        (.load 3 (.off (.var 7) 1 (.lit 0)) [.sl] []
        (.chk (.pick (.cmp .geq (.var 15) (.lit 0)) (.pick (.cmp .lss (.var 15) (.var 34)) (.some 33) (.lit false)) (.lit false))
        (.chk (.pick (.cmp .geq (.off (.var 15) 2 (.lit 0)) (.lit 0)) (.some 33) (.lit false))
        (.load 33 (.off (.lit 1) 1 (.off (.var 15) 2 (.lit 0))) [.sl] []
        (.call false 20 [(.sl 30 (.lit 0) (.var 31) (.var 32)), (.sl 36 (.lit 0) (.var 37) (.var 38))] .bool []
        (.ite (.not (.var 39))
         (.ret (.bool (.lit false)) [])
         (.again 1 0 [.bool, (.int .i64)] [(.bool (.var 14)), (.int .i64 (.bin .add .i64 (.var 15) (.lit 1)))] []))))))))))))))))))))))))
       (.again 0 0 [.bool, (.int .i64)] [(.bool (.var 14)), (.int .i64 (.bin .add .i64 (.var 7) (.lit 1)))] [])))))))))))))
    (.ret (.bool (.lit true)) [])))))))
theorem S_ref30_Same : FnIs Tryd.prog n_ref30_Same [.sl, .sl] T_ref30_Same := ⟨Tryd.f26, [], 4000, Tryd.func26, by kernel_rfl⟩
/-! 30 ablaut/paradigm.Check  -/
abbrev n_paradigm_Check : FuncId := 30
def T_paradigm_Check : Tree :=
 (.call false 63 [(.sl 0 (.lit 0) (.var 1) (.var 2))] (.int .i64) []
 (.ite (.cmp .neq (.var 3) (.lit 0))
  (.ret (.int .i64 (.var 3)) [])
  (.call false 64 [(.sl 0 (.lit 0) (.var 1) (.var 2))] (.int .i64) []
  (.ret (.int .i64 (.var 4)) []))))
theorem S_paradigm_Check : FnIs Tryd.prog n_paradigm_Check [.sl] T_paradigm_Check := ⟨Tryd.f30, [], 4000, Tryd.func30, by kernel_rfl⟩
/-! 55 ablaut/analogy.endings  -/
abbrev n_analogy_endings : FuncId := 55
def T_analogy_endings : Tree :=
 (.chk (.cmp .geq (.var 1) (.lit 0))
 (.ite (.cmp .eql (.var 1) (.lit 0))
  (.ret (.cst (.slice none 0 0)) [])
  (.chk (.pick (.cmp .lss (.lit 0) (.var 1)) (.some 0) (.lit false))
  (.load 0 (.lit 0) [.sl] []
  (.chk (.cmp .geq (.var 4) (.lit 0))
  (.makev 3 8 (.var 4) (.var 4)
  (.chk (.cmp .geq (.var 7) (.lit 0))
  (.loop 0 [(.int .i64)] [(.int .i64 (.lit 0))] [] []
   (.ite (.cmp .lss (.var 9) (.var 7))
    (.chk (.cmp .geq (.var 1) (.lit 0))
    (.loop 1 [.sl, (.int .i64)] [(.cst (.slice none 0 0)), (.int .i64 (.lit 0))] [] []
     (.ite (.cmp .lss (.var 13) (.var 1))
      (.chk (.pick (.cmp .geq (.var 13) (.lit 0)) (.pick (.cmp .lss (.var 13) (.var 1)) (.some 0) (.lit false)) (.lit false))
      (.load 0 (.off (.var 13) 1 (.lit 0)) [.sl] []
      (.chk (.pick (.cmp .geq (.var 9) (.lit 0)) (.pick (.cmp .lss (.var 9) (.var 15)) (.some 14) (.lit false)) (.lit false))
      (.chk (.pick (.cmp .geq (.off (.var 9) 2 (.lit 0)) (.lit 0)) (.some 14) (.lit false))
      (.load 14 (.off (.var 9) 2 (.lit 0)) [.bool] []
      (.join 2 [.sl] []
       (.ite (.var 17)
        (.chk (.pick (.cmp .geq (.var 9) (.lit 0)) (.pick (.cmp .lss (.var 9) (.var 15)) (.some 14) (.lit false)) (.lit false))
        (.chk (.pick (.cmp .geq (.off (.var 9) 2 (.lit 0)) (.lit 0)) (.some 14) (.lit false))
        (.load 14 (.off (.lit 1) 1 (.off (.var 9) 2 (.lit 0))) [.sl] []
        (.alloc
        (.ext false ⟨(.call ⟨.builtin .append, #[(.tmp 0), (.tmp 0)], #[85, 85]⟩), 85, [(.sl 10 (.lit 0) (.var 11) (.var 12)), (.slc 0 0 1 1)]⟩ .sl [⟨[(.sl 18 (.lit 0) (.var 19) (.var 20))], 22⟩]
        (.again 2 0 [.sl] [(.sl 21 (.lit 0) (.var 22) (.var 23))] [⟨[(.sl 18 (.lit 0) (.var 19) (.var 20))], 22⟩]))))))
        (.again 2 0 [.sl] [(.sl 10 (.lit 0) (.var 11) (.var 12))] []))
      (.again 1 0 [.sl, (.int .i64)] [(.sl 18 (.lit 0) (.var 19) (.var 20)), (.int .i64 (.bin .add .i64 (.var 13) (.lit 1)))] [])))))))
      (.chk (.cmp .geq (.var 11) (.lit 0))
      (.loop 1 [(.int .i64)] [(.int .i64 (.lit 0))] [] []
       (.ite (.cmp .lss (.var 14) (.var 11))
        (.chk (.pick (.cmp .geq (.var 14) (.lit 0)) (.pick (.cmp .lss (.var 14) (.var 11)) (.some 10) (.lit false)) (.lit false))
        (.load 10 (.off (.var 14) 1 (.lit 0)) [.sl] []
        (.loop 2 [(.int .i64)] [(.int .i64 (.lit 0))] [] []
         (.join 3 [.bool] []
          (.chk (.cmp .geq (.var 16) (.lit 0))
          (.ite (.cmp .lss (.var 18) (.var 16))
           (.chk (.pick (.cmp .lss (.lit 0) (.var 11)) (.some 10) (.lit false))
           (.load 10 (.lit 0) [.sl] []
           (.chk (.cmp .geq (.var 20) (.lit 0))
           (.ite (.cmp .lss (.var 18) (.var 20))
            (.chk (.cmp .geq (.var 16) (.lit 0))
            (.chk (.pick (.cmp .geq (.bin .sub .i64 (.bin .sub .i64 (.var 16) (.lit 1)) (.var 18)) (.lit 0)) (.pick (.cmp .lss (.bin .sub .i64 (.bin .sub .i64 (.var 16) (.lit 1)) (.var 18)) (.var 16)) (.some 15) (.lit false)) (.lit false))
            (.load 15 (.off (.bin .sub .i64 (.bin .sub .i64 (.var 16) (.lit 1)) (.var 18)) 2 (.lit 0)) [(.int .u32), (.int .u32)] []
            (.chk (.pick (.cmp .lss (.lit 0) (.var 11)) (.some 10) (.lit false))
            (.load 10 (.lit 0) [.sl] []
            (.chk (.pick (.cmp .lss (.lit 0) (.var 11)) (.some 10) (.lit false))
            (.load 10 (.lit 0) [.sl] []
            (.chk (.cmp .geq (.var 28) (.lit 0))
            (.chk (.pick (.cmp .geq (.bin .sub .i64 (.bin .sub .i64 (.var 28) (.lit 1)) (.var 18)) (.lit 0)) (.pick (.cmp .lss (.bin .sub .i64 (.bin .sub .i64 (.var 28) (.lit 1)) (.var 18)) (.var 25)) (.some 24) (.lit false)) (.lit false))
            (.load 24 (.off (.bin .sub .i64 (.bin .sub .i64 (.var 28) (.lit 1)) (.var 18)) 2 (.lit 0)) [(.int .u32), (.int .u32)] []
            (.again 3 0 [.bool] [(.bool (.pick (.cmp .eql (.var 22) (.var 30)) (.cmp .eql (.var 23) (.var 31)) (.lit false)))] [])))))))))))
            (.again 3 0 [.bool] [(.bool (.lit false))] [])))))
           (.again 3 0 [.bool] [(.bool (.lit false))] [])))
         (.ite (.var 19)
          (.again 2 0 [(.int .i64)] [(.int .i64 (.bin .add .i64 (.var 18) (.lit 1)))] [])
          (.join 2 [.bool] []
           (.ite (.cmp .eql (.var 14) (.lit 0))
            (.again 2 0 [.bool] [(.bool (.lit true))] [])
            (.chk (.pick (.cmp .geq (.var 9) (.lit 0)) (.pick (.cmp .lss (.var 9) (.var 7)) (.some 6) (.lit false)) (.lit false))
            (.load 6 (.off (.var 9) 1 (.lit 0)) [(.int .i64)] []
            (.again 2 0 [.bool] [(.bool (.cmp .lss (.var 18) (.var 20)))] []))))
          (.join 2 [] []
           (.ite (.var 20)
            (.chk (.pick (.cmp .geq (.var 9) (.lit 0)) (.pick (.cmp .lss (.var 9) (.var 7)) (.some 6) (.lit false)) (.lit false))
            (.store false 6 (.off (.var 9) 1 (.lit 0)) [(.int .i64 (.var 18))] []
            (.again 2 0 [] [] [])))
            (.again 2 0 [] [] []))
          (.again 1 0 [(.int .i64)] [(.int .i64 (.bin .add .i64 (.var 14) (.lit 1)))] []))))))))
        (.again 0 0 [(.int .i64)] [(.int .i64 (.bin .add .i64 (.var 9) (.lit 1)))] [])))))))
    (.ret (.sl 6 (.lit 0) (.var 7) (.var 8)) []))))))))))
theorem S_analogy_endings : FnIs Tryd.prog n_analogy_endings [.sl] T_analogy_endings := ⟨Tryd.f55, [{ key := 12, tmps := [], join := true, dead := 40406324196648584240673594529858 }, { key := 200018, tmps := [(85, .bool)], join := true }, { key := 200020, tmps := [(97, .bool)], join := true }, { key := 21, tmps := [], join := true }], 4000, Tryd.func55, by kernel_rfl⟩
/-! 56 slices.Clone[[]ablaut/api.Form,ablaut/api.Form]  -/
abbrev n_slices_Clone___api_Form_api_Form_ : FuncId := 56
def T_slices_Clone___api_Form_api_Form_ : Tree :=
 (.extp ⟨(.binOp .eql 39 (.tmp 0) (.const (.bool true)) 39), 4, [(.sl 0 (.lit 0) (.var 1) (.var 2)), (.cst (.slice none 0 0))]⟩ .bool []
 (.ite (.var 3)
  (.ret (.cst (.slice none 0 0)) [])
  (.alloc
  (.ext false ⟨(.call ⟨.builtin .append, #[(.tmp 0), (.tmp 0)], #[39, 39]⟩), 39, [(.slc 0 0 0 0), (.sl 0 (.lit 0) (.var 1) (.var 2))]⟩ .sl [⟨[], 41⟩]
  (.ret (.sl 4 (.lit 0) (.var 5) (.var 6)) [⟨[], 41⟩])))))
theorem S_slices_Clone___api_Form_api_Form_ : FnIs Tryd.prog n_slices_Clone___api_Form_api_Form_ [.sl] T_slices_Clone___api_Form_api_Form_ := ⟨Tryd.f56, [], 4000, Tryd.func56, by kernel_rfl⟩
/-! 59 ablaut/ablautref29.Check  -/
abbrev n_ref29_Check : FuncId := 59
def T_ref29_Check : Tree :=
 (.call false 78 [(.sl 0 (.lit 0) (.var 1) (.var 2))] (.int .i64) []
 (.ite (.cmp .neq (.var 3) (.lit 0))
  (.ret (.int .i64 (.var 3)) [])
  (.call false 79 [(.sl 0 (.lit 0) (.var 1) (.var 2))] (.int .i64) []
  (.ret (.int .i64 (.var 4)) []))))
theorem S_ref29_Check : FnIs Tryd.prog n_ref29_Check [.sl] T_ref29_Check := ⟨Tryd.f59, [], 4000, Tryd.func59, by kernel_rfl⟩
/-! 60 ablaut/ablautref30.ending  -/
abbrev n_ref30_ending : FuncId := 60
def T_ref30_ending : Tree :=
 (.loop 0 [(.int .i64), (.int .i64)] [(.int .i64 (.lit 0)), (.int .i64 (.lit 0))] [] []
  (.alloc
  (.loop 1 [(.int .i64), .bool, (.int .i64), (.int .u32), (.int .u32)] [(.int .i64 (.var 4)), (.bool (.lit false)), (.int .i64 (.lit 0)), (.int .u32 (.lit 0)), (.int .u32 (.lit 0))] [⟨[(.int .u32 (.lit 0)), (.int .u32 (.lit 0))], 31⟩] [⟨[(.int .u32 (.var 9)), (.int .u32 (.var 10))], 31⟩]
   (.chk (.cmp .geq (.var 1) (.lit 0))
   (.ite (.cmp .lss (.var 8) (.var 1))
    (.chk (.pick (.cmp .geq (.var 8) (.lit 0)) (.pick (.cmp .lss (.var 8) (.var 1)) (.some 0) (.lit false)) (.lit false))
    (.load 0 (.off (.var 8) 1 (.lit 0)) [.sl] [⟨[(.int .u32 (.var 9)), (.int .u32 (.var 10))], 31⟩]
    (.chk (.pick (.cmp .geq (.var 3) (.lit 0)) (.pick (.cmp .lss (.var 3) (.var 12)) (.some 11) (.lit false)) (.lit false))
    (.load 11 (.off (.var 3) 2 (.lit 0)) [.bool, .sl] [⟨[(.int .u32 (.var 9)), (.int .u32 (.var 10))], 31⟩]
    (.alloc
    (.ite (.not (.var 14))
     (.again 1 1 [(.int .i64), .bool, (.int .i64), (.int .u32), (.int .u32)] [(.int .i64 (.var 6)), (.bool (.var 7)), (.int .i64 (.bin .add .i64 (.var 8) (.lit 1))), (.int .u32 (.var 9)), (.int .u32 (.var 10))] [⟨[(.int .u32 (.var 9)), (.int .u32 (.var 10))], 31⟩, ⟨[(.bool (.var 14)), (.sl 15 (.lit 0) (.var 16) (.var 17))], 41⟩])
     (.chk (.cmp .geq (.var 16) (.lit 0))
     (.ite (.not (.cmp .eql (.var 5) (.var 16)))
      (.ite (.var 7)
       (.chk (.cmp .geq (.var 16) (.lit 0))
       (.chk (.pick (.cmp .geq (.bin .sub .i64 (.bin .sub .i64 (.var 16) (.lit 1)) (.var 5)) (.lit 0)) (.pick (.cmp .lss (.bin .sub .i64 (.bin .sub .i64 (.var 16) (.lit 1)) (.var 5)) (.var 16)) (.some 15) (.lit false)) (.lit false))
       (.load 15 (.off (.bin .sub .i64 (.bin .sub .i64 (.var 16) (.lit 1)) (.var 5)) 2 (.lit 0)) [(.int .u32), (.int .u32)] [⟨[(.int .u32 (.var 9)), (.int .u32 (.var 10))], 31⟩, ⟨[(.bool (.var 14)), (.sl 15 (.lit 0) (.var 16) (.var 17))], 41⟩]
       (.ite (.not (.pick (.cmp .eql (.var 18) (.var 9)) (.cmp .eql (.var 19) (.var 10)) (.lit false)))
        (.ret (.int .i64 (.var 5)) [⟨[(.int .u32 (.var 9)), (.int .u32 (.var 10))], 31⟩, ⟨[(.bool (.var 14)), (.sl 15 (.lit 0) (.var 16) (.var 17))], 41⟩])
        (.chk (.cmp .geq (.var 16) (.lit 0))
        (.chk (.pick (.cmp .geq (.bin .sub .i64 (.bin .sub .i64 (.var 16) (.lit 1)) (.var 5)) (.lit 0)) (.pick (.cmp .lss (.bin .sub .i64 (.bin .sub .i64 (.var 16) (.lit 1)) (.var 5)) (.var 16)) (.some 15) (.lit false)) (.lit false))
        (.load 15 (.off (.bin .sub .i64 (.bin .sub .i64 (.var 16) (.lit 1)) (.var 5)) 2 (.lit 0)) [(.int .u32), (.int .u32)] [⟨[(.int .u32 (.var 9)), (.int .u32 (.var 10))], 31⟩, ⟨[(.bool (.var 14)), (.sl 15 (.lit 0) (.var 16) (.var 17))], 41⟩]
        (.again 1 1 [(.int .i64), .bool, (.int .i64), (.int .u32), (.int .u32)] [(.int .i64 (.var 6)), (.bool (.lit true)), (.int .i64 (.bin .add .i64 (.var 8) (.lit 1))), (.int .u32 (.var 20)), (.int .u32 (.var 21))] [⟨[(.int .u32 (.var 20)), (.int .u32 (.var 21))], 31⟩, ⟨[(.bool (.var 14)), (.sl 15 (.lit 0) (.var 16) (.var 17))], 41⟩]))))))))
       (.chk (.cmp .geq (.var 16) (.lit 0))
       (.chk (.pick (.cmp .geq (.bin .sub .i64 (.bin .sub .i64 (.var 16) (.lit 1)) (.var 5)) (.lit 0)) (.pick (.cmp .lss (.bin .sub .i64 (.bin .sub .i64 (.var 16) (.lit 1)) (.var 5)) (.var 16)) (.some 15) (.lit false)) (.lit false))
       (.load 15 (.off (.bin .sub .i64 (.bin .sub .i64 (.var 16) (.lit 1)) (.var 5)) 2 (.lit 0)) [(.int .u32), (.int .u32)] [⟨[(.int .u32 (.var 9)), (.int .u32 (.var 10))], 31⟩, ⟨[(.bool (.var 14)), (.sl 15 (.lit 0) (.var 16) (.var 17))], 41⟩]
       (.again 1 1 [(.int .i64), .bool, (.int .i64), (.int .u32), (.int .u32)] [(.int .i64 (.var 6)), (.bool (.lit true)), (.int .i64 (.bin .add .i64 (.var 8) (.lit 1))), (.int .u32 (.var 18)), (.int .u32 (.var 19))] [⟨[(.int .u32 (.var 18)), (.int .u32 (.var 19))], 31⟩, ⟨[(.bool (.var 14)), (.sl 15 (.lit 0) (.var 16) (.var 17))], 41⟩])))))
      (.ret (.int .i64 (.var 5)) [⟨[(.int .u32 (.var 9)), (.int .u32 (.var 10))], 31⟩, ⟨[(.bool (.var 14)), (.sl 15 (.lit 0) (.var 16) (.var 17))], 41⟩])))))))))
    (.ite (.not (.var 7))
     (.ret (.int .i64 (.var 5)) [⟨[(.int .u32 (.var 9)), (.int .u32 (.var 10))], 31⟩])
     (.again 0 0 [(.int .i64), (.int .i64)] [(.int .i64 (.var 6)), (.int .i64 (.bin .add .i64 (.var 5) (.lit 1)))] [⟨[(.int .u32 (.var 9)), (.int .u32 (.var 10))], 31⟩])))))))
theorem S_ref30_ending : FnIs Tryd.prog n_ref30_ending [.sl, (.int .i64)] T_ref30_ending := ⟨Tryd.f60, [], 4000, Tryd.func60, by kernel_rfl⟩
/-! 63 ablaut/paradigm.shape  -/
abbrev n_paradigm_shape : FuncId := 63
def T_paradigm_shape : Tree :=
 (.chk (.cmp .geq (.var 1) (.lit 0))
 (.ite (.cmp .gtr (.var 1) (.lit 64))
  (.ret (.int .i64 (.lit 12)) [])
  (.call false 81 [(.sl 0 (.lit 0) (.var 1) (.var 2)), (.cst (.func (.func 82) #[] #[]))] .bool []
  (.ite (.var 3)
   (.ret (.int .i64 (.lit 12)) [])
   (.chk (.cmp .geq (.var 1) (.lit 0))
   (.loop 0 [(.int .i64), (.int .i64)] [(.int .i64 (.lit 0)), (.int .i64 (.lit 0))] [] []
    (.ite (.cmp .lss (.var 5) (.var 1))
     (.chk (.pick (.cmp .geq (.var 5) (.lit 0)) (.pick (.cmp .lss (.var 5) (.var 1)) (.some 0) (.lit false)) (.lit false))
     (.load 0 (.off (.var 5) 1 (.lit 0)) [.sl] []
     (.chk (.cmp .geq (.var 7) (.lit 0))
     (.chk (.pick (.cmp .lss (.lit 0) (.var 1)) (.some 0) (.lit false))
     (.load 0 (.lit 0) [.sl] []
     (.chk (.cmp .geq (.var 10) (.lit 0))
     (.ite (.cmp .neq (.var 7) (.var 10))
      (.ret (.int .i64 (.lit 2)) [])
      (.call false 83 [(.sl 6 (.lit 0) (.var 7) (.var 8)), (.cst (.func (.func 84) #[] #[]))] .bool []
      (.ite (.var 12)
       (.ret (.int .i64 (.lit 2)) [])
       (.again 0 0 [(.int .i64), (.int .i64)] [(.int .i64 (.var 4)), (.int .i64 (.bin .add .i64 (.var 5) (.lit 1)))] []))))))))))
     (.ret (.int .i64 (.lit 0)) []))))))))
theorem S_paradigm_shape : FnIs Tryd.prog n_paradigm_shape [.sl] T_paradigm_shape := ⟨Tryd.f63, [], 4000, Tryd.func63, by kernel_rfl⟩
/-! 64 ablaut/paradigm.words  -/
abbrev n_paradigm_words : FuncId := 64
def T_paradigm_words : Tree :=
 (.chk (.cmp .geq (.var 1) (.lit 0))
 (.loop 0 [(.int .i64), (.int .i64)] [(.int .i64 (.lit 0)), (.int .i64 (.lit 0))] [] []
  (.ite (.cmp .lss (.var 4) (.var 1))
   (.chk (.pick (.cmp .geq (.var 4) (.lit 0)) (.pick (.cmp .lss (.var 4) (.var 1)) (.some 0) (.lit false)) (.lit false))
   (.load 0 (.off (.var 4) 1 (.lit 0)) [.sl] []
   (.chk (.cmp .geq (.var 6) (.lit 0))
   (.loop 1 [(.int .i64), (.int .i64)] [(.int .i64 (.var 3)), (.int .i64 (.lit 0))] [] []
    (.ite (.cmp .lss (.var 9) (.var 6))
     (.chk (.pick (.cmp .geq (.var 9) (.lit 0)) (.pick (.cmp .lss (.var 9) (.var 6)) (.some 5) (.lit false)) (.lit false))
     (.load 5 (.off (.var 9) 2 (.lit 0)) [.bool, .sl] []
     (.alloc
     (.call false 61 [(.sl 11 (.lit 0) (.var 12) (.var 13))] (.int .i64) [⟨[(.bool (.var 10)), (.sl 11 (.lit 0) (.var 12) (.var 13))], 41⟩]
     (.ite (.cmp .neq (.var 14) (.lit 0))
      (.ret (.int .i64 (.var 14)) [⟨[(.bool (.var 10)), (.sl 11 (.lit 0) (.var 12) (.var 13))], 41⟩])
      (.again 1 0 [(.int .i64), (.int .i64)] [(.int .i64 (.var 8)), (.int .i64 (.bin .add .i64 (.var 9) (.lit 1)))] [⟨[(.bool (.var 10)), (.sl 11 (.lit 0) (.var 12) (.var 13))], 41⟩]))))))
     (.again 0 0 [(.int .i64), (.int .i64)] [(.int .i64 (.var 8)), (.int .i64 (.bin .add .i64 (.var 4) (.lit 1)))] []))))))
   (.ret (.int .i64 (.lit 0)) []))))
theorem S_paradigm_words : FnIs Tryd.prog n_paradigm_words [.sl] T_paradigm_words := ⟨Tryd.f64, [], 4000, Tryd.func64, by kernel_rfl⟩
/-! 78 ablaut/ablautref29.shape  -/
abbrev n_ref29_shape : FuncId := 78
def T_ref29_shape : Tree :=
 (.chk (.cmp .geq (.var 1) (.lit 0))
 (.ite (.cmp .gtr (.var 1) (.lit 64))
  (.ret (.int .i64 (.lit 12)) [])
  (.loop 0 [(.int .i64), (.int .i64)] [(.int .i64 (.lit 0)), (.int .i64 (.lit 0))] [] []
   (.chk (.cmp .geq (.var 1) (.lit 0))
   (.ite (.cmp .lss (.var 4) (.var 1))
    (.chk (.pick (.cmp .geq (.var 4) (.lit 0)) (.pick (.cmp .lss (.var 4) (.var 1)) (.some 0) (.lit false)) (.lit false))
    (.load 0 (.off (.var 4) 1 (.lit 0)) [.sl] []
    (.chk (.cmp .geq (.var 6) (.lit 0))
    (.ite (.cmp .gtr (.var 6) (.lit 16))
     (.ret (.int .i64 (.lit 12)) [])
     (.again 0 0 [(.int .i64), (.int .i64)] [(.int .i64 (.var 3)), (.int .i64 (.bin .add .i64 (.var 4) (.lit 1)))] [])))))
    (.loop 0 [(.int .i64), (.int .i64)] [(.int .i64 (.var 3)), (.int .i64 (.lit 0))] [] []
     (.chk (.cmp .geq (.var 1) (.lit 0))
     (.ite (.cmp .lss (.var 6) (.var 1))
      (.chk (.pick (.cmp .geq (.var 6) (.lit 0)) (.pick (.cmp .lss (.var 6) (.var 1)) (.some 0) (.lit false)) (.lit false))
      (.load 0 (.off (.var 6) 1 (.lit 0)) [.sl] []
      (.chk (.cmp .geq (.var 8) (.lit 0))
      (.chk (.pick (.cmp .lss (.lit 0) (.var 1)) (.some 0) (.lit false))
      (.load 0 (.lit 0) [.sl] []
      (.chk (.cmp .geq (.var 11) (.lit 0))
      (.ite (.cmp .neq (.var 8) (.var 11))
       (.ret (.int .i64 (.lit 2)) [])
       (.loop 1 [(.int .i64), (.int .i64)] [(.int .i64 (.var 5)), (.int .i64 (.lit 0))] [] []
        (.chk (.pick (.cmp .geq (.var 6) (.lit 0)) (.pick (.cmp .lss (.var 6) (.var 1)) (.some 0) (.lit false)) (.lit false))
        (.load 0 (.off (.var 6) 1 (.lit 0)) [.sl] []
        (.chk (.cmp .geq (.var 16) (.lit 0))
        (.ite (.cmp .lss (.var 14) (.var 16))
         (.chk (.pick (.cmp .geq (.var 6) (.lit 0)) (.pick (.cmp .lss (.var 6) (.var 1)) (.some 0) (.lit false)) (.lit false))
         (.load 0 (.off (.var 6) 1 (.lit 0)) [.sl] []
         (.chk (.pick (.cmp .geq (.var 14) (.lit 0)) (.pick (.cmp .lss (.var 14) (.var 19)) (.some 18) (.lit false)) (.lit false))
         (.chk (.pick (.cmp .geq (.off (.var 14) 2 (.lit 0)) (.lit 0)) (.some 18) (.lit false))
         (.load 18 (.off (.var 14) 2 (.lit 0)) [.bool] []
         (.ite (.not (.var 21))
          (.chk (.pick (.cmp .geq (.var 6) (.lit 0)) (.pick (.cmp .lss (.var 6) (.var 1)) (.some 0) (.lit false)) (.lit false))
          (.load 0 (.off (.var 6) 1 (.lit 0)) [.sl] []
          (.chk (.pick (.cmp .geq (.var 14) (.lit 0)) (.pick (.cmp .lss (.var 14) (.var 23)) (.some 22) (.lit false)) (.lit false))
          (.chk (.pick (.cmp .geq (.off (.var 14) 2 (.lit 0)) (.lit 0)) (.some 22) (.lit false))
          (.load 22 (.off (.lit 1) 1 (.off (.var 14) 2 (.lit 0))) [.sl] []
          (.chk (.cmp .geq (.var 26) (.lit 0))
          (.ite (.cmp .gtr (.var 26) (.lit 0))
           (.ret (.int .i64 (.lit 2)) [])
           (.again 1 0 [(.int .i64), (.int .i64)] [(.int .i64 (.var 13)), (.int .i64 (.bin .add .i64 (.var 14) (.lit 1)))] []))))))))
          (.again 1 0 [(.int .i64), (.int .i64)] [(.int .i64 (.var 13)), (.int .i64 (.bin .add .i64 (.var 14) (.lit 1)))] [])))))))
         (.again 0 0 [(.int .i64), (.int .i64)] [(.int .i64 (.var 13)), (.int .i64 (.bin .add .i64 (.var 6) (.lit 1)))] [])))))))))))))
      (.ret (.int .i64 (.lit 0)) [])))))))))
theorem S_ref29_shape : FnIs Tryd.prog n_ref29_shape [.sl] T_ref29_shape := ⟨Tryd.f78, [], 4000, Tryd.func78, by kernel_rfl⟩
/-! 79 ablaut/ablautref29.words  -/
abbrev n_ref29_words : FuncId := 79
def T_ref29_words : Tree :=
 (.loop 0 [(.int .i64), (.int .i64)] [(.int .i64 (.lit 0)), (.int .i64 (.lit 0))] [] []
  (.chk (.cmp .geq (.var 1) (.lit 0))
  (.ite (.cmp .lss (.var 4) (.var 1))
   (.loop 1 [(.int .i64), (.int .i64)] [(.int .i64 (.var 3)), (.int .i64 (.lit 0))] [] []
    (.chk (.pick (.cmp .geq (.var 4) (.lit 0)) (.pick (.cmp .lss (.var 4) (.var 1)) (.some 0) (.lit false)) (.lit false))
    (.load 0 (.off (.var 4) 1 (.lit 0)) [.sl] []
    (.chk (.cmp .geq (.var 8) (.lit 0))
    (.ite (.cmp .lss (.var 6) (.var 8))
     (.chk (.pick (.cmp .geq (.var 4) (.lit 0)) (.pick (.cmp .lss (.var 4) (.var 1)) (.some 0) (.lit false)) (.lit false))
     (.load 0 (.off (.var 4) 1 (.lit 0)) [.sl] []
     (.chk (.pick (.cmp .geq (.var 6) (.lit 0)) (.pick (.cmp .lss (.var 6) (.var 11)) (.some 10) (.lit false)) (.lit false))
     (.chk (.pick (.cmp .geq (.off (.var 6) 2 (.lit 0)) (.lit 0)) (.some 10) (.lit false))
     (.load 10 (.off (.lit 1) 1 (.off (.var 6) 2 (.lit 0))) [.sl] []
     (.call false 73 [(.sl 13 (.lit 0) (.var 14) (.var 15))] (.int .i64) []
     (.ite (.cmp .neq (.var 16) (.lit 0))
      (.ret (.int .i64 (.var 16)) [])
      (.again 1 0 [(.int .i64), (.int .i64)] [(.int .i64 (.var 5)), (.int .i64 (.bin .add .i64 (.var 6) (.lit 1)))] []))))))))
     (.again 0 0 [(.int .i64), (.int .i64)] [(.int .i64 (.var 5)), (.int .i64 (.bin .add .i64 (.var 4) (.lit 1)))] []))))))
   (.ret (.int .i64 (.lit 0)) []))))
theorem S_ref29_words : FnIs Tryd.prog n_ref29_words [.sl] T_ref29_words := ⟨Tryd.f79, [], 4000, Tryd.func79, by kernel_rfl⟩
/-! 81 slices.ContainsFunc[[][]ablaut/api.Form,[]ablaut/api.Form]  -/
abbrev n_slices_ContainsFunc_____api_Form___api_Form_ : FuncId := 81
def T_slices_ContainsFunc_____api_Form___api_Form_ : Tree :=
 (.call false 88 [(.sl 0 (.lit 0) (.var 1) (.var 2)), (.val 3)] (.int .i64) []
 (.ret (.bool (.cmp .geq (.var 4) (.lit 0))) []))
theorem S_slices_ContainsFunc_____api_Form___api_Form_ : FnIs Tryd.prog n_slices_ContainsFunc_____api_Form___api_Form_ [.sl, .val] T_slices_ContainsFunc_____api_Form___api_Form_ := ⟨Tryd.f81, [], 4000, Tryd.func81, by kernel_rfl⟩
/-! 82 ablaut/paradigm.shape$1  -/
abbrev n_paradigm_shape_1 : FuncId := 82
def T_paradigm_shape_1 : Tree :=
 (.chk (.cmp .geq (.var 1) (.lit 0))
 (.ret (.bool (.cmp .gtr (.var 1) (.lit 16))) []))
theorem S_paradigm_shape_1 : FnIs Tryd.prog n_paradigm_shape_1 [.sl] T_paradigm_shape_1 := ⟨Tryd.f82, [], 4000, Tryd.func82, by kernel_rfl⟩
/-! 83 slices.ContainsFunc[[]ablaut/api.Form,ablaut/api.Form]  -/
abbrev n_slices_ContainsFunc___api_Form_api_Form_ : FuncId := 83
def T_slices_ContainsFunc___api_Form_api_Form_ : Tree :=
 (.call false 89 [(.sl 0 (.lit 0) (.var 1) (.var 2)), (.val 3)] (.int .i64) []
 (.ret (.bool (.cmp .geq (.var 4) (.lit 0))) []))
theorem S_slices_ContainsFunc___api_Form_api_Form_ : FnIs Tryd.prog n_slices_ContainsFunc___api_Form_api_Form_ [.sl, .val] T_slices_ContainsFunc___api_Form_api_Form_ := ⟨Tryd.f83, [], 4000, Tryd.func83, by kernel_rfl⟩
/-! 84 ablaut/paradigm.shape$2  -/
abbrev n_paradigm_shape_2 : FuncId := 84
def T_paradigm_shape_2 : Tree :=
 (.alloc
 (.join 0 [.bool] [⟨[(.bool (.var 0)), (.sl 1 (.lit 0) (.var 2) (.var 3))], 41⟩]
  (.ite (.not (.var 0))
   (.chk (.cmp .geq (.var 2) (.lit 0))
   (.again 0 1 [.bool] [(.bool (.cmp .gtr (.var 2) (.lit 0)))] [⟨[(.bool (.var 0)), (.sl 1 (.lit 0) (.var 2) (.var 3))], 41⟩]))
   (.again 0 1 [.bool] [(.bool (.lit false))] [⟨[(.bool (.var 0)), (.sl 1 (.lit 0) (.var 2) (.var 3))], 41⟩]))
 (.ret (.bool (.var 4)) [⟨[(.bool (.var 0)), (.sl 1 (.lit 0) (.var 2) (.var 3))], 41⟩])))
theorem S_paradigm_shape_2 : FnIs Tryd.prog n_paradigm_shape_2 [(.agg [.bool, .sl])] T_paradigm_shape_2 := ⟨Tryd.f84, [{ key := 200001, tmps := [], join := true, dead := 4088 }], 4000, Tryd.func84, by kernel_rfl⟩
/-! 88 slices.IndexFunc[[][]ablaut/api.Form,[]ablaut/api.Form]  -/
abbrev n_slices_IndexFunc_____api_Form___api_Form_ : FuncId := 88
def T_slices_IndexFunc_____api_Form___api_Form_ : Tree :=
 (.chk (.cmp .geq (.var 1) (.lit 0))
 (.loop 0 [(.int .i64), (.int .i64)] [(.int .i64 (.lit 0)), (.int .i64 (.lit 0))] [] []
  (.ite (.cmp .lss (.var 5) (.var 1))
   (.chk (.pick (.cmp .geq (.var 5) (.lit 0)) (.pick (.cmp .lss (.var 5) (.var 1)) (.some 0) (.lit false)) (.lit false))
   (.load 0 (.off (.var 5) 1 (.lit 0)) [.sl] []
   (.callv false (.val 3) [(.sl 6 (.lit 0) (.var 7) (.var 8))] .bool []
   (.ite (.var 9)
    (.ret (.int .i64 (.var 5)) [])
    (.again 0 0 [(.int .i64), (.int .i64)] [(.int .i64 (.var 4)), (.int .i64 (.bin .add .i64 (.var 5) (.lit 1)))] [])))))
   (.ret (.int .i64 (.lit (-1))) []))))
theorem S_slices_IndexFunc_____api_Form___api_Form_ : FnIs Tryd.prog n_slices_IndexFunc_____api_Form___api_Form_ [.sl, .val] T_slices_IndexFunc_____api_Form___api_Form_ := ⟨Tryd.f88, [], 4000, Tryd.func88, by kernel_rfl⟩
/-! 89 slices.IndexFunc[[]ablaut/api.Form,ablaut/api.Form]  -/
abbrev n_slices_IndexFunc___api_Form_api_Form_ : FuncId := 89
def T_slices_IndexFunc___api_Form_api_Form_ : Tree :=
 (.chk (.cmp .geq (.var 1) (.lit 0))
 (.loop 0 [(.int .i64), (.int .i64)] [(.int .i64 (.lit 0)), (.int .i64 (.lit 0))] [] []
  (.ite (.cmp .lss (.var 5) (.var 1))
   (.chk (.pick (.cmp .geq (.var 5) (.lit 0)) (.pick (.cmp .lss (.var 5) (.var 1)) (.some 0) (.lit false)) (.lit false))
   (.load 0 (.off (.var 5) 2 (.lit 0)) [.bool, .sl] []
   (.callv false (.val 3) [(.agg [(.bool (.var 6)), (.sl 7 (.lit 0) (.var 8) (.var 9))])] .bool []
   (.ite (.var 10)
    (.ret (.int .i64 (.var 5)) [])
    (.again 0 0 [(.int .i64), (.int .i64)] [(.int .i64 (.var 4)), (.int .i64 (.bin .add .i64 (.var 5) (.lit 1)))] [])))))
   (.ret (.int .i64 (.lit (-1))) []))))
theorem S_slices_IndexFunc___api_Form_api_Form_ : FnIs Tryd.prog n_slices_IndexFunc___api_Form_api_Form_ [.sl, .val] T_slices_IndexFunc___api_Form_api_Form_ := ⟨Tryd.f89, [], 4000, Tryd.func89, by kernel_rfl⟩
end Go.Proofs.YtpbbnmjkbfbelaaDoor
