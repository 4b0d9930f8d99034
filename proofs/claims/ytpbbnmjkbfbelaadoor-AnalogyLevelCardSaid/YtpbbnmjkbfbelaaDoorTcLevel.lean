/- The trees of this seat's functions, printed by a program of mine (SyGen), checked here by the kernel. -/
import Derived.Test.YtpbbnmjkbfbelaaDoorSyDef
import Derived.Test.YtpbbnmjkbfbelaaDoorProg
import Derived.KernelRfl
set_option maxRecDepth 100000
namespace Go.Proofs.YtpbbnmjkbfbelaaDoor
open Go Go.Sy
/-! 7 ablaut/ablautlaw30.AnalogyLevel  -/
abbrev n_law30_AnalogyLevel : FuncId := 7
def T_law30_AnalogyLevel : Tree :=
 (.join 0 [.bool] []
  (.chk (.cmp .geq (.var 1) (.lit 0))
  (.ite (.cmp .eql (.var 1) (.lit 0))
   (.again 0 0 [.bool] [(.bool (.lit true))] [])
   (.chk (.cmp .geq (.var 1) (.lit 0))
   (.again 0 0 [.bool] [(.bool (.cmp .gtr (.var 1) (.lit 10)))] []))))
 (.ite (.var 5)
  (.call false 14 [] .bool []
  (.ret (.bool (.var 6)) []))
  (.loop 0 [.bool, .sl, (.int .i64)] [(.bool (.lit false)), (.cst (.slice none 0 0)), (.int .i64 (.lit 0))] [] []
   (.chk (.cmp .geq (.var 1) (.lit 0))
   (.ite (.cmp .lss (.var 10) (.var 1))
    (.alloc
    (.chk (.pick (.cmp .geq (.var 10) (.lit 0)) (.pick (.cmp .lss (.var 10) (.var 1)) (.some 0) (.lit false)) (.lit false))
    (.extp ⟨(.slice 53 (.tmp 0) none none none), 39, [(.ptr 0 (.off (.var 10) 8 (.lit 0)))]⟩ .sl [⟨[], 41⟩]
    (.ext false ⟨(.call ⟨.builtin .append, #[(.tmp 0), (.tmp 0)], #[39, 39]⟩), 39, [(.slc 0 0 0 0), (.sl 11 (.lit 0) (.var 12) (.var 13))]⟩ .sl [⟨[], 41⟩]
    (.alloc
    (.ext false ⟨(.call ⟨.builtin .append, #[(.tmp 0), (.tmp 0)], #[42, 42]⟩), 42, [(.sl 7 (.lit 0) (.var 8) (.var 9)), (.slc 1 0 1 1)]⟩ .sl [⟨[], 41⟩, ⟨[(.sl 14 (.lit 0) (.var 15) (.var 16))], 39⟩]
    (.loop 1 [.bool, (.int .i64)] [(.bool (.var 6)), (.int .i64 (.lit 0))] [⟨[], 41⟩, ⟨[(.sl 14 (.lit 0) (.var 15) (.var 16))], 39⟩] [⟨[], 41⟩, ⟨[(.sl 14 (.lit 0) (.var 15) (.var 16))], 39⟩]
     (.ite (.cmp .lss (.var 21) (.lit 4))
      (.chk (.pick (.cmp .geq (.var 10) (.lit 0)) (.pick (.cmp .lss (.var 10) (.var 1)) (.some 0) (.lit false)) (.lit false))
      (.chk (.pick (.cmp .geq (.off (.var 10) 8 (.lit 0)) (.lit 0)) (.pick (.cmp .geq (.var 21) (.lit 0)) (.pick (.cmp .lss (.var 21) (.lit 4)) (.some 0) (.lit false)) (.lit false)) (.lit false))
      (.chk (.pick (.cmp .geq (.off (.var 21) 2 (.off (.var 10) 8 (.lit 0))) (.lit 0)) (.some 0) (.lit false))
      (.load 0 (.off (.lit 1) 1 (.off (.var 21) 2 (.off (.var 10) 8 (.lit 0)))) [.sl] [⟨[], 41⟩, ⟨[(.sl 14 (.lit 0) (.var 15) (.var 16))], 39⟩]
      (.chk (.cmp .geq (.var 23) (.lit 0))
      (.ite (.cmp .gtr (.var 23) (.lit 32))
       (.call false 14 [] .bool [⟨[], 41⟩, ⟨[(.sl 14 (.lit 0) (.var 15) (.var 16))], 39⟩]
       (.ret (.bool (.var 25)) [⟨[], 41⟩, ⟨[(.sl 14 (.lit 0) (.var 15) (.var 16))], 39⟩]))
       (.again 1 2 [.bool, (.int .i64)] [(.bool (.var 20)), (.int .i64 (.bin .add .i64 (.var 21) (.lit 1)))] [⟨[], 41⟩, ⟨[(.sl 14 (.lit 0) (.var 15) (.var 16))], 39⟩])))))))
      (.again 0 0 [.bool, .sl, (.int .i64)] [(.bool (.var 20)), (.sl 17 (.lit 0) (.var 18) (.var 19)), (.int .i64 (.bin .add .i64 (.var 10) (.lit 1)))] [⟨[], 41⟩, ⟨[(.sl 14 (.lit 0) (.var 15) (.var 16))], 39⟩])))))))))
    (.call false 30 [(.sl 7 (.lit 0) (.var 8) (.var 9))] (.int .i64) []
    (.ite (.cmp .neq (.var 11) (.lit 0))
     (.call false 14 [] .bool []
     (.ret (.bool (.var 12)) []))
     (.chk (.cmp .geq (.var 1) (.lit 0))
     (.chk (.cmp .neq (.var 1) (.lit 0))
     (.call false 24 [(.sl 7 (.lit 0) (.var 8) (.var 9)), (.int .i64 (.bin .rem .i64 (.conv .i64 (.var 3)) (.var 1))), (.int .i64 (.bin .rem .i64 (.conv .i64 (.var 4)) (.lit 4)))] (.tup [.sl, (.int .i64)]) []
     (.chk (.pick (.cmp .geq (.bin .rem .i64 (.conv .i64 (.var 3)) (.var 1)) (.lit 0)) (.pick (.cmp .lss (.bin .rem .i64 (.conv .i64 (.var 3)) (.var 1)) (.var 8)) (.some 7) (.lit false)) (.lit false))
     (.load 7 (.off (.bin .rem .i64 (.conv .i64 (.var 3)) (.var 1)) 1 (.lit 0)) [.sl] []
     (.chk (.pick (.cmp .geq (.bin .rem .i64 (.conv .i64 (.var 4)) (.lit 4)) (.lit 0)) (.pick (.cmp .lss (.bin .rem .i64 (.conv .i64 (.var 4)) (.lit 4)) (.var 17)) (.some 16) (.lit false)) (.lit false))
     (.chk (.pick (.cmp .geq (.off (.bin .rem .i64 (.conv .i64 (.var 4)) (.lit 4)) 2 (.lit 0)) (.lit 0)) (.some 16) (.lit false))
     (.load 16 (.off (.bin .rem .i64 (.conv .i64 (.var 4)) (.lit 4)) 2 (.lit 0)) [.bool] []
     (.ite (.not (.var 19))
      (.join 0 [.bool] []
       (.ite (.cmp .eql (.var 15) (.lit 5))
        (.chk (.cmp .geq (.var 13) (.lit 0))
        (.ite (.cmp .eql (.var 13) (.lit 0))
         (.call false 14 [] .bool []
         (.again 0 0 [.bool] [(.bool (.var 20))] []))
         (.again 0 0 [.bool] [(.bool (.lit false))] [])))
        (.again 0 0 [.bool] [(.bool (.lit false))] []))
      (.ret (.bool (.var 20)) []))
      (.ite (.cmp .eql (.var 15) (.lit 11))
       (.join 0 [.bool] []
        (.chk (.cmp .geq (.var 13) (.lit 0))
        (.ite (.cmp .eql (.var 13) (.lit 0))
         (.call false 14 [] .bool []
         (.again 0 0 [.bool] [(.bool (.var 20))] []))
         (.again 0 0 [.bool] [(.bool (.lit false))] [])))
       (.ret (.bool (.var 20)) []))
       (.join 0 [.bool] []
        (.ite (.cmp .neq (.var 15) (.lit 0))
         (.again 0 0 [.bool] [(.bool (.lit true))] [])
         (.chk (.cmp .geq (.var 13) (.lit 0))
         (.chk (.cmp .geq (.var 8) (.lit 0))
         (.again 0 0 [.bool] [(.bool (.cmp .neq (.var 13) (.var 8)))] []))))
       (.ite (.var 20)
        (.ret (.bool (.lit false)) [])
        (.chk (.pick (.cmp .geq (.bin .rem .i64 (.conv .i64 (.var 3)) (.var 1)) (.lit 0)) (.pick (.cmp .lss (.bin .rem .i64 (.conv .i64 (.var 3)) (.var 1)) (.var 8)) (.some 7) (.lit false)) (.lit false))
        (.load 7 (.off (.bin .rem .i64 (.conv .i64 (.var 3)) (.var 1)) 1 (.lit 0)) [.sl] []
        (.chk (.pick (.cmp .geq (.bin .rem .i64 (.conv .i64 (.var 4)) (.lit 4)) (.lit 0)) (.pick (.cmp .lss (.bin .rem .i64 (.conv .i64 (.var 4)) (.lit 4)) (.var 22)) (.some 21) (.lit false)) (.lit false))
        (.chk (.pick (.cmp .geq (.off (.bin .rem .i64 (.conv .i64 (.var 4)) (.lit 4)) 2 (.lit 0)) (.lit 0)) (.some 21) (.lit false))
        (.load 21 (.off (.lit 1) 1 (.off (.bin .rem .i64 (.conv .i64 (.var 4)) (.lit 4)) 2 (.lit 0))) [.sl] []
        (.chk (.cmp .geq (.var 25) (.lit 0))
        (.join 0 [(.int .i64), (.int .i64)] []
         (.loop 1 [(.int .i64), (.int .i64)] [(.int .i64 (.var 25)), (.int .i64 (.lit 0))] [] []
          (.ite (.cmp .lss (.var 28) (.var 27))
           (.loop 2 [.bool, (.int .i64)] [(.bool (.lit true)), (.int .i64 (.lit 0))] [] []
            (.chk (.cmp .geq (.var 8) (.lit 0))
            (.ite (.cmp .lss (.var 30) (.var 8))
             (.chk (.pick (.cmp .geq (.var 30) (.lit 0)) (.pick (.cmp .lss (.var 30) (.var 8)) (.some 7) (.lit false)) (.lit false))
             (.load 7 (.off (.var 30) 1 (.lit 0)) [.sl] []
             (.chk (.pick (.cmp .geq (.bin .rem .i64 (.conv .i64 (.var 4)) (.lit 4)) (.lit 0)) (.pick (.cmp .lss (.bin .rem .i64 (.conv .i64 (.var 4)) (.lit 4)) (.var 32)) (.some 31) (.lit false)) (.lit false))
             (.chk (.pick (.cmp .geq (.off (.bin .rem .i64 (.conv .i64 (.var 4)) (.lit 4)) 2 (.lit 0)) (.lit 0)) (.some 31) (.lit false))
             (.load 31 (.off (.lit 1) 1 (.off (.bin .rem .i64 (.conv .i64 (.var 4)) (.lit 4)) 2 (.lit 0))) [.sl] []
             (.join 3 [.bool] []
              (.ite (.var 29)
               (.chk (.pick (.cmp .geq (.var 30) (.lit 0)) (.pick (.cmp .lss (.var 30) (.var 8)) (.some 7) (.lit false)) (.lit false))
               (.load 7 (.off (.var 30) 1 (.lit 0)) [.sl] []
               (.chk (.pick (.cmp .geq (.bin .rem .i64 (.conv .i64 (.var 4)) (.lit 4)) (.lit 0)) (.pick (.cmp .lss (.bin .rem .i64 (.conv .i64 (.var 4)) (.lit 4)) (.var 38)) (.some 37) (.lit false)) (.lit false))
               (.chk (.pick (.cmp .geq (.off (.bin .rem .i64 (.conv .i64 (.var 4)) (.lit 4)) 2 (.lit 0)) (.lit 0)) (.some 37) (.lit false))
               (.load 37 (.off (.bin .rem .i64 (.conv .i64 (.var 4)) (.lit 4)) 2 (.lit 0)) [.bool] []
               (.ite (.not (.var 40))
                (.again 3 0 [.bool] [(.bool (.lit true))] [])
                (.chk (.cmp .geq (.var 35) (.lit 0))
                (.ite (.cmp .gtr (.var 35) (.var 28))
                 (.chk (.cmp .geq (.var 35) (.lit 0))
                 (.chk (.pick (.cmp .geq (.bin .sub .i64 (.bin .sub .i64 (.var 35) (.lit 1)) (.var 28)) (.lit 0)) (.pick (.cmp .lss (.bin .sub .i64 (.bin .sub .i64 (.var 35) (.lit 1)) (.var 28)) (.var 35)) (.some 34) (.lit false)) (.lit false))
                 (.load 34 (.off (.bin .sub .i64 (.bin .sub .i64 (.var 35) (.lit 1)) (.var 28)) 2 (.lit 0)) [(.int .u32), (.int .u32)] []
                 (.chk (.pick (.cmp .geq (.bin .rem .i64 (.conv .i64 (.var 3)) (.var 1)) (.lit 0)) (.pick (.cmp .lss (.bin .rem .i64 (.conv .i64 (.var 3)) (.var 1)) (.var 8)) (.some 7) (.lit false)) (.lit false))
                 (.load 7 (.off (.bin .rem .i64 (.conv .i64 (.var 3)) (.var 1)) 1 (.lit 0)) [.sl] []
                 (.chk (.pick (.cmp .geq (.bin .rem .i64 (.conv .i64 (.var 4)) (.lit 4)) (.lit 0)) (.pick (.cmp .lss (.bin .rem .i64 (.conv .i64 (.var 4)) (.lit 4)) (.var 44)) (.some 43) (.lit false)) (.lit false))
                 (.chk (.pick (.cmp .geq (.off (.bin .rem .i64 (.conv .i64 (.var 4)) (.lit 4)) 2 (.lit 0)) (.lit 0)) (.some 43) (.lit false))
                 (.load 43 (.off (.lit 1) 1 (.off (.bin .rem .i64 (.conv .i64 (.var 4)) (.lit 4)) 2 (.lit 0))) [.sl] []
                 (.chk (.pick (.cmp .geq (.bin .rem .i64 (.conv .i64 (.var 3)) (.var 1)) (.lit 0)) (.pick (.cmp .lss (.bin .rem .i64 (.conv .i64 (.var 3)) (.var 1)) (.var 8)) (.some 7) (.lit false)) (.lit false))
                 (.load 7 (.off (.bin .rem .i64 (.conv .i64 (.var 3)) (.var 1)) 1 (.lit 0)) [.sl] []
                 (.chk (.pick (.cmp .geq (.bin .rem .i64 (.conv .i64 (.var 4)) (.lit 4)) (.lit 0)) (.pick (.cmp .lss (.bin .rem .i64 (.conv .i64 (.var 4)) (.lit 4)) (.var 50)) (.some 49) (.lit false)) (.lit false))
                 (.chk (.pick (.cmp .geq (.off (.bin .rem .i64 (.conv .i64 (.var 4)) (.lit 4)) 2 (.lit 0)) (.lit 0)) (.some 49) (.lit false))
                 (.load 49 (.off (.lit 1) 1 (.off (.bin .rem .i64 (.conv .i64 (.var 4)) (.lit 4)) 2 (.lit 0))) [.sl] []
                 (.chk (.cmp .geq (.var 53) (.lit 0))
                 (.chk (.pick (.cmp .geq (.bin .sub .i64 (.bin .sub .i64 (.var 53) (.lit 1)) (.var 28)) (.lit 0)) (.pick (.cmp .lss (.bin .sub .i64 (.bin .sub .i64 (.var 53) (.lit 1)) (.var 28)) (.var 47)) (.some 46) (.lit false)) (.lit false))
                 (.load 46 (.off (.bin .sub .i64 (.bin .sub .i64 (.var 53) (.lit 1)) (.var 28)) 2 (.lit 0)) [(.int .u32), (.int .u32)] []
                 (.again 3 0 [.bool] [(.bool (.pick (.cmp .eql (.var 41) (.var 55)) (.cmp .eql (.var 42) (.var 56)) (.lit false)))] [])))))))))))))))))
                 (.again 3 0 [.bool] [(.bool (.lit false))] [])))))))))
               (.again 3 0 [.bool] [(.bool (.lit false))] []))
             (.again 2 0 [.bool, (.int .i64)] [(.bool (.var 37)), (.int .i64 (.bin .add .i64 (.var 30) (.lit 1)))] [])))))))
             (.ite (.not (.var 29))
              (.chk (.pick (.cmp .geq (.bin .rem .i64 (.conv .i64 (.var 3)) (.var 1)) (.lit 0)) (.pick (.cmp .lss (.bin .rem .i64 (.conv .i64 (.var 3)) (.var 1)) (.var 8)) (.some 7) (.lit false)) (.lit false))
              (.load 7 (.off (.bin .rem .i64 (.conv .i64 (.var 3)) (.var 1)) 1 (.lit 0)) [.sl] []
              (.chk (.pick (.cmp .geq (.bin .rem .i64 (.conv .i64 (.var 4)) (.lit 4)) (.lit 0)) (.pick (.cmp .lss (.bin .rem .i64 (.conv .i64 (.var 4)) (.lit 4)) (.var 32)) (.some 31) (.lit false)) (.lit false))
              (.chk (.pick (.cmp .geq (.off (.bin .rem .i64 (.conv .i64 (.var 4)) (.lit 4)) 2 (.lit 0)) (.lit 0)) (.some 31) (.lit false))
              (.load 31 (.off (.lit 1) 1 (.off (.bin .rem .i64 (.conv .i64 (.var 4)) (.lit 4)) 2 (.lit 0))) [.sl] []
              (.chk (.cmp .geq (.var 35) (.lit 0))
              (.again 0 0 [(.int .i64), (.int .i64)] [(.int .i64 (.bin .sub .i64 (.var 35) (.var 28))), (.int .i64 (.var 28))] [])))))))
              (.join 2 [(.int .i64)] []
               (.ite (.cmp .eql (.var 28) (.bin .sub .i64 (.var 27) (.lit 1)))
                (.again 2 0 [(.int .i64)] [(.int .i64 (.lit 0))] [])
                (.again 2 0 [(.int .i64)] [(.int .i64 (.var 27))] []))
              (.again 1 0 [(.int .i64), (.int .i64)] [(.int .i64 (.var 31)), (.int .i64 (.bin .add .i64 (.var 28) (.lit 1)))] []))))))
           (.again 0 0 [(.int .i64), (.int .i64)] [(.int .i64 (.var 27)), (.int .i64 (.var 28))] [])))
        (.loop 0 [.bool, (.int .i64)] [(.bool (.var 6)), (.int .i64 (.lit 0))] [] []
         (.chk (.cmp .geq (.var 8) (.lit 0))
         (.ite (.cmp .lss (.var 30) (.var 8))
          (.chk (.pick (.cmp .geq (.var 30) (.lit 0)) (.pick (.cmp .lss (.var 30) (.var 13)) (.some 12) (.lit false)) (.lit false))
          (.load 12 (.off (.var 30) 1 (.lit 0)) [.sl] []
          (.chk (.cmp .geq (.var 32) (.lit 0))
          (.ite (.cmp .neq (.var 32) (.lit 4))
           (.ret (.bool (.lit false)) [])
           (.loop 1 [.bool, (.int .i64)] [(.bool (.var 29)), (.int .i64 (.lit 0))] [] []
            (.ite (.cmp .lss (.var 35) (.lit 4))
             (.chk (.pick (.cmp .geq (.var 30) (.lit 0)) (.pick (.cmp .lss (.var 30) (.var 8)) (.some 7) (.lit false)) (.lit false))
             (.load 7 (.off (.var 30) 1 (.lit 0)) [.sl] []
             (.chk (.pick (.cmp .geq (.var 35) (.lit 0)) (.pick (.cmp .lss (.var 35) (.var 37)) (.some 36) (.lit false)) (.lit false))
             (.load 36 (.off (.var 35) 2 (.lit 0)) [.bool, .sl] []
             (.chk (.pick (.cmp .geq (.var 30) (.lit 0)) (.pick (.cmp .lss (.var 30) (.var 13)) (.some 12) (.lit false)) (.lit false))
             (.load 12 (.off (.var 30) 1 (.lit 0)) [.sl] []
             (.chk (.pick (.cmp .geq (.var 35) (.lit 0)) (.pick (.cmp .lss (.var 35) (.var 44)) (.some 43) (.lit false)) (.lit false))
             (.load 43 (.off (.var 35) 2 (.lit 0)) [.bool, .sl] []
             (.alloc
             (.alloc
             (.apart [(.ptr 12 (.off (.var 30) 1 (.lit 0))), (.ptr 43 (.off (.var 35) 2 (.lit 0)))] [⟨[(.bool (.lit false)), (.cst (.slice none 0 0))], 41⟩, ⟨[(.bool (.lit false)), (.cst (.slice none 0 0))], 41⟩]
             (.join 2 [.bool] [⟨[(.bool (.var 39)), (.sl 40 (.lit 0) (.var 41) (.var 42))], 41⟩, ⟨[(.bool (.var 46)), (.sl 47 (.lit 0) (.var 48) (.var 49))], 41⟩]
              (.ite (.cmp .neq (.var 30) (.bin .rem .i64 (.conv .i64 (.var 3)) (.var 1)))
               (.ite (.beq (.var 39) (.var 46))
                (.call false 29 [(.sl 40 (.lit 0) (.var 41) (.var 42)), (.sl 47 (.lit 0) (.var 48) (.var 49))] .bool [⟨[(.bool (.var 39)), (.sl 40 (.lit 0) (.var 41) (.var 42))], 41⟩, ⟨[(.bool (.var 46)), (.sl 47 (.lit 0) (.var 48) (.var 49))], 41⟩]
                (.again 2 2 [.bool] [(.bool (.not (.var 50)))] [⟨[(.bool (.var 39)), (.sl 40 (.lit 0) (.var 41) (.var 42))], 41⟩, ⟨[(.bool (.var 46)), (.sl 47 (.lit 0) (.var 48) (.var 49))], 41⟩]))
                (.again 2 2 [.bool] [(.bool (.lit true))] [⟨[(.bool (.var 39)), (.sl 40 (.lit 0) (.var 41) (.var 42))], 41⟩, ⟨[(.bool (.var 46)), (.sl 47 (.lit 0) (.var 48) (.var 49))], 41⟩]))
               (.ite (.beq (.var 39) (.var 46))
                (.ite (.pick (.cmp .eql (.var 35) (.bin .rem .i64 (.conv .i64 (.var 4)) (.lit 4))) (.lit true) (.not (.var 39)))
                 (.call false 29 [(.sl 40 (.lit 0) (.var 41) (.var 42)), (.sl 47 (.lit 0) (.var 48) (.var 49))] .bool [⟨[(.bool (.var 39)), (.sl 40 (.lit 0) (.var 41) (.var 42))], 41⟩, ⟨[(.bool (.var 46)), (.sl 47 (.lit 0) (.var 48) (.var 49))], 41⟩]
                 (.again 2 2 [.bool] [(.bool (.not (.var 50)))] [⟨[(.bool (.var 39)), (.sl 40 (.lit 0) (.var 41) (.var 42))], 41⟩, ⟨[(.bool (.var 46)), (.sl 47 (.lit 0) (.var 48) (.var 49))], 41⟩]))
                 (.again 2 2 [.bool] [(.bool (.lit false))] [⟨[(.bool (.var 39)), (.sl 40 (.lit 0) (.var 41) (.var 42))], 41⟩, ⟨[(.bool (.var 46)), (.sl 47 (.lit 0) (.var 48) (.var 49))], 41⟩]))
                (.again 2 2 [.bool] [(.bool (.lit true))] [⟨[(.bool (.var 39)), (.sl 40 (.lit 0) (.var 41) (.var 42))], 41⟩, ⟨[(.bool (.var 46)), (.sl 47 (.lit 0) (.var 48) (.var 49))], 41⟩])))
             (.ite (.var 50)
              (.ret (.bool (.lit false)) [⟨[(.bool (.var 39)), (.sl 40 (.lit 0) (.var 41) (.var 42))], 41⟩, ⟨[(.bool (.var 46)), (.sl 47 (.lit 0) (.var 48) (.var 49))], 41⟩])
              (.join 2 [.bool] [⟨[(.bool (.var 39)), (.sl 40 (.lit 0) (.var 41) (.var 42))], 41⟩, ⟨[(.bool (.var 46)), (.sl 47 (.lit 0) (.var 48) (.var 49))], 41⟩]
               (.ite (.pick (.cmp .eql (.var 30) (.bin .rem .i64 (.conv .i64 (.var 3)) (.var 1))) (.var 39) (.lit false))
                (.chk (.cmp .geq (.var 48) (.lit 0))
                (.ite (.cmp .lss (.var 48) (.var 27))
                 (.again 2 2 [.bool] [(.bool (.lit true))] [⟨[(.bool (.var 39)), (.sl 40 (.lit 0) (.var 41) (.var 42))], 41⟩, ⟨[(.bool (.var 46)), (.sl 47 (.lit 0) (.var 48) (.var 49))], 41⟩])
                 (.chk (.pick (.cmp .leq (.lit 0) (.var 27)) (.cmp .leq (.var 27) (.var 49)) (.lit false))
                 (.chk (.pick (.cmp .geq (.bin .rem .i64 (.conv .i64 (.var 3)) (.var 1)) (.lit 0)) (.pick (.cmp .lss (.bin .rem .i64 (.conv .i64 (.var 3)) (.var 1)) (.var 8)) (.some 7) (.lit false)) (.lit false))
                 (.load 7 (.off (.bin .rem .i64 (.conv .i64 (.var 3)) (.var 1)) 1 (.lit 0)) [.sl] [⟨[(.bool (.var 39)), (.sl 40 (.lit 0) (.var 41) (.var 42))], 41⟩, ⟨[(.bool (.var 46)), (.sl 47 (.lit 0) (.var 48) (.var 49))], 41⟩]
                 (.chk (.pick (.cmp .geq (.bin .rem .i64 (.conv .i64 (.var 4)) (.lit 4)) (.lit 0)) (.pick (.cmp .lss (.bin .rem .i64 (.conv .i64 (.var 4)) (.lit 4)) (.var 52)) (.some 51) (.lit false)) (.lit false))
                 (.chk (.pick (.cmp .geq (.off (.bin .rem .i64 (.conv .i64 (.var 4)) (.lit 4)) 2 (.lit 0)) (.lit 0)) (.some 51) (.lit false))
                 (.load 51 (.off (.lit 1) 1 (.off (.bin .rem .i64 (.conv .i64 (.var 4)) (.lit 4)) 2 (.lit 0))) [.sl] [⟨[(.bool (.var 39)), (.sl 40 (.lit 0) (.var 41) (.var 42))], 41⟩, ⟨[(.bool (.var 46)), (.sl 47 (.lit 0) (.var 48) (.var 49))], 41⟩]
                 (.chk (.pick (.cmp .leq (.lit 0) (.var 27)) (.cmp .leq (.var 27) (.var 56)) (.lit false))
                 (.call false 29 [(.sl 47 (.ifeq (.var 49) (.lit 0) (.lit 0) (.lit 0)) (.var 27) (.var 49)), (.sl 54 (.ifeq (.var 56) (.lit 0) (.lit 0) (.lit 0)) (.var 27) (.var 56))] .bool [⟨[(.bool (.var 39)), (.sl 40 (.lit 0) (.var 41) (.var 42))], 41⟩, ⟨[(.bool (.var 46)), (.sl 47 (.lit 0) (.var 48) (.var 49))], 41⟩]
                 (.again 2 2 [.bool] [(.bool (.not (.var 57)))] [⟨[(.bool (.var 39)), (.sl 40 (.lit 0) (.var 41) (.var 42))], 41⟩, ⟨[(.bool (.var 46)), (.sl 47 (.lit 0) (.var 48) (.var 49))], 41⟩])))))))))))
                (.again 2 2 [.bool] [(.bool (.lit false))] [⟨[(.bool (.var 39)), (.sl 40 (.lit 0) (.var 41) (.var 42))], 41⟩, ⟨[(.bool (.var 46)), (.sl 47 (.lit 0) (.var 48) (.var 49))], 41⟩]))
              (.ite (.var 51)
               (.ret (.bool (.lit false)) [⟨[(.bool (.var 39)), (.sl 40 (.lit 0) (.var 41) (.var 42))], 41⟩, ⟨[(.bool (.var 46)), (.sl 47 (.lit 0) (.var 48) (.var 49))], 41⟩])
               (.again 1 0 [.bool, (.int .i64)] [(.bool (.var 34)), (.int .i64 (.bin .add .i64 (.var 35) (.lit 1)))] [⟨[(.bool (.var 39)), (.sl 40 (.lit 0) (.var 41) (.var 42))], 41⟩, ⟨[(.bool (.var 46)), (.sl 47 (.lit 0) (.var 48) (.var 49))], 41⟩]))))))))))))))))
             (.again 0 0 [.bool, (.int .i64)] [(.bool (.var 34)), (.int .i64 (.bin .add .i64 (.var 30) (.lit 1)))] [])))))))
          (.call false 14 [] .bool []
          (.ret (.bool (.var 31)) [])))))))))))))))))))))))))))))))
theorem S_law30_AnalogyLevel : FnIs Tryd.prog n_law30_AnalogyLevel [.sl, (.int .u8), (.int .u8)] T_law30_AnalogyLevel := ⟨Tryd.f7, [{ key := 200001, tmps := [(30, .bool)], join := true, dead := 12222215857058347722578512401732452197969380733162727601560078037249891421173319973554094136 }, { key := 200018, tmps := [], join := true }, { key := 200020, tmps := [], join := true }, { key := 200021, tmps := [(115, .bool)], join := true }, { key := 100004, tmps := [], join := true }, { key := 200032, tmps := [(16, .bool)], join := true }, { key := 36, tmps := [], join := true }, { key := 200046, tmps := [(269, .bool)], join := true }, { key := 200048, tmps := [(301, .bool)], join := true }], 4000, Tryd.func7, by kernel_rfl⟩
end Go.Proofs.YtpbbnmjkbfbelaaDoor
