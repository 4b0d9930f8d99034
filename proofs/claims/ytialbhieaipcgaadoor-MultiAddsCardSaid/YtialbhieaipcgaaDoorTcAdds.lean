/- The trees of this seat's functions, printed by a program of mine (SyGen), checked here by the kernel. -/
import Derived.Test.YtialbhieaipcgaaDoorSyDef
import Derived.Test.YtialbhieaipcgaaDoorProg
import Derived.KernelRfl
set_option maxRecDepth 100000
namespace Go.Proofs.YtialbhieaipcgaaDoor
open Go Go.Sy
/-! 8 ablaut/ablautlaw18.MultiAdds  -/
abbrev n_law18_MultiAdds : FuncId := 8
def T_law18_MultiAdds : Tree :=
 (.alloc
 (.join 0 [.bool] [⟨[(.sl 0 (.lit 0) (.var 1) (.var 2)), (.sl 3 (.lit 0) (.var 4) (.var 5)), (.sl 6 (.lit 0) (.var 7) (.var 8)), (.sl 9 (.lit 0) (.var 10) (.var 11)), (.int .i64 (.var 12))], 48⟩]
  (.call false 15 [(.sl 0 (.lit 0) (.var 1) (.var 2)), (.sl 3 (.lit 0) (.var 4) (.var 5))] .bool [⟨[(.sl 0 (.lit 0) (.var 1) (.var 2)), (.sl 3 (.lit 0) (.var 4) (.var 5)), (.sl 6 (.lit 0) (.var 7) (.var 8)), (.sl 9 (.lit 0) (.var 10) (.var 11)), (.int .i64 (.var 12))], 48⟩]
  (.ite (.not (.var 13))
   (.again 0 1 [.bool] [(.bool (.lit true))] [⟨[(.sl 0 (.lit 0) (.var 1) (.var 2)), (.sl 3 (.lit 0) (.var 4) (.var 5)), (.sl 6 (.lit 0) (.var 7) (.var 8)), (.sl 9 (.lit 0) (.var 10) (.var 11)), (.int .i64 (.var 12))], 48⟩])
   (.call false 19 [(.sl 0 (.lit 0) (.var 1) (.var 2))] .bool [⟨[(.sl 0 (.lit 0) (.var 1) (.var 2)), (.sl 3 (.lit 0) (.var 4) (.var 5)), (.sl 6 (.lit 0) (.var 7) (.var 8)), (.sl 9 (.lit 0) (.var 10) (.var 11)), (.int .i64 (.var 12))], 48⟩]
   (.ite (.not (.var 14))
    (.again 0 1 [.bool] [(.bool (.lit true))] [⟨[(.sl 0 (.lit 0) (.var 1) (.var 2)), (.sl 3 (.lit 0) (.var 4) (.var 5)), (.sl 6 (.lit 0) (.var 7) (.var 8)), (.sl 9 (.lit 0) (.var 10) (.var 11)), (.int .i64 (.var 12))], 48⟩])
    (.chk (.cmp .geq (.var 7) (.lit 0))
    (.again 0 1 [.bool] [(.bool (.cmp .gtr (.var 7) (.lit 100)))] [⟨[(.sl 0 (.lit 0) (.var 1) (.var 2)), (.sl 3 (.lit 0) (.var 4) (.var 5)), (.sl 6 (.lit 0) (.var 7) (.var 8)), (.sl 9 (.lit 0) (.var 10) (.var 11)), (.int .i64 (.var 12))], 48⟩]))))))
 (.ite (.var 13)
  (.call false 16 [] .bool [⟨[(.sl 0 (.lit 0) (.var 1) (.var 2)), (.sl 3 (.lit 0) (.var 4) (.var 5)), (.sl 6 (.lit 0) (.var 7) (.var 8)), (.sl 9 (.lit 0) (.var 10) (.var 11)), (.int .i64 (.var 12))], 48⟩]
  (.ret (.bool (.var 14)) [⟨[(.sl 0 (.lit 0) (.var 1) (.var 2)), (.sl 3 (.lit 0) (.var 4) (.var 5)), (.sl 6 (.lit 0) (.var 7) (.var 8)), (.sl 9 (.lit 0) (.var 10) (.var 11)), (.int .i64 (.var 12))], 48⟩]))
  (.loop 0 [.sl, (.int .i64)] [(.cst (.slice none 0 0)), (.int .i64 (.lit 0))] [⟨[(.sl 0 (.lit 0) (.var 1) (.var 2)), (.sl 3 (.lit 0) (.var 4) (.var 5)), (.sl 6 (.lit 0) (.var 7) (.var 8)), (.sl 9 (.lit 0) (.var 10) (.var 11)), (.int .i64 (.var 12))], 48⟩] [⟨[(.sl 0 (.lit 0) (.var 1) (.var 2)), (.sl 3 (.lit 0) (.var 4) (.var 5)), (.sl 6 (.lit 0) (.var 7) (.var 8)), (.sl 9 (.lit 0) (.var 10) (.var 11)), (.int .i64 (.var 12))], 48⟩]
   (.chk (.cmp .geq (.var 4) (.lit 0))
   (.ite (.cmp .lss (.var 17) (.var 4))
    (.alloc
    (.chk (.pick (.cmp .geq (.var 17) (.lit 0)) (.pick (.cmp .lss (.var 17) (.var 4)) (.some 3) (.lit false)) (.lit false))
    (.load 3 (.off (.var 17) 1 (.lit 0)) [.sl] [⟨[(.sl 0 (.lit 0) (.var 1) (.var 2)), (.sl 3 (.lit 0) (.var 4) (.var 5)), (.sl 6 (.lit 0) (.var 7) (.var 8)), (.sl 9 (.lit 0) (.var 10) (.var 11)), (.int .i64 (.var 12))], 48⟩, ⟨[], 3⟩]
    (.ext false ⟨(.call ⟨.builtin .append, #[(.tmp 0), (.tmp 0)], #[49, 49]⟩), 49, [(.slc 1 0 0 0), (.sl 18 (.lit 0) (.var 19) (.var 20))]⟩ .sl [⟨[(.sl 0 (.lit 0) (.var 1) (.var 2)), (.sl 3 (.lit 0) (.var 4) (.var 5)), (.sl 6 (.lit 0) (.var 7) (.var 8)), (.sl 9 (.lit 0) (.var 10) (.var 11)), (.int .i64 (.var 12))], 48⟩, ⟨[], 3⟩]
    (.alloc
    (.ext false ⟨(.call ⟨.builtin .append, #[(.tmp 0), (.tmp 0)], #[23, 23]⟩), 23, [(.sl 14 (.lit 0) (.var 15) (.var 16)), (.slc 2 0 1 1)]⟩ .sl [⟨[(.sl 0 (.lit 0) (.var 1) (.var 2)), (.sl 3 (.lit 0) (.var 4) (.var 5)), (.sl 6 (.lit 0) (.var 7) (.var 8)), (.sl 9 (.lit 0) (.var 10) (.var 11)), (.int .i64 (.var 12))], 48⟩, ⟨[], 3⟩, ⟨[(.sl 21 (.lit 0) (.var 22) (.var 23))], 49⟩]
    (.again 0 1 [.sl, (.int .i64)] [(.sl 24 (.lit 0) (.var 25) (.var 26)), (.int .i64 (.bin .add .i64 (.var 17) (.lit 1)))] [⟨[(.sl 0 (.lit 0) (.var 1) (.var 2)), (.sl 3 (.lit 0) (.var 4) (.var 5)), (.sl 6 (.lit 0) (.var 7) (.var 8)), (.sl 9 (.lit 0) (.var 10) (.var 11)), (.int .i64 (.var 12))], 48⟩, ⟨[], 3⟩, ⟨[(.sl 21 (.lit 0) (.var 22) (.var 23))], 49⟩])))))))
    (.call false 30 [(.sl 0 (.lit 0) (.var 1) (.var 2)), (.sl 3 (.lit 0) (.var 4) (.var 5)), (.sl 6 (.lit 0) (.var 7) (.var 8)), (.agg [(.sl 9 (.lit 0) (.var 10) (.var 11)), (.int .i64 (.var 12))])] (.tup [.sl, (.int .i64)]) [⟨[(.sl 0 (.lit 0) (.var 1) (.var 2)), (.sl 3 (.lit 0) (.var 4) (.var 5)), (.sl 6 (.lit 0) (.var 7) (.var 8)), (.sl 9 (.lit 0) (.var 10) (.var 11)), (.int .i64 (.var 12))], 48⟩]
    (.call false 31 [(.sl 0 (.lit 0) (.var 1) (.var 2)), (.sl 3 (.lit 0) (.var 4) (.var 5)), (.sl 6 (.lit 0) (.var 7) (.var 8)), (.agg [(.sl 9 (.lit 0) (.var 10) (.var 11)), (.int .i64 (.var 12))])] (.tup [.sl, (.int .i64)]) [⟨[(.sl 0 (.lit 0) (.var 1) (.var 2)), (.sl 3 (.lit 0) (.var 4) (.var 5)), (.sl 6 (.lit 0) (.var 7) (.var 8)), (.sl 9 (.lit 0) (.var 10) (.var 11)), (.int .i64 (.var 12))], 48⟩]
    (.join 0 [.bool] [⟨[(.sl 0 (.lit 0) (.var 1) (.var 2)), (.sl 3 (.lit 0) (.var 4) (.var 5)), (.sl 6 (.lit 0) (.var 7) (.var 8)), (.sl 9 (.lit 0) (.var 10) (.var 11)), (.int .i64 (.var 12))], 48⟩]
     (.ite (.cmp .neq (.var 21) (.var 25))
      (.again 0 1 [.bool] [(.bool (.lit true))] [⟨[(.sl 0 (.lit 0) (.var 1) (.var 2)), (.sl 3 (.lit 0) (.var 4) (.var 5)), (.sl 6 (.lit 0) (.var 7) (.var 8)), (.sl 9 (.lit 0) (.var 10) (.var 11)), (.int .i64 (.var 12))], 48⟩])
      (.call false 22 [(.sl 18 (.lit 0) (.var 19) (.var 20)), (.sl 22 (.lit 0) (.var 23) (.var 24))] .bool [⟨[(.sl 0 (.lit 0) (.var 1) (.var 2)), (.sl 3 (.lit 0) (.var 4) (.var 5)), (.sl 6 (.lit 0) (.var 7) (.var 8)), (.sl 9 (.lit 0) (.var 10) (.var 11)), (.int .i64 (.var 12))], 48⟩]
      (.again 0 1 [.bool] [(.bool (.not (.var 26)))] [⟨[(.sl 0 (.lit 0) (.var 1) (.var 2)), (.sl 3 (.lit 0) (.var 4) (.var 5)), (.sl 6 (.lit 0) (.var 7) (.var 8)), (.sl 9 (.lit 0) (.var 10) (.var 11)), (.int .i64 (.var 12))], 48⟩])))
    (.ite (.var 26)
     (.ret (.bool (.lit false)) [⟨[(.sl 0 (.lit 0) (.var 1) (.var 2)), (.sl 3 (.lit 0) (.var 4) (.var 5)), (.sl 6 (.lit 0) (.var 7) (.var 8)), (.sl 9 (.lit 0) (.var 10) (.var 11)), (.int .i64 (.var 12))], 48⟩])
     (.loop 0 [(.int .i64)] [(.int .i64 (.lit 0))] [⟨[(.sl 0 (.lit 0) (.var 1) (.var 2)), (.sl 3 (.lit 0) (.var 4) (.var 5)), (.sl 6 (.lit 0) (.var 7) (.var 8)), (.sl 9 (.lit 0) (.var 10) (.var 11)), (.int .i64 (.var 12))], 48⟩] [⟨[(.sl 0 (.lit 0) (.var 1) (.var 2)), (.sl 3 (.lit 0) (.var 4) (.var 5)), (.sl 6 (.lit 0) (.var 7) (.var 8)), (.sl 9 (.lit 0) (.var 10) (.var 11)), (.int .i64 (.var 12))], 48⟩]
      (.chk (.cmp .geq (.var 19) (.lit 0))
      (.ite (.cmp .lss (.var 27) (.var 19))
       (.loop 1 [(.int .i64)] [(.int .i64 (.lit 0))] [⟨[(.sl 0 (.lit 0) (.var 1) (.var 2)), (.sl 3 (.lit 0) (.var 4) (.var 5)), (.sl 6 (.lit 0) (.var 7) (.var 8)), (.sl 9 (.lit 0) (.var 10) (.var 11)), (.int .i64 (.var 12))], 48⟩] [⟨[(.sl 0 (.lit 0) (.var 1) (.var 2)), (.sl 3 (.lit 0) (.var 4) (.var 5)), (.sl 6 (.lit 0) (.var 7) (.var 8)), (.sl 9 (.lit 0) (.var 10) (.var 11)), (.int .i64 (.var 12))], 48⟩]
        (.chk (.pick (.cmp .geq (.var 27) (.lit 0)) (.pick (.cmp .lss (.var 27) (.var 19)) (.some 18) (.lit false)) (.lit false))
        (.load 18 (.off (.var 27) 1 (.lit 0)) [.sl] [⟨[(.sl 0 (.lit 0) (.var 1) (.var 2)), (.sl 3 (.lit 0) (.var 4) (.var 5)), (.sl 6 (.lit 0) (.var 7) (.var 8)), (.sl 9 (.lit 0) (.var 10) (.var 11)), (.int .i64 (.var 12))], 48⟩]
        (.chk (.cmp .geq (.var 30) (.lit 0))
        (.ite (.cmp .lss (.var 28) (.var 30))
         (.chk (.pick (.cmp .geq (.var 27) (.lit 0)) (.pick (.cmp .lss (.var 27) (.var 19)) (.some 18) (.lit false)) (.lit false))
         (.load 18 (.off (.var 27) 1 (.lit 0)) [.sl] [⟨[(.sl 0 (.lit 0) (.var 1) (.var 2)), (.sl 3 (.lit 0) (.var 4) (.var 5)), (.sl 6 (.lit 0) (.var 7) (.var 8)), (.sl 9 (.lit 0) (.var 10) (.var 11)), (.int .i64 (.var 12))], 48⟩]
         (.chk (.pick (.cmp .geq (.var 28) (.lit 0)) (.pick (.cmp .lss (.var 28) (.var 33)) (.some 32) (.lit false)) (.lit false))
         (.store false 32 (.off (.var 28) 1 (.lit 0)) [(.int .i64 (.lit (-9)))] [⟨[(.sl 0 (.lit 0) (.var 1) (.var 2)), (.sl 3 (.lit 0) (.var 4) (.var 5)), (.sl 6 (.lit 0) (.var 7) (.var 8)), (.sl 9 (.lit 0) (.var 10) (.var 11)), (.int .i64 (.var 12))], 48⟩]
         (.again 1 1 [(.int .i64)] [(.int .i64 (.bin .add .i64 (.var 28) (.lit 1)))] [⟨[(.sl 0 (.lit 0) (.var 1) (.var 2)), (.sl 3 (.lit 0) (.var 4) (.var 5)), (.sl 6 (.lit 0) (.var 7) (.var 8)), (.sl 9 (.lit 0) (.var 10) (.var 11)), (.int .i64 (.var 12))], 48⟩])))))
         (.again 0 1 [(.int .i64)] [(.int .i64 (.bin .add .i64 (.var 27) (.lit 1)))] [⟨[(.sl 0 (.lit 0) (.var 1) (.var 2)), (.sl 3 (.lit 0) (.var 4) (.var 5)), (.sl 6 (.lit 0) (.var 7) (.var 8)), (.sl 9 (.lit 0) (.var 10) (.var 11)), (.int .i64 (.var 12))], 48⟩]))))))
       (.join 0 [.bool] [⟨[(.sl 0 (.lit 0) (.var 1) (.var 2)), (.sl 3 (.lit 0) (.var 4) (.var 5)), (.sl 6 (.lit 0) (.var 7) (.var 8)), (.sl 9 (.lit 0) (.var 10) (.var 11)), (.int .i64 (.var 12))], 48⟩]
        (.call false 22 [(.sl 3 (.lit 0) (.var 4) (.var 5)), (.sl 14 (.lit 0) (.var 15) (.var 16))] .bool [⟨[(.sl 0 (.lit 0) (.var 1) (.var 2)), (.sl 3 (.lit 0) (.var 4) (.var 5)), (.sl 6 (.lit 0) (.var 7) (.var 8)), (.sl 9 (.lit 0) (.var 10) (.var 11)), (.int .i64 (.var 12))], 48⟩]
        (.ite (.var 28)
         (.call false 16 [] .bool [⟨[(.sl 0 (.lit 0) (.var 1) (.var 2)), (.sl 3 (.lit 0) (.var 4) (.var 5)), (.sl 6 (.lit 0) (.var 7) (.var 8)), (.sl 9 (.lit 0) (.var 10) (.var 11)), (.int .i64 (.var 12))], 48⟩]
         (.again 0 1 [.bool] [(.bool (.var 29))] [⟨[(.sl 0 (.lit 0) (.var 1) (.var 2)), (.sl 3 (.lit 0) (.var 4) (.var 5)), (.sl 6 (.lit 0) (.var 7) (.var 8)), (.sl 9 (.lit 0) (.var 10) (.var 11)), (.int .i64 (.var 12))], 48⟩]))
         (.again 0 1 [.bool] [(.bool (.lit false))] [⟨[(.sl 0 (.lit 0) (.var 1) (.var 2)), (.sl 3 (.lit 0) (.var 4) (.var 5)), (.sl 6 (.lit 0) (.var 7) (.var 8)), (.sl 9 (.lit 0) (.var 10) (.var 11)), (.int .i64 (.var 12))], 48⟩])))
       (.ret (.bool (.var 28)) [⟨[(.sl 0 (.lit 0) (.var 1) (.var 2)), (.sl 3 (.lit 0) (.var 4) (.var 5)), (.sl 6 (.lit 0) (.var 7) (.var 8)), (.sl 9 (.lit 0) (.var 10) (.var 11)), (.int .i64 (.var 12))], 48⟩])))))))))))))))
theorem S_law18_MultiAdds : FnIs Tryd.prog n_law18_MultiAdds [(.agg [.sl, .sl, .sl, .sl, (.int .i64)])] T_law18_MultiAdds := ⟨Tryd.f8, [{ key := 200001, tmps := [(28, .bool)], join := true, dead := 324513591622400118537690990770176 }, { key := 200010, tmps := [(79, .bool)], join := true }, { key := 200019, tmps := [], join := true }], 4000, Tryd.func8, by kernel_rfl⟩
end Go.Proofs.YtialbhieaipcgaaDoor
