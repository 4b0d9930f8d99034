/- The trees of this seat's functions, printed by a program of mine (SyGen), checked here by the kernel. -/
import Derived.Test.YtedfogpnmpmggaaDoorSyDef
import Derived.Test.YtedfogpnmpmggaaDoorProg
import Derived.KernelRfl
set_option maxRecDepth 100000
namespace Go.Proofs.YtedfogpnmpmggaaDoor
open Go Go.Sy
/-! 16 ablaut/ablautref17.Dist  -/
abbrev n_ref17_Dist : FuncId := 16
def T_ref17_Dist : Tree :=
 (.alloc
 (.alloc
 (.call false 42 [(.agg [(.sl 6 (.lit 0) (.var 7) (.var 8)), (.int .i64 (.var 9))]), (.slc 1 0 2 2)] (.int .i64) [⟨[(.sl 6 (.lit 0) (.var 7) (.var 8)), (.int .i64 (.var 9))], 25⟩, ⟨[(.sl 0 (.lit 0) (.var 1) (.var 2)), (.sl 3 (.lit 0) (.var 4) (.var 5))], 22⟩]
 (.ite (.cmp .neq (.var 10) (.lit 0))
  (.ret (.tup [(.int .i64 (.lit 0)), (.int .i64 (.var 10))]) [⟨[(.sl 6 (.lit 0) (.var 7) (.var 8)), (.int .i64 (.var 9))], 25⟩, ⟨[(.sl 0 (.lit 0) (.var 1) (.var 2)), (.sl 3 (.lit 0) (.var 4) (.var 5))], 22⟩])
  (.call false 43 [(.sl 0 (.lit 0) (.var 1) (.var 2)), (.sl 3 (.lit 0) (.var 4) (.var 5)), (.agg [(.sl 6 (.lit 0) (.var 7) (.var 8)), (.int .i64 (.var 9))])] .sl [⟨[(.sl 6 (.lit 0) (.var 7) (.var 8)), (.int .i64 (.var 9))], 25⟩, ⟨[(.sl 0 (.lit 0) (.var 1) (.var 2)), (.sl 3 (.lit 0) (.var 4) (.var 5))], 22⟩]
  (.chk (.pick (.cmp .lss (.lit 0) (.var 12)) (.some 11) (.lit false))
  (.load 11 (.lit 0) [.sl] [⟨[(.sl 6 (.lit 0) (.var 7) (.var 8)), (.int .i64 (.var 9))], 25⟩, ⟨[(.sl 0 (.lit 0) (.var 1) (.var 2)), (.sl 3 (.lit 0) (.var 4) (.var 5))], 22⟩]
  (.chk (.pick (.cmp .lss (.lit 0) (.var 15)) (.some 14) (.lit false))
  (.load 14 (.lit 0) [(.int .i64)] [⟨[(.sl 6 (.lit 0) (.var 7) (.var 8)), (.int .i64 (.var 9))], 25⟩, ⟨[(.sl 0 (.lit 0) (.var 1) (.var 2)), (.sl 3 (.lit 0) (.var 4) (.var 5))], 22⟩]
  (.ret (.tup [(.int .i64 (.var 17)), (.int .i64 (.lit 0))]) [⟨[(.sl 6 (.lit 0) (.var 7) (.var 8)), (.int .i64 (.var 9))], 25⟩, ⟨[(.sl 0 (.lit 0) (.var 1) (.var 2)), (.sl 3 (.lit 0) (.var 4) (.var 5))], 22⟩]))))))))))
theorem S_ref17_Dist : FnIs Tryd.prog n_ref17_Dist [.sl, .sl, (.agg [.sl, (.int .i64)])] T_ref17_Dist := ⟨Tryd.f16, [], 4000, Tryd.func16, by kernel_rfl⟩
/-! 18 ablaut/ablautref17.Align  -/
abbrev n_ref17_Align : FuncId := 18
def T_ref17_Align : Tree :=
 (.alloc
 (.alloc
 (.call false 42 [(.agg [(.sl 6 (.lit 0) (.var 7) (.var 8)), (.int .i64 (.var 9))]), (.slc 1 0 2 2)] (.int .i64) [⟨[(.sl 6 (.lit 0) (.var 7) (.var 8)), (.int .i64 (.var 9))], 25⟩, ⟨[(.sl 0 (.lit 0) (.var 1) (.var 2)), (.sl 3 (.lit 0) (.var 4) (.var 5))], 22⟩]
 (.ite (.cmp .neq (.var 10) (.lit 0))
  (.ret (.tup [(.cst (.slice none 0 0)), (.int .i64 (.var 10))]) [⟨[(.sl 6 (.lit 0) (.var 7) (.var 8)), (.int .i64 (.var 9))], 25⟩, ⟨[(.sl 0 (.lit 0) (.var 1) (.var 2)), (.sl 3 (.lit 0) (.var 4) (.var 5))], 22⟩])
  (.call false 43 [(.sl 0 (.lit 0) (.var 1) (.var 2)), (.sl 3 (.lit 0) (.var 4) (.var 5)), (.agg [(.sl 6 (.lit 0) (.var 7) (.var 8)), (.int .i64 (.var 9))])] .sl [⟨[(.sl 6 (.lit 0) (.var 7) (.var 8)), (.int .i64 (.var 9))], 25⟩, ⟨[(.sl 0 (.lit 0) (.var 1) (.var 2)), (.sl 3 (.lit 0) (.var 4) (.var 5))], 22⟩]
  (.loop 0 [.sl, (.int .i64), (.int .i64)] [(.cst (.slice none 0 0)), (.int .i64 (.lit 0)), (.int .i64 (.lit 0))] [⟨[(.sl 6 (.lit 0) (.var 7) (.var 8)), (.int .i64 (.var 9))], 25⟩, ⟨[(.sl 0 (.lit 0) (.var 1) (.var 2)), (.sl 3 (.lit 0) (.var 4) (.var 5))], 22⟩] [⟨[(.sl 6 (.lit 0) (.var 7) (.var 8)), (.int .i64 (.var 9))], 25⟩, ⟨[(.sl 0 (.lit 0) (.var 1) (.var 2)), (.sl 3 (.lit 0) (.var 4) (.var 5))], 22⟩]
   (.join 1 [.bool] [⟨[(.sl 6 (.lit 0) (.var 7) (.var 8)), (.int .i64 (.var 9))], 25⟩, ⟨[(.sl 0 (.lit 0) (.var 1) (.var 2)), (.sl 3 (.lit 0) (.var 4) (.var 5))], 22⟩]
    (.chk (.cmp .geq (.var 1) (.lit 0))
    (.ite (.cmp .lss (.var 17) (.var 1))
     (.again 1 2 [.bool] [(.bool (.lit true))] [⟨[(.sl 6 (.lit 0) (.var 7) (.var 8)), (.int .i64 (.var 9))], 25⟩, ⟨[(.sl 0 (.lit 0) (.var 1) (.var 2)), (.sl 3 (.lit 0) (.var 4) (.var 5))], 22⟩])
     (.chk (.cmp .geq (.var 4) (.lit 0))
     (.again 1 2 [.bool] [(.bool (.cmp .lss (.var 18) (.var 4)))] [⟨[(.sl 6 (.lit 0) (.var 7) (.var 8)), (.int .i64 (.var 9))], 25⟩, ⟨[(.sl 0 (.lit 0) (.var 1) (.var 2)), (.sl 3 (.lit 0) (.var 4) (.var 5))], 22⟩]))))
   (.ite (.var 19)
    (.join 1 [.sl, (.int .i64), (.int .i64)] [⟨[(.sl 6 (.lit 0) (.var 7) (.var 8)), (.int .i64 (.var 9))], 25⟩, ⟨[(.sl 0 (.lit 0) (.var 1) (.var 2)), (.sl 3 (.lit 0) (.var 4) (.var 5))], 22⟩]
     (.join 2 [.bool] [⟨[(.sl 6 (.lit 0) (.var 7) (.var 8)), (.int .i64 (.var 9))], 25⟩, ⟨[(.sl 0 (.lit 0) (.var 1) (.var 2)), (.sl 3 (.lit 0) (.var 4) (.var 5))], 22⟩]
      (.chk (.cmp .geq (.var 1) (.lit 0))
      (.ite (.cmp .lss (.var 17) (.var 1))
       (.chk (.cmp .geq (.var 4) (.lit 0))
       (.again 2 2 [.bool] [(.bool (.cmp .lss (.var 18) (.var 4)))] [⟨[(.sl 6 (.lit 0) (.var 7) (.var 8)), (.int .i64 (.var 9))], 25⟩, ⟨[(.sl 0 (.lit 0) (.var 1) (.var 2)), (.sl 3 (.lit 0) (.var 4) (.var 5))], 22⟩]))
       (.again 2 2 [.bool] [(.bool (.lit false))] [⟨[(.sl 6 (.lit 0) (.var 7) (.var 8)), (.int .i64 (.var 9))], 25⟩, ⟨[(.sl 0 (.lit 0) (.var 1) (.var 2)), (.sl 3 (.lit 0) (.var 4) (.var 5))], 22⟩])))
     (.join 2 [.sl, (.int .i64), (.int .i64)] [⟨[(.sl 6 (.lit 0) (.var 7) (.var 8)), (.int .i64 (.var 9))], 25⟩, ⟨[(.sl 0 (.lit 0) (.var 1) (.var 2)), (.sl 3 (.lit 0) (.var 4) (.var 5))], 22⟩]
      (.ite (.var 20)
       (.chk (.pick (.cmp .geq (.var 17) (.lit 0)) (.pick (.cmp .lss (.var 17) (.var 1)) (.some 0) (.lit false)) (.lit false))
       (.load 0 (.off (.var 17) 2 (.lit 0)) [(.int .u32), (.int .u32)] [⟨[(.sl 6 (.lit 0) (.var 7) (.var 8)), (.int .i64 (.var 9))], 25⟩, ⟨[(.sl 0 (.lit 0) (.var 1) (.var 2)), (.sl 3 (.lit 0) (.var 4) (.var 5))], 22⟩]
       (.chk (.pick (.cmp .geq (.var 18) (.lit 0)) (.pick (.cmp .lss (.var 18) (.var 4)) (.some 3) (.lit false)) (.lit false))
       (.load 3 (.off (.var 18) 2 (.lit 0)) [(.int .u32), (.int .u32)] [⟨[(.sl 6 (.lit 0) (.var 7) (.var 8)), (.int .i64 (.var 9))], 25⟩, ⟨[(.sl 0 (.lit 0) (.var 1) (.var 2)), (.sl 3 (.lit 0) (.var 4) (.var 5))], 22⟩]
       (.call false 45 [(.agg [(.int .u32 (.var 21)), (.int .u32 (.var 22))]), (.agg [(.int .u32 (.var 23)), (.int .u32 (.var 24))]), (.agg [(.sl 6 (.lit 0) (.var 7) (.var 8)), (.int .i64 (.var 9))])] (.tup [(.int .i64), (.int .i64)]) [⟨[(.sl 6 (.lit 0) (.var 7) (.var 8)), (.int .i64 (.var 9))], 25⟩, ⟨[(.sl 0 (.lit 0) (.var 1) (.var 2)), (.sl 3 (.lit 0) (.var 4) (.var 5))], 22⟩]
       (.chk (.pick (.cmp .geq (.bin .add .i64 (.var 17) (.lit 1)) (.lit 0)) (.pick (.cmp .lss (.bin .add .i64 (.var 17) (.lit 1)) (.var 12)) (.some 11) (.lit false)) (.lit false))
       (.load 11 (.off (.bin .add .i64 (.var 17) (.lit 1)) 1 (.lit 0)) [.sl] [⟨[(.sl 6 (.lit 0) (.var 7) (.var 8)), (.int .i64 (.var 9))], 25⟩, ⟨[(.sl 0 (.lit 0) (.var 1) (.var 2)), (.sl 3 (.lit 0) (.var 4) (.var 5))], 22⟩]
       (.chk (.pick (.cmp .geq (.bin .add .i64 (.var 18) (.lit 1)) (.lit 0)) (.pick (.cmp .lss (.bin .add .i64 (.var 18) (.lit 1)) (.var 28)) (.some 27) (.lit false)) (.lit false))
       (.load 27 (.off (.bin .add .i64 (.var 18) (.lit 1)) 1 (.lit 0)) [(.int .i64)] [⟨[(.sl 6 (.lit 0) (.var 7) (.var 8)), (.int .i64 (.var 9))], 25⟩, ⟨[(.sl 0 (.lit 0) (.var 1) (.var 2)), (.sl 3 (.lit 0) (.var 4) (.var 5))], 22⟩]
       (.chk (.pick (.cmp .geq (.var 17) (.lit 0)) (.pick (.cmp .lss (.var 17) (.var 12)) (.some 11) (.lit false)) (.lit false))
       (.load 11 (.off (.var 17) 1 (.lit 0)) [.sl] [⟨[(.sl 6 (.lit 0) (.var 7) (.var 8)), (.int .i64 (.var 9))], 25⟩, ⟨[(.sl 0 (.lit 0) (.var 1) (.var 2)), (.sl 3 (.lit 0) (.var 4) (.var 5))], 22⟩]
       (.chk (.pick (.cmp .geq (.var 18) (.lit 0)) (.pick (.cmp .lss (.var 18) (.var 32)) (.some 31) (.lit false)) (.lit false))
       (.load 31 (.off (.var 18) 1 (.lit 0)) [(.int .i64)] [⟨[(.sl 6 (.lit 0) (.var 7) (.var 8)), (.int .i64 (.var 9))], 25⟩, ⟨[(.sl 0 (.lit 0) (.var 1) (.var 2)), (.sl 3 (.lit 0) (.var 4) (.var 5))], 22⟩]
       (.ite (.cmp .eql (.bin .add .i64 (.var 25) (.var 30)) (.var 34))
        (.alloc
        (.ext false ⟨(.call ⟨.builtin .append, #[(.tmp 0), (.tmp 0)], #[33, 33]⟩), 33, [(.sl 14 (.lit 0) (.var 15) (.var 16)), (.slc 2 0 1 1)]⟩ .sl [⟨[(.sl 6 (.lit 0) (.var 7) (.var 8)), (.int .i64 (.var 9))], 25⟩, ⟨[(.sl 0 (.lit 0) (.var 1) (.var 2)), (.sl 3 (.lit 0) (.var 4) (.var 5))], 22⟩, ⟨[(.int .i64 (.var 17)), (.int .i64 (.var 18))], 57⟩]
        (.again 1 2 [.sl, (.int .i64), (.int .i64)] [(.sl 35 (.lit 0) (.var 36) (.var 37)), (.int .i64 (.bin .add .i64 (.var 17) (.lit 1))), (.int .i64 (.bin .add .i64 (.var 18) (.lit 1)))] [⟨[(.sl 6 (.lit 0) (.var 7) (.var 8)), (.int .i64 (.var 9))], 25⟩, ⟨[(.sl 0 (.lit 0) (.var 1) (.var 2)), (.sl 3 (.lit 0) (.var 4) (.var 5))], 22⟩, ⟨[(.int .i64 (.var 17)), (.int .i64 (.var 18))], 57⟩])))
        (.again 2 2 [.sl, (.int .i64), (.int .i64)] [(.sl 14 (.lit 0) (.var 15) (.var 16)), (.int .i64 (.var 17)), (.int .i64 (.var 18))] [⟨[(.sl 6 (.lit 0) (.var 7) (.var 8)), (.int .i64 (.var 9))], 25⟩, ⟨[(.sl 0 (.lit 0) (.var 1) (.var 2)), (.sl 3 (.lit 0) (.var 4) (.var 5))], 22⟩])))))))))))))))
       (.again 2 2 [.sl, (.int .i64), (.int .i64)] [(.sl 14 (.lit 0) (.var 15) (.var 16)), (.int .i64 (.var 17)), (.int .i64 (.var 18))] [⟨[(.sl 6 (.lit 0) (.var 7) (.var 8)), (.int .i64 (.var 9))], 25⟩, ⟨[(.sl 0 (.lit 0) (.var 1) (.var 2)), (.sl 3 (.lit 0) (.var 4) (.var 5))], 22⟩]))
     (.join 2 [.bool] [⟨[(.sl 6 (.lit 0) (.var 7) (.var 8)), (.int .i64 (.var 9))], 25⟩, ⟨[(.sl 0 (.lit 0) (.var 1) (.var 2)), (.sl 3 (.lit 0) (.var 4) (.var 5))], 22⟩]
      (.chk (.cmp .geq (.var 1) (.lit 0))
      (.ite (.cmp .lss (.var 24) (.var 1))
       (.chk (.pick (.cmp .geq (.bin .add .i64 (.var 24) (.lit 1)) (.lit 0)) (.pick (.cmp .lss (.bin .add .i64 (.var 24) (.lit 1)) (.var 12)) (.some 11) (.lit false)) (.lit false))
       (.load 11 (.off (.bin .add .i64 (.var 24) (.lit 1)) 1 (.lit 0)) [.sl] [⟨[(.sl 6 (.lit 0) (.var 7) (.var 8)), (.int .i64 (.var 9))], 25⟩, ⟨[(.sl 0 (.lit 0) (.var 1) (.var 2)), (.sl 3 (.lit 0) (.var 4) (.var 5))], 22⟩]
       (.chk (.pick (.cmp .geq (.var 25) (.lit 0)) (.pick (.cmp .lss (.var 25) (.var 27)) (.some 26) (.lit false)) (.lit false))
       (.load 26 (.off (.var 25) 1 (.lit 0)) [(.int .i64)] [⟨[(.sl 6 (.lit 0) (.var 7) (.var 8)), (.int .i64 (.var 9))], 25⟩, ⟨[(.sl 0 (.lit 0) (.var 1) (.var 2)), (.sl 3 (.lit 0) (.var 4) (.var 5))], 22⟩]
       (.chk (.pick (.cmp .geq (.var 24) (.lit 0)) (.pick (.cmp .lss (.var 24) (.var 12)) (.some 11) (.lit false)) (.lit false))
       (.load 11 (.off (.var 24) 1 (.lit 0)) [.sl] [⟨[(.sl 6 (.lit 0) (.var 7) (.var 8)), (.int .i64 (.var 9))], 25⟩, ⟨[(.sl 0 (.lit 0) (.var 1) (.var 2)), (.sl 3 (.lit 0) (.var 4) (.var 5))], 22⟩]
       (.chk (.pick (.cmp .geq (.var 25) (.lit 0)) (.pick (.cmp .lss (.var 25) (.var 31)) (.some 30) (.lit false)) (.lit false))
       (.load 30 (.off (.var 25) 1 (.lit 0)) [(.int .i64)] [⟨[(.sl 6 (.lit 0) (.var 7) (.var 8)), (.int .i64 (.var 9))], 25⟩, ⟨[(.sl 0 (.lit 0) (.var 1) (.var 2)), (.sl 3 (.lit 0) (.var 4) (.var 5))], 22⟩]
       (.again 2 2 [.bool] [(.bool (.cmp .eql (.bin .add .i64 (.var 9) (.var 29)) (.var 33)))] [⟨[(.sl 6 (.lit 0) (.var 7) (.var 8)), (.int .i64 (.var 9))], 25⟩, ⟨[(.sl 0 (.lit 0) (.var 1) (.var 2)), (.sl 3 (.lit 0) (.var 4) (.var 5))], 22⟩])))))))))
       (.again 2 2 [.bool] [(.bool (.lit false))] [⟨[(.sl 6 (.lit 0) (.var 7) (.var 8)), (.int .i64 (.var 9))], 25⟩, ⟨[(.sl 0 (.lit 0) (.var 1) (.var 2)), (.sl 3 (.lit 0) (.var 4) (.var 5))], 22⟩])))
     (.ite (.var 26)
      (.alloc
      (.ext false ⟨(.call ⟨.builtin .append, #[(.tmp 0), (.tmp 0)], #[33, 33]⟩), 33, [(.sl 21 (.lit 0) (.var 22) (.var 23)), (.slc 2 0 1 1)]⟩ .sl [⟨[(.sl 6 (.lit 0) (.var 7) (.var 8)), (.int .i64 (.var 9))], 25⟩, ⟨[(.sl 0 (.lit 0) (.var 1) (.var 2)), (.sl 3 (.lit 0) (.var 4) (.var 5))], 22⟩, ⟨[(.int .i64 (.var 24)), (.int .i64 (.lit (-1)))], 57⟩]
      (.again 1 2 [.sl, (.int .i64), (.int .i64)] [(.sl 27 (.lit 0) (.var 28) (.var 29)), (.int .i64 (.bin .add .i64 (.var 24) (.lit 1))), (.int .i64 (.var 25))] [⟨[(.sl 6 (.lit 0) (.var 7) (.var 8)), (.int .i64 (.var 9))], 25⟩, ⟨[(.sl 0 (.lit 0) (.var 1) (.var 2)), (.sl 3 (.lit 0) (.var 4) (.var 5))], 22⟩, ⟨[(.int .i64 (.var 24)), (.int .i64 (.lit (-1)))], 57⟩])))
      (.alloc
      (.ext false ⟨(.call ⟨.builtin .append, #[(.tmp 0), (.tmp 0)], #[33, 33]⟩), 33, [(.sl 21 (.lit 0) (.var 22) (.var 23)), (.slc 2 0 1 1)]⟩ .sl [⟨[(.sl 6 (.lit 0) (.var 7) (.var 8)), (.int .i64 (.var 9))], 25⟩, ⟨[(.sl 0 (.lit 0) (.var 1) (.var 2)), (.sl 3 (.lit 0) (.var 4) (.var 5))], 22⟩, ⟨[(.int .i64 (.lit (-1))), (.int .i64 (.var 25))], 57⟩]
      (.again 1 2 [.sl, (.int .i64), (.int .i64)] [(.sl 27 (.lit 0) (.var 28) (.var 29)), (.int .i64 (.var 24)), (.int .i64 (.bin .add .i64 (.var 25) (.lit 1)))] [⟨[(.sl 6 (.lit 0) (.var 7) (.var 8)), (.int .i64 (.var 9))], 25⟩, ⟨[(.sl 0 (.lit 0) (.var 1) (.var 2)), (.sl 3 (.lit 0) (.var 4) (.var 5))], 22⟩, ⟨[(.int .i64 (.lit (-1))), (.int .i64 (.var 25))], 57⟩])))))))
    (.again 0 2 [.sl, (.int .i64), (.int .i64)] [(.sl 20 (.lit 0) (.var 21) (.var 22)), (.int .i64 (.var 23)), (.int .i64 (.var 24))] [⟨[(.sl 6 (.lit 0) (.var 7) (.var 8)), (.int .i64 (.var 9))], 25⟩, ⟨[(.sl 0 (.lit 0) (.var 1) (.var 2)), (.sl 3 (.lit 0) (.var 4) (.var 5))], 22⟩]))
    (.ret (.tup [(.sl 14 (.lit 0) (.var 15) (.var 16)), (.int .i64 (.lit 0))]) [⟨[(.sl 6 (.lit 0) (.var 7) (.var 8)), (.int .i64 (.var 9))], 25⟩, ⟨[(.sl 0 (.lit 0) (.var 1) (.var 2)), (.sl 3 (.lit 0) (.var 4) (.var 5))], 22⟩])))))))))
theorem S_ref17_Align : FnIs Tryd.prog n_ref17_Align [.sl, .sl, (.agg [.sl, (.int .i64)])] T_ref17_Align := ⟨Tryd.f18, [{ key := 200007, tmps := [(36, .bool)], join := true, dead := 680554349248159555040037179776118538264 }, { key := 100001, tmps := [], join := true }, { key := 200008, tmps := [(46, .bool)], join := true }, { key := 9, tmps := [], join := true }, { key := 200013, tmps := [(113, .bool)], join := true }], 4000, Tryd.func18, by kernel_rfl⟩
/-! 20 ablaut/ablautref17.Ways  -/
abbrev n_ref17_Ways : FuncId := 20
def T_ref17_Ways : Tree :=
 (.alloc
 (.alloc
 (.call false 42 [(.agg [(.sl 6 (.lit 0) (.var 7) (.var 8)), (.int .i64 (.var 9))]), (.slc 1 0 2 2)] (.int .i64) [⟨[(.sl 6 (.lit 0) (.var 7) (.var 8)), (.int .i64 (.var 9))], 25⟩, ⟨[(.sl 0 (.lit 0) (.var 1) (.var 2)), (.sl 3 (.lit 0) (.var 4) (.var 5))], 22⟩]
 (.ite (.cmp .neq (.var 10) (.lit 0))
  (.ret (.tup [(.int .i64 (.lit 0)), (.int .i64 (.var 10))]) [⟨[(.sl 6 (.lit 0) (.var 7) (.var 8)), (.int .i64 (.var 9))], 25⟩, ⟨[(.sl 0 (.lit 0) (.var 1) (.var 2)), (.sl 3 (.lit 0) (.var 4) (.var 5))], 22⟩])
  (.call false 43 [(.sl 0 (.lit 0) (.var 1) (.var 2)), (.sl 3 (.lit 0) (.var 4) (.var 5)), (.agg [(.sl 6 (.lit 0) (.var 7) (.var 8)), (.int .i64 (.var 9))])] .sl [⟨[(.sl 6 (.lit 0) (.var 7) (.var 8)), (.int .i64 (.var 9))], 25⟩, ⟨[(.sl 0 (.lit 0) (.var 1) (.var 2)), (.sl 3 (.lit 0) (.var 4) (.var 5))], 22⟩]
  (.chk (.cmp .geq (.var 1) (.lit 0))
  (.ext false ⟨(.makeSlice 91 (.tmp 0) (.tmp 0)), 91, [(.int .i64 (.bin .add .i64 (.var 1) (.lit 1))), (.int .i64 (.bin .add .i64 (.var 1) (.lit 1)))]⟩ .sl [⟨[(.sl 6 (.lit 0) (.var 7) (.var 8)), (.int .i64 (.var 9))], 25⟩, ⟨[(.sl 0 (.lit 0) (.var 1) (.var 2)), (.sl 3 (.lit 0) (.var 4) (.var 5))], 22⟩]
  (.chk (.cmp .geq (.var 1) (.lit 0))
  (.loop 0 [(.int .i64)] [(.int .i64 (.var 1))] [⟨[(.sl 6 (.lit 0) (.var 7) (.var 8)), (.int .i64 (.var 9))], 25⟩, ⟨[(.sl 0 (.lit 0) (.var 1) (.var 2)), (.sl 3 (.lit 0) (.var 4) (.var 5))], 22⟩] [⟨[(.sl 6 (.lit 0) (.var 7) (.var 8)), (.int .i64 (.var 9))], 25⟩, ⟨[(.sl 0 (.lit 0) (.var 1) (.var 2)), (.sl 3 (.lit 0) (.var 4) (.var 5))], 22⟩]
   (.ite (.cmp .geq (.var 17) (.lit 0))
    (.chk (.cmp .geq (.var 4) (.lit 0))
    (.ext false ⟨(.makeSlice 92 (.tmp 0) (.tmp 0)), 92, [(.int .i64 (.bin .add .i64 (.var 4) (.lit 1))), (.int .i64 (.bin .add .i64 (.var 4) (.lit 1)))]⟩ .sl [⟨[(.sl 6 (.lit 0) (.var 7) (.var 8)), (.int .i64 (.var 9))], 25⟩, ⟨[(.sl 0 (.lit 0) (.var 1) (.var 2)), (.sl 3 (.lit 0) (.var 4) (.var 5))], 22⟩]
    (.chk (.pick (.cmp .geq (.var 17) (.lit 0)) (.pick (.cmp .lss (.var 17) (.var 15)) (.some 14) (.lit false)) (.lit false))
    (.store false 14 (.off (.var 17) 1 (.lit 0)) [(.sl 18 (.lit 0) (.var 19) (.var 20))] [⟨[(.sl 6 (.lit 0) (.var 7) (.var 8)), (.int .i64 (.var 9))], 25⟩, ⟨[(.sl 0 (.lit 0) (.var 1) (.var 2)), (.sl 3 (.lit 0) (.var 4) (.var 5))], 22⟩]
    (.chk (.cmp .geq (.var 4) (.lit 0))
    (.loop 1 [(.int .i64)] [(.int .i64 (.var 4))] [⟨[(.sl 6 (.lit 0) (.var 7) (.var 8)), (.int .i64 (.var 9))], 25⟩, ⟨[(.sl 0 (.lit 0) (.var 1) (.var 2)), (.sl 3 (.lit 0) (.var 4) (.var 5))], 22⟩] [⟨[(.sl 6 (.lit 0) (.var 7) (.var 8)), (.int .i64 (.var 9))], 25⟩, ⟨[(.sl 0 (.lit 0) (.var 1) (.var 2)), (.sl 3 (.lit 0) (.var 4) (.var 5))], 22⟩]
     (.ite (.cmp .geq (.var 21) (.lit 0))
      (.join 2 [.bool] [⟨[(.sl 6 (.lit 0) (.var 7) (.var 8)), (.int .i64 (.var 9))], 25⟩, ⟨[(.sl 0 (.lit 0) (.var 1) (.var 2)), (.sl 3 (.lit 0) (.var 4) (.var 5))], 22⟩]
       (.chk (.cmp .geq (.var 1) (.lit 0))
       (.ite (.cmp .eql (.var 17) (.var 1))
        (.chk (.cmp .geq (.var 4) (.lit 0))
        (.again 2 2 [.bool] [(.bool (.cmp .eql (.var 21) (.var 4)))] [⟨[(.sl 6 (.lit 0) (.var 7) (.var 8)), (.int .i64 (.var 9))], 25⟩, ⟨[(.sl 0 (.lit 0) (.var 1) (.var 2)), (.sl 3 (.lit 0) (.var 4) (.var 5))], 22⟩]))
        (.again 2 2 [.bool] [(.bool (.lit false))] [⟨[(.sl 6 (.lit 0) (.var 7) (.var 8)), (.int .i64 (.var 9))], 25⟩, ⟨[(.sl 0 (.lit 0) (.var 1) (.var 2)), (.sl 3 (.lit 0) (.var 4) (.var 5))], 22⟩])))
      (.join 2 [] [⟨[(.sl 6 (.lit 0) (.var 7) (.var 8)), (.int .i64 (.var 9))], 25⟩, ⟨[(.sl 0 (.lit 0) (.var 1) (.var 2)), (.sl 3 (.lit 0) (.var 4) (.var 5))], 22⟩]
       (.ite (.var 22)
        (.chk (.pick (.cmp .geq (.var 17) (.lit 0)) (.pick (.cmp .lss (.var 17) (.var 15)) (.some 14) (.lit false)) (.lit false))
        (.load 14 (.off (.var 17) 1 (.lit 0)) [.sl] [⟨[(.sl 6 (.lit 0) (.var 7) (.var 8)), (.int .i64 (.var 9))], 25⟩, ⟨[(.sl 0 (.lit 0) (.var 1) (.var 2)), (.sl 3 (.lit 0) (.var 4) (.var 5))], 22⟩]
        (.chk (.pick (.cmp .geq (.var 21) (.lit 0)) (.pick (.cmp .lss (.var 21) (.var 24)) (.some 23) (.lit false)) (.lit false))
        (.store false 23 (.off (.var 21) 1 (.lit 0)) [(.int .u64 (.lit 1))] [⟨[(.sl 6 (.lit 0) (.var 7) (.var 8)), (.int .i64 (.var 9))], 25⟩, ⟨[(.sl 0 (.lit 0) (.var 1) (.var 2)), (.sl 3 (.lit 0) (.var 4) (.var 5))], 22⟩]
        (.again 2 2 [] [] [⟨[(.sl 6 (.lit 0) (.var 7) (.var 8)), (.int .i64 (.var 9))], 25⟩, ⟨[(.sl 0 (.lit 0) (.var 1) (.var 2)), (.sl 3 (.lit 0) (.var 4) (.var 5))], 22⟩])))))
        (.again 2 2 [] [] [⟨[(.sl 6 (.lit 0) (.var 7) (.var 8)), (.int .i64 (.var 9))], 25⟩, ⟨[(.sl 0 (.lit 0) (.var 1) (.var 2)), (.sl 3 (.lit 0) (.var 4) (.var 5))], 22⟩]))
      (.join 2 [.bool] [⟨[(.sl 6 (.lit 0) (.var 7) (.var 8)), (.int .i64 (.var 9))], 25⟩, ⟨[(.sl 0 (.lit 0) (.var 1) (.var 2)), (.sl 3 (.lit 0) (.var 4) (.var 5))], 22⟩]
       (.chk (.cmp .geq (.var 1) (.lit 0))
       (.ite (.cmp .lss (.var 17) (.var 1))
        (.chk (.cmp .geq (.var 4) (.lit 0))
        (.again 2 2 [.bool] [(.bool (.cmp .lss (.var 21) (.var 4)))] [⟨[(.sl 6 (.lit 0) (.var 7) (.var 8)), (.int .i64 (.var 9))], 25⟩, ⟨[(.sl 0 (.lit 0) (.var 1) (.var 2)), (.sl 3 (.lit 0) (.var 4) (.var 5))], 22⟩]))
        (.again 2 2 [.bool] [(.bool (.lit false))] [⟨[(.sl 6 (.lit 0) (.var 7) (.var 8)), (.int .i64 (.var 9))], 25⟩, ⟨[(.sl 0 (.lit 0) (.var 1) (.var 2)), (.sl 3 (.lit 0) (.var 4) (.var 5))], 22⟩])))
      (.join 2 [] [⟨[(.sl 6 (.lit 0) (.var 7) (.var 8)), (.int .i64 (.var 9))], 25⟩, ⟨[(.sl 0 (.lit 0) (.var 1) (.var 2)), (.sl 3 (.lit 0) (.var 4) (.var 5))], 22⟩]
       (.ite (.var 23)
        (.chk (.pick (.cmp .geq (.var 17) (.lit 0)) (.pick (.cmp .lss (.var 17) (.var 1)) (.some 0) (.lit false)) (.lit false))
        (.load 0 (.off (.var 17) 2 (.lit 0)) [(.int .u32), (.int .u32)] [⟨[(.sl 6 (.lit 0) (.var 7) (.var 8)), (.int .i64 (.var 9))], 25⟩, ⟨[(.sl 0 (.lit 0) (.var 1) (.var 2)), (.sl 3 (.lit 0) (.var 4) (.var 5))], 22⟩]
        (.chk (.pick (.cmp .geq (.var 21) (.lit 0)) (.pick (.cmp .lss (.var 21) (.var 4)) (.some 3) (.lit false)) (.lit false))
        (.load 3 (.off (.var 21) 2 (.lit 0)) [(.int .u32), (.int .u32)] [⟨[(.sl 6 (.lit 0) (.var 7) (.var 8)), (.int .i64 (.var 9))], 25⟩, ⟨[(.sl 0 (.lit 0) (.var 1) (.var 2)), (.sl 3 (.lit 0) (.var 4) (.var 5))], 22⟩]
        (.call false 45 [(.agg [(.int .u32 (.var 24)), (.int .u32 (.var 25))]), (.agg [(.int .u32 (.var 26)), (.int .u32 (.var 27))]), (.agg [(.sl 6 (.lit 0) (.var 7) (.var 8)), (.int .i64 (.var 9))])] (.tup [(.int .i64), (.int .i64)]) [⟨[(.sl 6 (.lit 0) (.var 7) (.var 8)), (.int .i64 (.var 9))], 25⟩, ⟨[(.sl 0 (.lit 0) (.var 1) (.var 2)), (.sl 3 (.lit 0) (.var 4) (.var 5))], 22⟩]
        (.chk (.pick (.cmp .geq (.bin .add .i64 (.var 17) (.lit 1)) (.lit 0)) (.pick (.cmp .lss (.bin .add .i64 (.var 17) (.lit 1)) (.var 12)) (.some 11) (.lit false)) (.lit false))
        (.load 11 (.off (.bin .add .i64 (.var 17) (.lit 1)) 1 (.lit 0)) [.sl] [⟨[(.sl 6 (.lit 0) (.var 7) (.var 8)), (.int .i64 (.var 9))], 25⟩, ⟨[(.sl 0 (.lit 0) (.var 1) (.var 2)), (.sl 3 (.lit 0) (.var 4) (.var 5))], 22⟩]
        (.chk (.pick (.cmp .geq (.bin .add .i64 (.var 21) (.lit 1)) (.lit 0)) (.pick (.cmp .lss (.bin .add .i64 (.var 21) (.lit 1)) (.var 31)) (.some 30) (.lit false)) (.lit false))
        (.load 30 (.off (.bin .add .i64 (.var 21) (.lit 1)) 1 (.lit 0)) [(.int .i64)] [⟨[(.sl 6 (.lit 0) (.var 7) (.var 8)), (.int .i64 (.var 9))], 25⟩, ⟨[(.sl 0 (.lit 0) (.var 1) (.var 2)), (.sl 3 (.lit 0) (.var 4) (.var 5))], 22⟩]
        (.chk (.pick (.cmp .geq (.var 17) (.lit 0)) (.pick (.cmp .lss (.var 17) (.var 12)) (.some 11) (.lit false)) (.lit false))
        (.load 11 (.off (.var 17) 1 (.lit 0)) [.sl] [⟨[(.sl 6 (.lit 0) (.var 7) (.var 8)), (.int .i64 (.var 9))], 25⟩, ⟨[(.sl 0 (.lit 0) (.var 1) (.var 2)), (.sl 3 (.lit 0) (.var 4) (.var 5))], 22⟩]
        (.chk (.pick (.cmp .geq (.var 21) (.lit 0)) (.pick (.cmp .lss (.var 21) (.var 35)) (.some 34) (.lit false)) (.lit false))
        (.load 34 (.off (.var 21) 1 (.lit 0)) [(.int .i64)] [⟨[(.sl 6 (.lit 0) (.var 7) (.var 8)), (.int .i64 (.var 9))], 25⟩, ⟨[(.sl 0 (.lit 0) (.var 1) (.var 2)), (.sl 3 (.lit 0) (.var 4) (.var 5))], 22⟩]
        (.join 3 [] [⟨[(.sl 6 (.lit 0) (.var 7) (.var 8)), (.int .i64 (.var 9))], 25⟩, ⟨[(.sl 0 (.lit 0) (.var 1) (.var 2)), (.sl 3 (.lit 0) (.var 4) (.var 5))], 22⟩]
         (.ite (.cmp .eql (.bin .add .i64 (.var 28) (.var 33)) (.var 37))
          (.chk (.pick (.cmp .geq (.var 17) (.lit 0)) (.pick (.cmp .lss (.var 17) (.var 15)) (.some 14) (.lit false)) (.lit false))
          (.load 14 (.off (.var 17) 1 (.lit 0)) [.sl] [⟨[(.sl 6 (.lit 0) (.var 7) (.var 8)), (.int .i64 (.var 9))], 25⟩, ⟨[(.sl 0 (.lit 0) (.var 1) (.var 2)), (.sl 3 (.lit 0) (.var 4) (.var 5))], 22⟩]
          (.chk (.pick (.cmp .geq (.var 17) (.lit 0)) (.pick (.cmp .lss (.var 17) (.var 15)) (.some 14) (.lit false)) (.lit false))
          (.load 14 (.off (.var 17) 1 (.lit 0)) [.sl] [⟨[(.sl 6 (.lit 0) (.var 7) (.var 8)), (.int .i64 (.var 9))], 25⟩, ⟨[(.sl 0 (.lit 0) (.var 1) (.var 2)), (.sl 3 (.lit 0) (.var 4) (.var 5))], 22⟩]
          (.chk (.pick (.cmp .geq (.var 21) (.lit 0)) (.pick (.cmp .lss (.var 21) (.var 42)) (.some 41) (.lit false)) (.lit false))
          (.load 41 (.off (.var 21) 1 (.lit 0)) [(.int .u64)] [⟨[(.sl 6 (.lit 0) (.var 7) (.var 8)), (.int .i64 (.var 9))], 25⟩, ⟨[(.sl 0 (.lit 0) (.var 1) (.var 2)), (.sl 3 (.lit 0) (.var 4) (.var 5))], 22⟩]
          (.chk (.pick (.cmp .geq (.bin .add .i64 (.var 17) (.lit 1)) (.lit 0)) (.pick (.cmp .lss (.bin .add .i64 (.var 17) (.lit 1)) (.var 15)) (.some 14) (.lit false)) (.lit false))
          (.load 14 (.off (.bin .add .i64 (.var 17) (.lit 1)) 1 (.lit 0)) [.sl] [⟨[(.sl 6 (.lit 0) (.var 7) (.var 8)), (.int .i64 (.var 9))], 25⟩, ⟨[(.sl 0 (.lit 0) (.var 1) (.var 2)), (.sl 3 (.lit 0) (.var 4) (.var 5))], 22⟩]
          (.chk (.pick (.cmp .geq (.bin .add .i64 (.var 21) (.lit 1)) (.lit 0)) (.pick (.cmp .lss (.bin .add .i64 (.var 21) (.lit 1)) (.var 46)) (.some 45) (.lit false)) (.lit false))
          (.load 45 (.off (.bin .add .i64 (.var 21) (.lit 1)) 1 (.lit 0)) [(.int .u64)] [⟨[(.sl 6 (.lit 0) (.var 7) (.var 8)), (.int .i64 (.var 9))], 25⟩, ⟨[(.sl 0 (.lit 0) (.var 1) (.var 2)), (.sl 3 (.lit 0) (.var 4) (.var 5))], 22⟩]
          (.call true 46 [(.int .u64 (.var 44)), (.int .u64 (.var 48))] (.int .u64) [⟨[(.sl 6 (.lit 0) (.var 7) (.var 8)), (.int .i64 (.var 9))], 25⟩, ⟨[(.sl 0 (.lit 0) (.var 1) (.var 2)), (.sl 3 (.lit 0) (.var 4) (.var 5))], 22⟩]
          (.chk (.pick (.cmp .geq (.var 21) (.lit 0)) (.pick (.cmp .lss (.var 21) (.var 39)) (.some 38) (.lit false)) (.lit false))
          (.store false 38 (.off (.var 21) 1 (.lit 0)) [(.int .u64 (.var 49))] [⟨[(.sl 6 (.lit 0) (.var 7) (.var 8)), (.int .i64 (.var 9))], 25⟩, ⟨[(.sl 0 (.lit 0) (.var 1) (.var 2)), (.sl 3 (.lit 0) (.var 4) (.var 5))], 22⟩]
          (.again 3 2 [] [] [⟨[(.sl 6 (.lit 0) (.var 7) (.var 8)), (.int .i64 (.var 9))], 25⟩, ⟨[(.sl 0 (.lit 0) (.var 1) (.var 2)), (.sl 3 (.lit 0) (.var 4) (.var 5))], 22⟩]))))))))))))))
          (.again 3 2 [] [] [⟨[(.sl 6 (.lit 0) (.var 7) (.var 8)), (.int .i64 (.var 9))], 25⟩, ⟨[(.sl 0 (.lit 0) (.var 1) (.var 2)), (.sl 3 (.lit 0) (.var 4) (.var 5))], 22⟩]))
        (.again 2 2 [] [] [⟨[(.sl 6 (.lit 0) (.var 7) (.var 8)), (.int .i64 (.var 9))], 25⟩, ⟨[(.sl 0 (.lit 0) (.var 1) (.var 2)), (.sl 3 (.lit 0) (.var 4) (.var 5))], 22⟩])))))))))))))))
        (.again 2 2 [] [] [⟨[(.sl 6 (.lit 0) (.var 7) (.var 8)), (.int .i64 (.var 9))], 25⟩, ⟨[(.sl 0 (.lit 0) (.var 1) (.var 2)), (.sl 3 (.lit 0) (.var 4) (.var 5))], 22⟩]))
      (.join 2 [.bool] [⟨[(.sl 6 (.lit 0) (.var 7) (.var 8)), (.int .i64 (.var 9))], 25⟩, ⟨[(.sl 0 (.lit 0) (.var 1) (.var 2)), (.sl 3 (.lit 0) (.var 4) (.var 5))], 22⟩]
       (.chk (.cmp .geq (.var 1) (.lit 0))
       (.ite (.cmp .lss (.var 17) (.var 1))
        (.chk (.pick (.cmp .geq (.bin .add .i64 (.var 17) (.lit 1)) (.lit 0)) (.pick (.cmp .lss (.bin .add .i64 (.var 17) (.lit 1)) (.var 12)) (.some 11) (.lit false)) (.lit false))
        (.load 11 (.off (.bin .add .i64 (.var 17) (.lit 1)) 1 (.lit 0)) [.sl] [⟨[(.sl 6 (.lit 0) (.var 7) (.var 8)), (.int .i64 (.var 9))], 25⟩, ⟨[(.sl 0 (.lit 0) (.var 1) (.var 2)), (.sl 3 (.lit 0) (.var 4) (.var 5))], 22⟩]
        (.chk (.pick (.cmp .geq (.var 21) (.lit 0)) (.pick (.cmp .lss (.var 21) (.var 25)) (.some 24) (.lit false)) (.lit false))
        (.load 24 (.off (.var 21) 1 (.lit 0)) [(.int .i64)] [⟨[(.sl 6 (.lit 0) (.var 7) (.var 8)), (.int .i64 (.var 9))], 25⟩, ⟨[(.sl 0 (.lit 0) (.var 1) (.var 2)), (.sl 3 (.lit 0) (.var 4) (.var 5))], 22⟩]
        (.chk (.pick (.cmp .geq (.var 17) (.lit 0)) (.pick (.cmp .lss (.var 17) (.var 12)) (.some 11) (.lit false)) (.lit false))
        (.load 11 (.off (.var 17) 1 (.lit 0)) [.sl] [⟨[(.sl 6 (.lit 0) (.var 7) (.var 8)), (.int .i64 (.var 9))], 25⟩, ⟨[(.sl 0 (.lit 0) (.var 1) (.var 2)), (.sl 3 (.lit 0) (.var 4) (.var 5))], 22⟩]
        (.chk (.pick (.cmp .geq (.var 21) (.lit 0)) (.pick (.cmp .lss (.var 21) (.var 29)) (.some 28) (.lit false)) (.lit false))
        (.load 28 (.off (.var 21) 1 (.lit 0)) [(.int .i64)] [⟨[(.sl 6 (.lit 0) (.var 7) (.var 8)), (.int .i64 (.var 9))], 25⟩, ⟨[(.sl 0 (.lit 0) (.var 1) (.var 2)), (.sl 3 (.lit 0) (.var 4) (.var 5))], 22⟩]
        (.again 2 2 [.bool] [(.bool (.cmp .eql (.bin .add .i64 (.var 9) (.var 27)) (.var 31)))] [⟨[(.sl 6 (.lit 0) (.var 7) (.var 8)), (.int .i64 (.var 9))], 25⟩, ⟨[(.sl 0 (.lit 0) (.var 1) (.var 2)), (.sl 3 (.lit 0) (.var 4) (.var 5))], 22⟩])))))))))
        (.again 2 2 [.bool] [(.bool (.lit false))] [⟨[(.sl 6 (.lit 0) (.var 7) (.var 8)), (.int .i64 (.var 9))], 25⟩, ⟨[(.sl 0 (.lit 0) (.var 1) (.var 2)), (.sl 3 (.lit 0) (.var 4) (.var 5))], 22⟩])))
      (.join 2 [] [⟨[(.sl 6 (.lit 0) (.var 7) (.var 8)), (.int .i64 (.var 9))], 25⟩, ⟨[(.sl 0 (.lit 0) (.var 1) (.var 2)), (.sl 3 (.lit 0) (.var 4) (.var 5))], 22⟩]
       (.ite (.var 24)
        (.chk (.pick (.cmp .geq (.var 17) (.lit 0)) (.pick (.cmp .lss (.var 17) (.var 15)) (.some 14) (.lit false)) (.lit false))
        (.load 14 (.off (.var 17) 1 (.lit 0)) [.sl] [⟨[(.sl 6 (.lit 0) (.var 7) (.var 8)), (.int .i64 (.var 9))], 25⟩, ⟨[(.sl 0 (.lit 0) (.var 1) (.var 2)), (.sl 3 (.lit 0) (.var 4) (.var 5))], 22⟩]
        (.chk (.pick (.cmp .geq (.var 17) (.lit 0)) (.pick (.cmp .lss (.var 17) (.var 15)) (.some 14) (.lit false)) (.lit false))
        (.load 14 (.off (.var 17) 1 (.lit 0)) [.sl] [⟨[(.sl 6 (.lit 0) (.var 7) (.var 8)), (.int .i64 (.var 9))], 25⟩, ⟨[(.sl 0 (.lit 0) (.var 1) (.var 2)), (.sl 3 (.lit 0) (.var 4) (.var 5))], 22⟩]
        (.chk (.pick (.cmp .geq (.var 21) (.lit 0)) (.pick (.cmp .lss (.var 21) (.var 29)) (.some 28) (.lit false)) (.lit false))
        (.load 28 (.off (.var 21) 1 (.lit 0)) [(.int .u64)] [⟨[(.sl 6 (.lit 0) (.var 7) (.var 8)), (.int .i64 (.var 9))], 25⟩, ⟨[(.sl 0 (.lit 0) (.var 1) (.var 2)), (.sl 3 (.lit 0) (.var 4) (.var 5))], 22⟩]
        (.chk (.pick (.cmp .geq (.bin .add .i64 (.var 17) (.lit 1)) (.lit 0)) (.pick (.cmp .lss (.bin .add .i64 (.var 17) (.lit 1)) (.var 15)) (.some 14) (.lit false)) (.lit false))
        (.load 14 (.off (.bin .add .i64 (.var 17) (.lit 1)) 1 (.lit 0)) [.sl] [⟨[(.sl 6 (.lit 0) (.var 7) (.var 8)), (.int .i64 (.var 9))], 25⟩, ⟨[(.sl 0 (.lit 0) (.var 1) (.var 2)), (.sl 3 (.lit 0) (.var 4) (.var 5))], 22⟩]
        (.chk (.pick (.cmp .geq (.var 21) (.lit 0)) (.pick (.cmp .lss (.var 21) (.var 33)) (.some 32) (.lit false)) (.lit false))
        (.load 32 (.off (.var 21) 1 (.lit 0)) [(.int .u64)] [⟨[(.sl 6 (.lit 0) (.var 7) (.var 8)), (.int .i64 (.var 9))], 25⟩, ⟨[(.sl 0 (.lit 0) (.var 1) (.var 2)), (.sl 3 (.lit 0) (.var 4) (.var 5))], 22⟩]
        (.call true 46 [(.int .u64 (.var 31)), (.int .u64 (.var 35))] (.int .u64) [⟨[(.sl 6 (.lit 0) (.var 7) (.var 8)), (.int .i64 (.var 9))], 25⟩, ⟨[(.sl 0 (.lit 0) (.var 1) (.var 2)), (.sl 3 (.lit 0) (.var 4) (.var 5))], 22⟩]
        (.chk (.pick (.cmp .geq (.var 21) (.lit 0)) (.pick (.cmp .lss (.var 21) (.var 26)) (.some 25) (.lit false)) (.lit false))
        (.store false 25 (.off (.var 21) 1 (.lit 0)) [(.int .u64 (.var 36))] [⟨[(.sl 6 (.lit 0) (.var 7) (.var 8)), (.int .i64 (.var 9))], 25⟩, ⟨[(.sl 0 (.lit 0) (.var 1) (.var 2)), (.sl 3 (.lit 0) (.var 4) (.var 5))], 22⟩]
        (.again 2 2 [] [] [⟨[(.sl 6 (.lit 0) (.var 7) (.var 8)), (.int .i64 (.var 9))], 25⟩, ⟨[(.sl 0 (.lit 0) (.var 1) (.var 2)), (.sl 3 (.lit 0) (.var 4) (.var 5))], 22⟩]))))))))))))))
        (.again 2 2 [] [] [⟨[(.sl 6 (.lit 0) (.var 7) (.var 8)), (.int .i64 (.var 9))], 25⟩, ⟨[(.sl 0 (.lit 0) (.var 1) (.var 2)), (.sl 3 (.lit 0) (.var 4) (.var 5))], 22⟩]))
      (.join 2 [.bool] [⟨[(.sl 6 (.lit 0) (.var 7) (.var 8)), (.int .i64 (.var 9))], 25⟩, ⟨[(.sl 0 (.lit 0) (.var 1) (.var 2)), (.sl 3 (.lit 0) (.var 4) (.var 5))], 22⟩]
       (.chk (.cmp .geq (.var 4) (.lit 0))
       (.ite (.cmp .lss (.var 21) (.var 4))
        (.chk (.pick (.cmp .geq (.var 17) (.lit 0)) (.pick (.cmp .lss (.var 17) (.var 12)) (.some 11) (.lit false)) (.lit false))
        (.load 11 (.off (.var 17) 1 (.lit 0)) [.sl] [⟨[(.sl 6 (.lit 0) (.var 7) (.var 8)), (.int .i64 (.var 9))], 25⟩, ⟨[(.sl 0 (.lit 0) (.var 1) (.var 2)), (.sl 3 (.lit 0) (.var 4) (.var 5))], 22⟩]
        (.chk (.pick (.cmp .geq (.bin .add .i64 (.var 21) (.lit 1)) (.lit 0)) (.pick (.cmp .lss (.bin .add .i64 (.var 21) (.lit 1)) (.var 26)) (.some 25) (.lit false)) (.lit false))
        (.load 25 (.off (.bin .add .i64 (.var 21) (.lit 1)) 1 (.lit 0)) [(.int .i64)] [⟨[(.sl 6 (.lit 0) (.var 7) (.var 8)), (.int .i64 (.var 9))], 25⟩, ⟨[(.sl 0 (.lit 0) (.var 1) (.var 2)), (.sl 3 (.lit 0) (.var 4) (.var 5))], 22⟩]
        (.chk (.pick (.cmp .geq (.var 17) (.lit 0)) (.pick (.cmp .lss (.var 17) (.var 12)) (.some 11) (.lit false)) (.lit false))
        (.load 11 (.off (.var 17) 1 (.lit 0)) [.sl] [⟨[(.sl 6 (.lit 0) (.var 7) (.var 8)), (.int .i64 (.var 9))], 25⟩, ⟨[(.sl 0 (.lit 0) (.var 1) (.var 2)), (.sl 3 (.lit 0) (.var 4) (.var 5))], 22⟩]
        (.chk (.pick (.cmp .geq (.var 21) (.lit 0)) (.pick (.cmp .lss (.var 21) (.var 30)) (.some 29) (.lit false)) (.lit false))
        (.load 29 (.off (.var 21) 1 (.lit 0)) [(.int .i64)] [⟨[(.sl 6 (.lit 0) (.var 7) (.var 8)), (.int .i64 (.var 9))], 25⟩, ⟨[(.sl 0 (.lit 0) (.var 1) (.var 2)), (.sl 3 (.lit 0) (.var 4) (.var 5))], 22⟩]
        (.again 2 2 [.bool] [(.bool (.cmp .eql (.bin .add .i64 (.var 9) (.var 28)) (.var 32)))] [⟨[(.sl 6 (.lit 0) (.var 7) (.var 8)), (.int .i64 (.var 9))], 25⟩, ⟨[(.sl 0 (.lit 0) (.var 1) (.var 2)), (.sl 3 (.lit 0) (.var 4) (.var 5))], 22⟩])))))))))
        (.again 2 2 [.bool] [(.bool (.lit false))] [⟨[(.sl 6 (.lit 0) (.var 7) (.var 8)), (.int .i64 (.var 9))], 25⟩, ⟨[(.sl 0 (.lit 0) (.var 1) (.var 2)), (.sl 3 (.lit 0) (.var 4) (.var 5))], 22⟩])))
      (.join 2 [] [⟨[(.sl 6 (.lit 0) (.var 7) (.var 8)), (.int .i64 (.var 9))], 25⟩, ⟨[(.sl 0 (.lit 0) (.var 1) (.var 2)), (.sl 3 (.lit 0) (.var 4) (.var 5))], 22⟩]
       (.ite (.var 25)
        (.chk (.pick (.cmp .geq (.var 17) (.lit 0)) (.pick (.cmp .lss (.var 17) (.var 15)) (.some 14) (.lit false)) (.lit false))
        (.load 14 (.off (.var 17) 1 (.lit 0)) [.sl] [⟨[(.sl 6 (.lit 0) (.var 7) (.var 8)), (.int .i64 (.var 9))], 25⟩, ⟨[(.sl 0 (.lit 0) (.var 1) (.var 2)), (.sl 3 (.lit 0) (.var 4) (.var 5))], 22⟩]
        (.chk (.pick (.cmp .geq (.var 17) (.lit 0)) (.pick (.cmp .lss (.var 17) (.var 15)) (.some 14) (.lit false)) (.lit false))
        (.load 14 (.off (.var 17) 1 (.lit 0)) [.sl] [⟨[(.sl 6 (.lit 0) (.var 7) (.var 8)), (.int .i64 (.var 9))], 25⟩, ⟨[(.sl 0 (.lit 0) (.var 1) (.var 2)), (.sl 3 (.lit 0) (.var 4) (.var 5))], 22⟩]
        (.chk (.pick (.cmp .geq (.var 21) (.lit 0)) (.pick (.cmp .lss (.var 21) (.var 30)) (.some 29) (.lit false)) (.lit false))
        (.load 29 (.off (.var 21) 1 (.lit 0)) [(.int .u64)] [⟨[(.sl 6 (.lit 0) (.var 7) (.var 8)), (.int .i64 (.var 9))], 25⟩, ⟨[(.sl 0 (.lit 0) (.var 1) (.var 2)), (.sl 3 (.lit 0) (.var 4) (.var 5))], 22⟩]
        (.chk (.pick (.cmp .geq (.var 17) (.lit 0)) (.pick (.cmp .lss (.var 17) (.var 15)) (.some 14) (.lit false)) (.lit false))
        (.load 14 (.off (.var 17) 1 (.lit 0)) [.sl] [⟨[(.sl 6 (.lit 0) (.var 7) (.var 8)), (.int .i64 (.var 9))], 25⟩, ⟨[(.sl 0 (.lit 0) (.var 1) (.var 2)), (.sl 3 (.lit 0) (.var 4) (.var 5))], 22⟩]
        (.chk (.pick (.cmp .geq (.bin .add .i64 (.var 21) (.lit 1)) (.lit 0)) (.pick (.cmp .lss (.bin .add .i64 (.var 21) (.lit 1)) (.var 34)) (.some 33) (.lit false)) (.lit false))
        (.load 33 (.off (.bin .add .i64 (.var 21) (.lit 1)) 1 (.lit 0)) [(.int .u64)] [⟨[(.sl 6 (.lit 0) (.var 7) (.var 8)), (.int .i64 (.var 9))], 25⟩, ⟨[(.sl 0 (.lit 0) (.var 1) (.var 2)), (.sl 3 (.lit 0) (.var 4) (.var 5))], 22⟩]
        (.call true 46 [(.int .u64 (.var 32)), (.int .u64 (.var 36))] (.int .u64) [⟨[(.sl 6 (.lit 0) (.var 7) (.var 8)), (.int .i64 (.var 9))], 25⟩, ⟨[(.sl 0 (.lit 0) (.var 1) (.var 2)), (.sl 3 (.lit 0) (.var 4) (.var 5))], 22⟩]
        (.chk (.pick (.cmp .geq (.var 21) (.lit 0)) (.pick (.cmp .lss (.var 21) (.var 27)) (.some 26) (.lit false)) (.lit false))
        (.store false 26 (.off (.var 21) 1 (.lit 0)) [(.int .u64 (.var 37))] [⟨[(.sl 6 (.lit 0) (.var 7) (.var 8)), (.int .i64 (.var 9))], 25⟩, ⟨[(.sl 0 (.lit 0) (.var 1) (.var 2)), (.sl 3 (.lit 0) (.var 4) (.var 5))], 22⟩]
        (.again 2 2 [] [] [⟨[(.sl 6 (.lit 0) (.var 7) (.var 8)), (.int .i64 (.var 9))], 25⟩, ⟨[(.sl 0 (.lit 0) (.var 1) (.var 2)), (.sl 3 (.lit 0) (.var 4) (.var 5))], 22⟩]))))))))))))))
        (.again 2 2 [] [] [⟨[(.sl 6 (.lit 0) (.var 7) (.var 8)), (.int .i64 (.var 9))], 25⟩, ⟨[(.sl 0 (.lit 0) (.var 1) (.var 2)), (.sl 3 (.lit 0) (.var 4) (.var 5))], 22⟩]))
      (.again 1 2 [(.int .i64)] [(.int .i64 (.bin .sub .i64 (.var 21) (.lit 1)))] [⟨[(.sl 6 (.lit 0) (.var 7) (.var 8)), (.int .i64 (.var 9))], 25⟩, ⟨[(.sl 0 (.lit 0) (.var 1) (.var 2)), (.sl 3 (.lit 0) (.var 4) (.var 5))], 22⟩])))))))))
      (.again 0 2 [(.int .i64)] [(.int .i64 (.bin .sub .i64 (.var 17) (.lit 1)))] [⟨[(.sl 6 (.lit 0) (.var 7) (.var 8)), (.int .i64 (.var 9))], 25⟩, ⟨[(.sl 0 (.lit 0) (.var 1) (.var 2)), (.sl 3 (.lit 0) (.var 4) (.var 5))], 22⟩]))))))))
    (.chk (.pick (.cmp .lss (.lit 0) (.var 15)) (.some 14) (.lit false))
    (.load 14 (.lit 0) [.sl] [⟨[(.sl 6 (.lit 0) (.var 7) (.var 8)), (.int .i64 (.var 9))], 25⟩, ⟨[(.sl 0 (.lit 0) (.var 1) (.var 2)), (.sl 3 (.lit 0) (.var 4) (.var 5))], 22⟩]
    (.chk (.pick (.cmp .lss (.lit 0) (.var 19)) (.some 18) (.lit false))
    (.load 18 (.lit 0) [(.int .u64)] [⟨[(.sl 6 (.lit 0) (.var 7) (.var 8)), (.int .i64 (.var 9))], 25⟩, ⟨[(.sl 0 (.lit 0) (.var 1) (.var 2)), (.sl 3 (.lit 0) (.var 4) (.var 5))], 22⟩]
    (.ite (.cmp .eql (.var 21) (.lit 9223372036854775808))
     (.ret (.tup [(.int .i64 (.lit 0)), (.int .i64 (.lit 7))]) [⟨[(.sl 6 (.lit 0) (.var 7) (.var 8)), (.int .i64 (.var 9))], 25⟩, ⟨[(.sl 0 (.lit 0) (.var 1) (.var 2)), (.sl 3 (.lit 0) (.var 4) (.var 5))], 22⟩])
     (.chk (.pick (.cmp .lss (.lit 0) (.var 15)) (.some 14) (.lit false))
     (.load 14 (.lit 0) [.sl] [⟨[(.sl 6 (.lit 0) (.var 7) (.var 8)), (.int .i64 (.var 9))], 25⟩, ⟨[(.sl 0 (.lit 0) (.var 1) (.var 2)), (.sl 3 (.lit 0) (.var 4) (.var 5))], 22⟩]
     (.chk (.pick (.cmp .lss (.lit 0) (.var 23)) (.some 22) (.lit false))
     (.load 22 (.lit 0) [(.int .u64)] [⟨[(.sl 6 (.lit 0) (.var 7) (.var 8)), (.int .i64 (.var 9))], 25⟩, ⟨[(.sl 0 (.lit 0) (.var 1) (.var 2)), (.sl 3 (.lit 0) (.var 4) (.var 5))], 22⟩]
     (.ret (.tup [(.int .i64 (.conv .i64 (.var 25))), (.int .i64 (.lit 0))]) [⟨[(.sl 6 (.lit 0) (.var 7) (.var 8)), (.int .i64 (.var 9))], 25⟩, ⟨[(.sl 0 (.lit 0) (.var 1) (.var 2)), (.sl 3 (.lit 0) (.var 4) (.var 5))], 22⟩]))))))))))))))))))))
theorem S_ref17_Ways : FnIs Tryd.prog n_ref17_Ways [.sl, .sl, (.agg [.sl, (.int .i64)])] T_ref17_Ways := ⟨Tryd.f20, [{ key := 200013, tmps := [(59, .bool)], join := true, dead := 219130446504172648074017491853201543155079606314302945895578566370770968 }, { key := 14, tmps := [], join := true }, { key := 200015, tmps := [(75, .bool)], join := true }, { key := 16, tmps := [], join := true }, { key := 18, tmps := [], join := true }, { key := 200019, tmps := [(155, .bool)], join := true }, { key := 20, tmps := [], join := true }, { key := 200021, tmps := [(202, .bool)], join := true }, { key := 22, tmps := [], join := true }], 4000, Tryd.func20, by kernel_rfl⟩
/-! 22 ablaut/ablautref17.Ratio  -/
abbrev n_ref17_Ratio : FuncId := 22
def T_ref17_Ratio : Tree :=
 (.alloc
 (.alloc
 (.call false 16 [(.sl 0 (.lit 0) (.var 1) (.var 2)), (.sl 3 (.lit 0) (.var 4) (.var 5)), (.agg [(.sl 6 (.lit 0) (.var 7) (.var 8)), (.int .i64 (.var 9))])] (.tup [(.int .i64), (.int .i64)]) [⟨[(.sl 6 (.lit 0) (.var 7) (.var 8)), (.int .i64 (.var 9))], 25⟩, ⟨[(.int .i64 (.lit 0)), (.int .i64 (.lit 0))], 37⟩]
 (.ite (.cmp .neq (.var 11) (.lit 0))
  (.ret (.tup [(.agg [(.int .i64 (.lit 0)), (.int .i64 (.lit 0))]), (.int .i64 (.var 11))]) [⟨[(.sl 6 (.lit 0) (.var 7) (.var 8)), (.int .i64 (.var 9))], 25⟩, ⟨[(.int .i64 (.lit 0)), (.int .i64 (.lit 0))], 37⟩])
  (.chk (.cmp .geq (.var 1) (.lit 0))
  (.chk (.cmp .geq (.var 4) (.lit 0))
  (.ite (.cmp .eql (.bin .mul .i64 (.var 9) (.bin .add .i64 (.var 1) (.var 4))) (.lit 0))
   (.ret (.tup [(.agg [(.int .i64 (.lit 0)), (.int .i64 (.lit 1))]), (.int .i64 (.lit 0))]) [⟨[(.sl 6 (.lit 0) (.var 7) (.var 8)), (.int .i64 (.var 9))], 25⟩, ⟨[(.int .i64 (.lit 0)), (.int .i64 (.lit 1))], 37⟩])
   (.call false 47 [(.int .i64 (.var 10)), (.int .i64 (.bin .mul .i64 (.var 9) (.bin .add .i64 (.var 1) (.var 4))))] (.agg [(.int .i64), (.int .i64)]) [⟨[(.sl 6 (.lit 0) (.var 7) (.var 8)), (.int .i64 (.var 9))], 25⟩, ⟨[(.int .i64 (.lit 0)), (.int .i64 (.lit 0))], 37⟩]
   (.ret (.tup [(.agg [(.int .i64 (.var 12)), (.int .i64 (.var 13))]), (.int .i64 (.lit 0))]) [⟨[(.sl 6 (.lit 0) (.var 7) (.var 8)), (.int .i64 (.var 9))], 25⟩, ⟨[(.int .i64 (.var 12)), (.int .i64 (.var 13))], 37⟩])))))))))
theorem S_ref17_Ratio : FnIs Tryd.prog n_ref17_Ratio [.sl, .sl, (.agg [.sl, (.int .i64)])] T_ref17_Ratio := ⟨Tryd.f22, [], 4000, Tryd.func22, by kernel_rfl⟩
/-! 26 ablaut/ablautref17.Score  -/
abbrev n_ref17_Score : FuncId := 26
def T_ref17_Score : Tree :=
 (.alloc
 (.alloc
 (.call false 42 [(.agg [(.sl 9 (.lit 0) (.var 10) (.var 11)), (.int .i64 (.var 12))]), (.slc 1 0 2 2)] (.int .i64) [⟨[(.sl 9 (.lit 0) (.var 10) (.var 11)), (.int .i64 (.var 12))], 25⟩, ⟨[(.sl 0 (.lit 0) (.var 1) (.var 2)), (.sl 3 (.lit 0) (.var 4) (.var 5))], 22⟩]
 (.ite (.cmp .neq (.var 13) (.lit 0))
  (.ret (.tup [(.int .i64 (.lit 0)), (.int .i64 (.var 13))]) [⟨[(.sl 9 (.lit 0) (.var 10) (.var 11)), (.int .i64 (.var 12))], 25⟩, ⟨[(.sl 0 (.lit 0) (.var 1) (.var 2)), (.sl 3 (.lit 0) (.var 4) (.var 5))], 22⟩])
  (.loop 0 [(.int .i64), (.int .i64), (.int .i64), (.int .i64), (.int .i64), (.int .i64)] [(.int .i64 (.lit 0)), (.int .i64 (.lit 0)), (.int .i64 (.lit 0)), (.int .i64 (.lit 0)), (.int .i64 (.lit 0)), (.int .i64 (.lit 0))] [⟨[(.sl 9 (.lit 0) (.var 10) (.var 11)), (.int .i64 (.var 12))], 25⟩, ⟨[(.sl 0 (.lit 0) (.var 1) (.var 2)), (.sl 3 (.lit 0) (.var 4) (.var 5))], 22⟩] [⟨[(.sl 9 (.lit 0) (.var 10) (.var 11)), (.int .i64 (.var 12))], 25⟩, ⟨[(.sl 0 (.lit 0) (.var 1) (.var 2)), (.sl 3 (.lit 0) (.var 4) (.var 5))], 22⟩]
   (.chk (.cmp .geq (.var 7) (.lit 0))
   (.ite (.cmp .lss (.var 19) (.var 7))
    (.chk (.pick (.cmp .geq (.var 19) (.lit 0)) (.pick (.cmp .lss (.var 19) (.var 7)) (.some 6) (.lit false)) (.lit false))
    (.load 6 (.off (.var 19) 2 (.lit 0)) [(.int .i64), (.int .i64)] [⟨[(.sl 9 (.lit 0) (.var 10) (.var 11)), (.int .i64 (.var 12))], 25⟩, ⟨[(.sl 0 (.lit 0) (.var 1) (.var 2)), (.sl 3 (.lit 0) (.var 4) (.var 5))], 22⟩]
    (.alloc
    (.chk (.cmp .geq (.var 1) (.lit 0))
    (.ite (.cmp .lss (.var 16) (.var 1))
     (.chk (.cmp .geq (.var 4) (.lit 0))
     (.ite (.pick (.cmp .lss (.var 17) (.var 4)) (.pick (.cmp .eql (.var 20) (.var 16)) (.cmp .eql (.var 21) (.var 17)) (.lit false)) (.lit false))
      (.chk (.pick (.cmp .geq (.var 16) (.lit 0)) (.pick (.cmp .lss (.var 16) (.var 1)) (.some 0) (.lit false)) (.lit false))
      (.load 0 (.off (.var 16) 2 (.lit 0)) [(.int .u32), (.int .u32)] [⟨[(.sl 9 (.lit 0) (.var 10) (.var 11)), (.int .i64 (.var 12))], 25⟩, ⟨[(.sl 0 (.lit 0) (.var 1) (.var 2)), (.sl 3 (.lit 0) (.var 4) (.var 5))], 22⟩, ⟨[(.int .i64 (.var 20)), (.int .i64 (.var 21))], 57⟩]
      (.chk (.pick (.cmp .geq (.var 17) (.lit 0)) (.pick (.cmp .lss (.var 17) (.var 4)) (.some 3) (.lit false)) (.lit false))
      (.load 3 (.off (.var 17) 2 (.lit 0)) [(.int .u32), (.int .u32)] [⟨[(.sl 9 (.lit 0) (.var 10) (.var 11)), (.int .i64 (.var 12))], 25⟩, ⟨[(.sl 0 (.lit 0) (.var 1) (.var 2)), (.sl 3 (.lit 0) (.var 4) (.var 5))], 22⟩, ⟨[(.int .i64 (.var 20)), (.int .i64 (.var 21))], 57⟩]
      (.call false 45 [(.agg [(.int .u32 (.var 22)), (.int .u32 (.var 23))]), (.agg [(.int .u32 (.var 24)), (.int .u32 (.var 25))]), (.agg [(.sl 9 (.lit 0) (.var 10) (.var 11)), (.int .i64 (.var 12))])] (.tup [(.int .i64), (.int .i64)]) [⟨[(.sl 9 (.lit 0) (.var 10) (.var 11)), (.int .i64 (.var 12))], 25⟩, ⟨[(.sl 0 (.lit 0) (.var 1) (.var 2)), (.sl 3 (.lit 0) (.var 4) (.var 5))], 22⟩, ⟨[(.int .i64 (.var 20)), (.int .i64 (.var 21))], 57⟩]
      (.again 0 2 [(.int .i64), (.int .i64), (.int .i64), (.int .i64), (.int .i64), (.int .i64)] [(.int .i64 (.var 14)), (.int .i64 (.var 15)), (.int .i64 (.bin .add .i64 (.var 16) (.lit 1))), (.int .i64 (.bin .add .i64 (.var 17) (.lit 1))), (.int .i64 (.bin .add .i64 (.var 18) (.var 26))), (.int .i64 (.bin .add .i64 (.var 19) (.lit 1)))] [⟨[(.sl 9 (.lit 0) (.var 10) (.var 11)), (.int .i64 (.var 12))], 25⟩, ⟨[(.sl 0 (.lit 0) (.var 1) (.var 2)), (.sl 3 (.lit 0) (.var 4) (.var 5))], 22⟩, ⟨[(.int .i64 (.var 20)), (.int .i64 (.var 21))], 57⟩]))))))
      (.chk (.cmp .geq (.var 1) (.lit 0))
      (.ite (.pick (.cmp .lss (.var 16) (.var 1)) (.pick (.cmp .eql (.var 20) (.var 16)) (.cmp .eql (.var 21) (.lit (-1))) (.lit false)) (.lit false))
       (.again 0 2 [(.int .i64), (.int .i64), (.int .i64), (.int .i64), (.int .i64), (.int .i64)] [(.int .i64 (.var 14)), (.int .i64 (.var 15)), (.int .i64 (.bin .add .i64 (.var 16) (.lit 1))), (.int .i64 (.var 17)), (.int .i64 (.bin .add .i64 (.var 18) (.var 12))), (.int .i64 (.bin .add .i64 (.var 19) (.lit 1)))] [⟨[(.sl 9 (.lit 0) (.var 10) (.var 11)), (.int .i64 (.var 12))], 25⟩, ⟨[(.sl 0 (.lit 0) (.var 1) (.var 2)), (.sl 3 (.lit 0) (.var 4) (.var 5))], 22⟩, ⟨[(.int .i64 (.var 20)), (.int .i64 (.var 21))], 57⟩])
       (.chk (.cmp .geq (.var 4) (.lit 0))
       (.ite (.pick (.cmp .lss (.var 17) (.var 4)) (.pick (.cmp .eql (.var 20) (.lit (-1))) (.cmp .eql (.var 21) (.var 17)) (.lit false)) (.lit false))
        (.again 0 2 [(.int .i64), (.int .i64), (.int .i64), (.int .i64), (.int .i64), (.int .i64)] [(.int .i64 (.var 14)), (.int .i64 (.var 15)), (.int .i64 (.var 16)), (.int .i64 (.bin .add .i64 (.var 17) (.lit 1))), (.int .i64 (.bin .add .i64 (.var 18) (.var 12))), (.int .i64 (.bin .add .i64 (.var 19) (.lit 1)))] [⟨[(.sl 9 (.lit 0) (.var 10) (.var 11)), (.int .i64 (.var 12))], 25⟩, ⟨[(.sl 0 (.lit 0) (.var 1) (.var 2)), (.sl 3 (.lit 0) (.var 4) (.var 5))], 22⟩, ⟨[(.int .i64 (.var 20)), (.int .i64 (.var 21))], 57⟩])
        (.ret (.tup [(.int .i64 (.lit 0)), (.int .i64 (.lit 8))]) [⟨[(.sl 9 (.lit 0) (.var 10) (.var 11)), (.int .i64 (.var 12))], 25⟩, ⟨[(.sl 0 (.lit 0) (.var 1) (.var 2)), (.sl 3 (.lit 0) (.var 4) (.var 5))], 22⟩, ⟨[(.int .i64 (.var 20)), (.int .i64 (.var 21))], 57⟩])))))))
     (.chk (.cmp .geq (.var 1) (.lit 0))
     (.ite (.pick (.cmp .lss (.var 16) (.var 1)) (.pick (.cmp .eql (.var 20) (.var 16)) (.cmp .eql (.var 21) (.lit (-1))) (.lit false)) (.lit false))
      (.again 0 2 [(.int .i64), (.int .i64), (.int .i64), (.int .i64), (.int .i64), (.int .i64)] [(.int .i64 (.var 14)), (.int .i64 (.var 15)), (.int .i64 (.bin .add .i64 (.var 16) (.lit 1))), (.int .i64 (.var 17)), (.int .i64 (.bin .add .i64 (.var 18) (.var 12))), (.int .i64 (.bin .add .i64 (.var 19) (.lit 1)))] [⟨[(.sl 9 (.lit 0) (.var 10) (.var 11)), (.int .i64 (.var 12))], 25⟩, ⟨[(.sl 0 (.lit 0) (.var 1) (.var 2)), (.sl 3 (.lit 0) (.var 4) (.var 5))], 22⟩, ⟨[(.int .i64 (.var 20)), (.int .i64 (.var 21))], 57⟩])
      (.chk (.cmp .geq (.var 4) (.lit 0))
      (.ite (.pick (.cmp .lss (.var 17) (.var 4)) (.pick (.cmp .eql (.var 20) (.lit (-1))) (.cmp .eql (.var 21) (.var 17)) (.lit false)) (.lit false))
       (.again 0 2 [(.int .i64), (.int .i64), (.int .i64), (.int .i64), (.int .i64), (.int .i64)] [(.int .i64 (.var 14)), (.int .i64 (.var 15)), (.int .i64 (.var 16)), (.int .i64 (.bin .add .i64 (.var 17) (.lit 1))), (.int .i64 (.bin .add .i64 (.var 18) (.var 12))), (.int .i64 (.bin .add .i64 (.var 19) (.lit 1)))] [⟨[(.sl 9 (.lit 0) (.var 10) (.var 11)), (.int .i64 (.var 12))], 25⟩, ⟨[(.sl 0 (.lit 0) (.var 1) (.var 2)), (.sl 3 (.lit 0) (.var 4) (.var 5))], 22⟩, ⟨[(.int .i64 (.var 20)), (.int .i64 (.var 21))], 57⟩])
       (.ret (.tup [(.int .i64 (.lit 0)), (.int .i64 (.lit 8))]) [⟨[(.sl 9 (.lit 0) (.var 10) (.var 11)), (.int .i64 (.var 12))], 25⟩, ⟨[(.sl 0 (.lit 0) (.var 1) (.var 2)), (.sl 3 (.lit 0) (.var 4) (.var 5))], 22⟩, ⟨[(.int .i64 (.var 20)), (.int .i64 (.var 21))], 57⟩]))))))))))
    (.chk (.cmp .geq (.var 1) (.lit 0))
    (.ite (.cmp .lss (.var 16) (.var 1))
     (.ret (.tup [(.int .i64 (.lit 0)), (.int .i64 (.lit 8))]) [⟨[(.sl 9 (.lit 0) (.var 10) (.var 11)), (.int .i64 (.var 12))], 25⟩, ⟨[(.sl 0 (.lit 0) (.var 1) (.var 2)), (.sl 3 (.lit 0) (.var 4) (.var 5))], 22⟩])
     (.chk (.cmp .geq (.var 4) (.lit 0))
     (.ite (.cmp .lss (.var 17) (.var 4))
      (.ret (.tup [(.int .i64 (.lit 0)), (.int .i64 (.lit 8))]) [⟨[(.sl 9 (.lit 0) (.var 10) (.var 11)), (.int .i64 (.var 12))], 25⟩, ⟨[(.sl 0 (.lit 0) (.var 1) (.var 2)), (.sl 3 (.lit 0) (.var 4) (.var 5))], 22⟩])
      (.ret (.tup [(.int .i64 (.var 18)), (.int .i64 (.lit 0))]) [⟨[(.sl 9 (.lit 0) (.var 10) (.var 11)), (.int .i64 (.var 12))], 25⟩, ⟨[(.sl 0 (.lit 0) (.var 1) (.var 2)), (.sl 3 (.lit 0) (.var 4) (.var 5))], 22⟩]))))))))))))
theorem S_ref17_Score : FnIs Tryd.prog n_ref17_Score [.sl, .sl, .sl, (.agg [.sl, (.int .i64)])] T_ref17_Score := ⟨Tryd.f26, [], 4000, Tryd.func26, by kernel_rfl⟩
/-! 28 ablaut/ablautref17.Longest  -/
abbrev n_ref17_Longest : FuncId := 28
def T_ref17_Longest : Tree :=
 (.alloc
 (.call false 42 [(.agg [(.cst (.slice none 0 0)), (.int .i64 (.lit 0))]), (.slc 0 0 2 2)] (.int .i64) [⟨[(.sl 0 (.lit 0) (.var 1) (.var 2)), (.sl 3 (.lit 0) (.var 4) (.var 5))], 22⟩]
 (.ite (.cmp .neq (.var 6) (.lit 0))
  (.ret (.tup [(.int .i64 (.lit 0)), (.int .i64 (.var 6))]) [⟨[(.sl 0 (.lit 0) (.var 1) (.var 2)), (.sl 3 (.lit 0) (.var 4) (.var 5))], 22⟩])
  (.chk (.cmp .geq (.var 1) (.lit 0))
  (.ext false ⟨(.makeSlice 97 (.tmp 0) (.tmp 0)), 97, [(.int .i64 (.bin .add .i64 (.var 1) (.lit 1))), (.int .i64 (.bin .add .i64 (.var 1) (.lit 1)))]⟩ .sl [⟨[(.sl 0 (.lit 0) (.var 1) (.var 2)), (.sl 3 (.lit 0) (.var 4) (.var 5))], 22⟩]
  (.chk (.cmp .geq (.var 1) (.lit 0))
  (.loop 0 [(.int .i64)] [(.int .i64 (.var 1))] [⟨[(.sl 0 (.lit 0) (.var 1) (.var 2)), (.sl 3 (.lit 0) (.var 4) (.var 5))], 22⟩] [⟨[(.sl 0 (.lit 0) (.var 1) (.var 2)), (.sl 3 (.lit 0) (.var 4) (.var 5))], 22⟩]
   (.ite (.cmp .geq (.var 10) (.lit 0))
    (.chk (.cmp .geq (.var 4) (.lit 0))
    (.ext false ⟨(.makeSlice 98 (.tmp 0) (.tmp 0)), 98, [(.int .i64 (.bin .add .i64 (.var 4) (.lit 1))), (.int .i64 (.bin .add .i64 (.var 4) (.lit 1)))]⟩ .sl [⟨[(.sl 0 (.lit 0) (.var 1) (.var 2)), (.sl 3 (.lit 0) (.var 4) (.var 5))], 22⟩]
    (.chk (.pick (.cmp .geq (.var 10) (.lit 0)) (.pick (.cmp .lss (.var 10) (.var 8)) (.some 7) (.lit false)) (.lit false))
    (.store false 7 (.off (.var 10) 1 (.lit 0)) [(.sl 11 (.lit 0) (.var 12) (.var 13))] [⟨[(.sl 0 (.lit 0) (.var 1) (.var 2)), (.sl 3 (.lit 0) (.var 4) (.var 5))], 22⟩]
    (.chk (.cmp .geq (.var 4) (.lit 0))
    (.loop 1 [(.int .i64)] [(.int .i64 (.bin .sub .i64 (.var 4) (.lit 1)))] [⟨[(.sl 0 (.lit 0) (.var 1) (.var 2)), (.sl 3 (.lit 0) (.var 4) (.var 5))], 22⟩] [⟨[(.sl 0 (.lit 0) (.var 1) (.var 2)), (.sl 3 (.lit 0) (.var 4) (.var 5))], 22⟩]
     (.join 2 [.bool] [⟨[(.sl 0 (.lit 0) (.var 1) (.var 2)), (.sl 3 (.lit 0) (.var 4) (.var 5))], 22⟩]
      (.ite (.cmp .geq (.var 14) (.lit 0))
       (.chk (.cmp .geq (.var 1) (.lit 0))
       (.again 2 1 [.bool] [(.bool (.cmp .lss (.var 10) (.var 1)))] [⟨[(.sl 0 (.lit 0) (.var 1) (.var 2)), (.sl 3 (.lit 0) (.var 4) (.var 5))], 22⟩]))
       (.again 2 1 [.bool] [(.bool (.lit false))] [⟨[(.sl 0 (.lit 0) (.var 1) (.var 2)), (.sl 3 (.lit 0) (.var 4) (.var 5))], 22⟩]))
     (.ite (.var 15)
      (.chk (.pick (.cmp .geq (.var 10) (.lit 0)) (.pick (.cmp .lss (.var 10) (.var 8)) (.some 7) (.lit false)) (.lit false))
      (.load 7 (.off (.var 10) 1 (.lit 0)) [.sl] [⟨[(.sl 0 (.lit 0) (.var 1) (.var 2)), (.sl 3 (.lit 0) (.var 4) (.var 5))], 22⟩]
      (.chk (.pick (.cmp .geq (.var 10) (.lit 0)) (.pick (.cmp .lss (.var 10) (.var 8)) (.some 7) (.lit false)) (.lit false))
      (.load 7 (.off (.var 10) 1 (.lit 0)) [.sl] [⟨[(.sl 0 (.lit 0) (.var 1) (.var 2)), (.sl 3 (.lit 0) (.var 4) (.var 5))], 22⟩]
      (.chk (.pick (.cmp .geq (.bin .add .i64 (.var 14) (.lit 1)) (.lit 0)) (.pick (.cmp .lss (.bin .add .i64 (.var 14) (.lit 1)) (.var 20)) (.some 19) (.lit false)) (.lit false))
      (.load 19 (.off (.bin .add .i64 (.var 14) (.lit 1)) 1 (.lit 0)) [(.int .i64)] [⟨[(.sl 0 (.lit 0) (.var 1) (.var 2)), (.sl 3 (.lit 0) (.var 4) (.var 5))], 22⟩]
      (.chk (.pick (.cmp .geq (.var 14) (.lit 0)) (.pick (.cmp .lss (.var 14) (.var 17)) (.some 16) (.lit false)) (.lit false))
      (.store false 16 (.off (.var 14) 1 (.lit 0)) [(.int .i64 (.var 22))] [⟨[(.sl 0 (.lit 0) (.var 1) (.var 2)), (.sl 3 (.lit 0) (.var 4) (.var 5))], 22⟩]
      (.chk (.pick (.cmp .geq (.bin .add .i64 (.var 10) (.lit 1)) (.lit 0)) (.pick (.cmp .lss (.bin .add .i64 (.var 10) (.lit 1)) (.var 8)) (.some 7) (.lit false)) (.lit false))
      (.load 7 (.off (.bin .add .i64 (.var 10) (.lit 1)) 1 (.lit 0)) [.sl] [⟨[(.sl 0 (.lit 0) (.var 1) (.var 2)), (.sl 3 (.lit 0) (.var 4) (.var 5))], 22⟩]
      (.chk (.pick (.cmp .geq (.var 14) (.lit 0)) (.pick (.cmp .lss (.var 14) (.var 24)) (.some 23) (.lit false)) (.lit false))
      (.load 23 (.off (.var 14) 1 (.lit 0)) [(.int .i64)] [⟨[(.sl 0 (.lit 0) (.var 1) (.var 2)), (.sl 3 (.lit 0) (.var 4) (.var 5))], 22⟩]
      (.chk (.pick (.cmp .geq (.var 10) (.lit 0)) (.pick (.cmp .lss (.var 10) (.var 8)) (.some 7) (.lit false)) (.lit false))
      (.load 7 (.off (.var 10) 1 (.lit 0)) [.sl] [⟨[(.sl 0 (.lit 0) (.var 1) (.var 2)), (.sl 3 (.lit 0) (.var 4) (.var 5))], 22⟩]
      (.chk (.pick (.cmp .geq (.var 14) (.lit 0)) (.pick (.cmp .lss (.var 14) (.var 28)) (.some 27) (.lit false)) (.lit false))
      (.load 27 (.off (.var 14) 1 (.lit 0)) [(.int .i64)] [⟨[(.sl 0 (.lit 0) (.var 1) (.var 2)), (.sl 3 (.lit 0) (.var 4) (.var 5))], 22⟩]
      (.join 2 [] [⟨[(.sl 0 (.lit 0) (.var 1) (.var 2)), (.sl 3 (.lit 0) (.var 4) (.var 5))], 22⟩]
       (.ite (.cmp .gtr (.var 26) (.var 30))
        (.chk (.pick (.cmp .geq (.var 10) (.lit 0)) (.pick (.cmp .lss (.var 10) (.var 8)) (.some 7) (.lit false)) (.lit false))
        (.load 7 (.off (.var 10) 1 (.lit 0)) [.sl] [⟨[(.sl 0 (.lit 0) (.var 1) (.var 2)), (.sl 3 (.lit 0) (.var 4) (.var 5))], 22⟩]
        (.chk (.pick (.cmp .geq (.bin .add .i64 (.var 10) (.lit 1)) (.lit 0)) (.pick (.cmp .lss (.bin .add .i64 (.var 10) (.lit 1)) (.var 8)) (.some 7) (.lit false)) (.lit false))
        (.load 7 (.off (.bin .add .i64 (.var 10) (.lit 1)) 1 (.lit 0)) [.sl] [⟨[(.sl 0 (.lit 0) (.var 1) (.var 2)), (.sl 3 (.lit 0) (.var 4) (.var 5))], 22⟩]
        (.chk (.pick (.cmp .geq (.var 14) (.lit 0)) (.pick (.cmp .lss (.var 14) (.var 35)) (.some 34) (.lit false)) (.lit false))
        (.load 34 (.off (.var 14) 1 (.lit 0)) [(.int .i64)] [⟨[(.sl 0 (.lit 0) (.var 1) (.var 2)), (.sl 3 (.lit 0) (.var 4) (.var 5))], 22⟩]
        (.chk (.pick (.cmp .geq (.var 14) (.lit 0)) (.pick (.cmp .lss (.var 14) (.var 32)) (.some 31) (.lit false)) (.lit false))
        (.store false 31 (.off (.var 14) 1 (.lit 0)) [(.int .i64 (.var 37))] [⟨[(.sl 0 (.lit 0) (.var 1) (.var 2)), (.sl 3 (.lit 0) (.var 4) (.var 5))], 22⟩]
        (.again 2 1 [] [] [⟨[(.sl 0 (.lit 0) (.var 1) (.var 2)), (.sl 3 (.lit 0) (.var 4) (.var 5))], 22⟩])))))))))
        (.again 2 1 [] [] [⟨[(.sl 0 (.lit 0) (.var 1) (.var 2)), (.sl 3 (.lit 0) (.var 4) (.var 5))], 22⟩]))
      (.join 2 [.bool] [⟨[(.sl 0 (.lit 0) (.var 1) (.var 2)), (.sl 3 (.lit 0) (.var 4) (.var 5))], 22⟩]
       (.chk (.pick (.cmp .geq (.var 10) (.lit 0)) (.pick (.cmp .lss (.var 10) (.var 1)) (.some 0) (.lit false)) (.lit false))
       (.load 0 (.off (.var 10) 2 (.lit 0)) [(.int .u32), (.int .u32)] [⟨[(.sl 0 (.lit 0) (.var 1) (.var 2)), (.sl 3 (.lit 0) (.var 4) (.var 5))], 22⟩]
       (.chk (.pick (.cmp .geq (.var 14) (.lit 0)) (.pick (.cmp .lss (.var 14) (.var 4)) (.some 3) (.lit false)) (.lit false))
       (.load 3 (.off (.var 14) 2 (.lit 0)) [(.int .u32), (.int .u32)] [⟨[(.sl 0 (.lit 0) (.var 1) (.var 2)), (.sl 3 (.lit 0) (.var 4) (.var 5))], 22⟩]
       (.ite (.pick (.cmp .eql (.var 31) (.var 33)) (.cmp .eql (.var 32) (.var 34)) (.lit false))
        (.chk (.pick (.cmp .geq (.bin .add .i64 (.var 10) (.lit 1)) (.lit 0)) (.pick (.cmp .lss (.bin .add .i64 (.var 10) (.lit 1)) (.var 8)) (.some 7) (.lit false)) (.lit false))
        (.load 7 (.off (.bin .add .i64 (.var 10) (.lit 1)) 1 (.lit 0)) [.sl] [⟨[(.sl 0 (.lit 0) (.var 1) (.var 2)), (.sl 3 (.lit 0) (.var 4) (.var 5))], 22⟩]
        (.chk (.pick (.cmp .geq (.bin .add .i64 (.var 14) (.lit 1)) (.lit 0)) (.pick (.cmp .lss (.bin .add .i64 (.var 14) (.lit 1)) (.var 36)) (.some 35) (.lit false)) (.lit false))
        (.load 35 (.off (.bin .add .i64 (.var 14) (.lit 1)) 1 (.lit 0)) [(.int .i64)] [⟨[(.sl 0 (.lit 0) (.var 1) (.var 2)), (.sl 3 (.lit 0) (.var 4) (.var 5))], 22⟩]
        (.chk (.pick (.cmp .geq (.var 10) (.lit 0)) (.pick (.cmp .lss (.var 10) (.var 8)) (.some 7) (.lit false)) (.lit false))
        (.load 7 (.off (.var 10) 1 (.lit 0)) [.sl] [⟨[(.sl 0 (.lit 0) (.var 1) (.var 2)), (.sl 3 (.lit 0) (.var 4) (.var 5))], 22⟩]
        (.chk (.pick (.cmp .geq (.var 14) (.lit 0)) (.pick (.cmp .lss (.var 14) (.var 40)) (.some 39) (.lit false)) (.lit false))
        (.load 39 (.off (.var 14) 1 (.lit 0)) [(.int .i64)] [⟨[(.sl 0 (.lit 0) (.var 1) (.var 2)), (.sl 3 (.lit 0) (.var 4) (.var 5))], 22⟩]
        (.again 2 1 [.bool] [(.bool (.cmp .gtr (.bin .add .i64 (.lit 1) (.var 38)) (.var 42)))] [⟨[(.sl 0 (.lit 0) (.var 1) (.var 2)), (.sl 3 (.lit 0) (.var 4) (.var 5))], 22⟩])))))))))
        (.again 2 1 [.bool] [(.bool (.lit false))] [⟨[(.sl 0 (.lit 0) (.var 1) (.var 2)), (.sl 3 (.lit 0) (.var 4) (.var 5))], 22⟩]))))))
      (.join 2 [] [⟨[(.sl 0 (.lit 0) (.var 1) (.var 2)), (.sl 3 (.lit 0) (.var 4) (.var 5))], 22⟩]
       (.ite (.var 31)
        (.chk (.pick (.cmp .geq (.var 10) (.lit 0)) (.pick (.cmp .lss (.var 10) (.var 8)) (.some 7) (.lit false)) (.lit false))
        (.load 7 (.off (.var 10) 1 (.lit 0)) [.sl] [⟨[(.sl 0 (.lit 0) (.var 1) (.var 2)), (.sl 3 (.lit 0) (.var 4) (.var 5))], 22⟩]
        (.chk (.pick (.cmp .geq (.bin .add .i64 (.var 10) (.lit 1)) (.lit 0)) (.pick (.cmp .lss (.bin .add .i64 (.var 10) (.lit 1)) (.var 8)) (.some 7) (.lit false)) (.lit false))
        (.load 7 (.off (.bin .add .i64 (.var 10) (.lit 1)) 1 (.lit 0)) [.sl] [⟨[(.sl 0 (.lit 0) (.var 1) (.var 2)), (.sl 3 (.lit 0) (.var 4) (.var 5))], 22⟩]
        (.chk (.pick (.cmp .geq (.bin .add .i64 (.var 14) (.lit 1)) (.lit 0)) (.pick (.cmp .lss (.bin .add .i64 (.var 14) (.lit 1)) (.var 36)) (.some 35) (.lit false)) (.lit false))
        (.load 35 (.off (.bin .add .i64 (.var 14) (.lit 1)) 1 (.lit 0)) [(.int .i64)] [⟨[(.sl 0 (.lit 0) (.var 1) (.var 2)), (.sl 3 (.lit 0) (.var 4) (.var 5))], 22⟩]
        (.chk (.pick (.cmp .geq (.var 14) (.lit 0)) (.pick (.cmp .lss (.var 14) (.var 33)) (.some 32) (.lit false)) (.lit false))
        (.store false 32 (.off (.var 14) 1 (.lit 0)) [(.int .i64 (.bin .add .i64 (.lit 1) (.var 38)))] [⟨[(.sl 0 (.lit 0) (.var 1) (.var 2)), (.sl 3 (.lit 0) (.var 4) (.var 5))], 22⟩]
        (.again 2 1 [] [] [⟨[(.sl 0 (.lit 0) (.var 1) (.var 2)), (.sl 3 (.lit 0) (.var 4) (.var 5))], 22⟩])))))))))
        (.again 2 1 [] [] [⟨[(.sl 0 (.lit 0) (.var 1) (.var 2)), (.sl 3 (.lit 0) (.var 4) (.var 5))], 22⟩]))
      (.again 1 1 [(.int .i64)] [(.int .i64 (.bin .sub .i64 (.var 14) (.lit 1)))] [⟨[(.sl 0 (.lit 0) (.var 1) (.var 2)), (.sl 3 (.lit 0) (.var 4) (.var 5))], 22⟩]))))))))))))))))))))
      (.again 0 1 [(.int .i64)] [(.int .i64 (.bin .sub .i64 (.var 10) (.lit 1)))] [⟨[(.sl 0 (.lit 0) (.var 1) (.var 2)), (.sl 3 (.lit 0) (.var 4) (.var 5))], 22⟩])))))))))
    (.chk (.pick (.cmp .lss (.lit 0) (.var 8)) (.some 7) (.lit false))
    (.load 7 (.lit 0) [.sl] [⟨[(.sl 0 (.lit 0) (.var 1) (.var 2)), (.sl 3 (.lit 0) (.var 4) (.var 5))], 22⟩]
    (.chk (.pick (.cmp .lss (.lit 0) (.var 12)) (.some 11) (.lit false))
    (.load 11 (.lit 0) [(.int .i64)] [⟨[(.sl 0 (.lit 0) (.var 1) (.var 2)), (.sl 3 (.lit 0) (.var 4) (.var 5))], 22⟩]
    (.ret (.tup [(.int .i64 (.var 14)), (.int .i64 (.lit 0))]) [⟨[(.sl 0 (.lit 0) (.var 1) (.var 2)), (.sl 3 (.lit 0) (.var 4) (.var 5))], 22⟩])))))))))))))
theorem S_ref17_Longest : FnIs Tryd.prog n_ref17_Longest [.sl, .sl] T_ref17_Longest := ⟨Tryd.f28, [{ key := 200010, tmps := [(45, .bool)], join := true, dead := 5575184970404660000316940936868017043602444 }, { key := 14, tmps := [], join := true }, { key := 200015, tmps := [(120, .bool)], join := true }, { key := 16, tmps := [], join := true }], 4000, Tryd.func28, by kernel_rfl⟩
/-! 34 ablaut/ablautref17.Matrix  -/
abbrev n_ref17_Matrix : FuncId := 34
def T_ref17_Matrix : Tree :=
 (.alloc
 (.call false 42 [(.agg [(.sl 3 (.lit 0) (.var 4) (.var 5)), (.int .i64 (.var 6))]), (.cst (.slice none 0 0))] (.int .i64) [⟨[(.sl 3 (.lit 0) (.var 4) (.var 5)), (.int .i64 (.var 6))], 25⟩]
 (.ite (.cmp .neq (.var 7) (.lit 0))
  (.ret (.tup [(.cst (.slice none 0 0)), (.int .i64 (.var 7))]) [⟨[(.sl 3 (.lit 0) (.var 4) (.var 5)), (.int .i64 (.var 6))], 25⟩])
  (.chk (.cmp .geq (.var 1) (.lit 0))
  (.ite (.cmp .gtr (.var 1) (.lit 64))
   (.ret (.tup [(.cst (.slice none 0 0)), (.int .i64 (.lit 12))]) [⟨[(.sl 3 (.lit 0) (.var 4) (.var 5)), (.int .i64 (.var 6))], 25⟩])
   (.call false 42 [(.agg [(.sl 3 (.lit 0) (.var 4) (.var 5)), (.int .i64 (.var 6))]), (.sl 0 (.lit 0) (.var 1) (.var 2))] (.int .i64) [⟨[(.sl 3 (.lit 0) (.var 4) (.var 5)), (.int .i64 (.var 6))], 25⟩]
   (.ite (.cmp .neq (.var 8) (.lit 0))
    (.ret (.tup [(.cst (.slice none 0 0)), (.int .i64 (.var 8))]) [⟨[(.sl 3 (.lit 0) (.var 4) (.var 5)), (.int .i64 (.var 6))], 25⟩])
    (.loop 0 [.sl, (.int .i64)] [(.cst (.slice none 0 0)), (.int .i64 (.lit 0))] [⟨[(.sl 3 (.lit 0) (.var 4) (.var 5)), (.int .i64 (.var 6))], 25⟩] [⟨[(.sl 3 (.lit 0) (.var 4) (.var 5)), (.int .i64 (.var 6))], 25⟩]
     (.chk (.cmp .geq (.var 1) (.lit 0))
     (.ite (.cmp .lss (.var 12) (.var 1))
      (.loop 1 [.sl, (.int .i64)] [(.sl 9 (.lit 0) (.var 10) (.var 11)), (.int .i64 (.lit 0))] [⟨[(.sl 3 (.lit 0) (.var 4) (.var 5)), (.int .i64 (.var 6))], 25⟩] [⟨[(.sl 3 (.lit 0) (.var 4) (.var 5)), (.int .i64 (.var 6))], 25⟩]
       (.chk (.cmp .geq (.var 1) (.lit 0))
       (.ite (.cmp .lss (.var 16) (.var 1))
        (.chk (.pick (.cmp .geq (.var 12) (.lit 0)) (.pick (.cmp .lss (.var 12) (.var 1)) (.some 0) (.lit false)) (.lit false))
        (.load 0 (.off (.var 12) 1 (.lit 0)) [.sl] [⟨[(.sl 3 (.lit 0) (.var 4) (.var 5)), (.int .i64 (.var 6))], 25⟩]
        (.chk (.pick (.cmp .geq (.var 16) (.lit 0)) (.pick (.cmp .lss (.var 16) (.var 1)) (.some 0) (.lit false)) (.lit false))
        (.load 0 (.off (.var 16) 1 (.lit 0)) [.sl] [⟨[(.sl 3 (.lit 0) (.var 4) (.var 5)), (.int .i64 (.var 6))], 25⟩]
        (.call false 43 [(.sl 17 (.lit 0) (.var 18) (.var 19)), (.sl 20 (.lit 0) (.var 21) (.var 22)), (.agg [(.sl 3 (.lit 0) (.var 4) (.var 5)), (.int .i64 (.var 6))])] .sl [⟨[(.sl 3 (.lit 0) (.var 4) (.var 5)), (.int .i64 (.var 6))], 25⟩]
        (.chk (.pick (.cmp .lss (.lit 0) (.var 24)) (.some 23) (.lit false))
        (.load 23 (.lit 0) [.sl] [⟨[(.sl 3 (.lit 0) (.var 4) (.var 5)), (.int .i64 (.var 6))], 25⟩]
        (.chk (.pick (.cmp .lss (.lit 0) (.var 27)) (.some 26) (.lit false))
        (.load 26 (.lit 0) [(.int .i64)] [⟨[(.sl 3 (.lit 0) (.var 4) (.var 5)), (.int .i64 (.var 6))], 25⟩]
        (.alloc
        (.ext false ⟨(.call ⟨.builtin .append, #[(.tmp 0), (.tmp 0)], #[23, 23]⟩), 23, [(.sl 13 (.lit 0) (.var 14) (.var 15)), (.slc 1 0 1 1)]⟩ .sl [⟨[(.sl 3 (.lit 0) (.var 4) (.var 5)), (.int .i64 (.var 6))], 25⟩, ⟨[(.int .i64 (.var 29))], 2⟩]
        (.again 1 1 [.sl, (.int .i64)] [(.sl 30 (.lit 0) (.var 31) (.var 32)), (.int .i64 (.bin .add .i64 (.var 16) (.lit 1)))] [⟨[(.sl 3 (.lit 0) (.var 4) (.var 5)), (.int .i64 (.var 6))], 25⟩, ⟨[(.int .i64 (.var 29))], 2⟩]))))))))))))
        (.again 0 1 [.sl, (.int .i64)] [(.sl 13 (.lit 0) (.var 14) (.var 15)), (.int .i64 (.bin .add .i64 (.var 12) (.lit 1)))] [⟨[(.sl 3 (.lit 0) (.var 4) (.var 5)), (.int .i64 (.var 6))], 25⟩]))))
      (.ret (.tup [(.sl 9 (.lit 0) (.var 10) (.var 11)), (.int .i64 (.lit 0))]) [⟨[(.sl 3 (.lit 0) (.var 4) (.var 5)), (.int .i64 (.var 6))], 25⟩])))))))))))
theorem S_ref17_Matrix : FnIs Tryd.prog n_ref17_Matrix [.sl, (.agg [.sl, (.int .i64)])] T_ref17_Matrix := ⟨Tryd.f34, [], 4000, Tryd.func34, by kernel_rfl⟩
/-! 36 ablaut/ablautref17.Near  -/
abbrev n_ref17_Near : FuncId := 36
def T_ref17_Near : Tree :=
 (.alloc
 (.alloc
 (.call false 42 [(.agg [(.sl 6 (.lit 0) (.var 7) (.var 8)), (.int .i64 (.var 9))]), (.slc 1 0 1 1)] (.int .i64) [⟨[(.sl 6 (.lit 0) (.var 7) (.var 8)), (.int .i64 (.var 9))], 25⟩, ⟨[(.sl 0 (.lit 0) (.var 1) (.var 2))], 22⟩]
 (.ite (.cmp .neq (.var 10) (.lit 0))
  (.ret (.tup [(.int .i64 (.lit 0)), (.int .i64 (.lit 0)), (.int .i64 (.var 10))]) [⟨[(.sl 6 (.lit 0) (.var 7) (.var 8)), (.int .i64 (.var 9))], 25⟩, ⟨[(.sl 0 (.lit 0) (.var 1) (.var 2))], 22⟩])
  (.chk (.cmp .geq (.var 4) (.lit 0))
  (.ite (.cmp .gtr (.var 4) (.lit 256))
   (.ret (.tup [(.int .i64 (.lit 0)), (.int .i64 (.lit 0)), (.int .i64 (.lit 12))]) [⟨[(.sl 6 (.lit 0) (.var 7) (.var 8)), (.int .i64 (.var 9))], 25⟩, ⟨[(.sl 0 (.lit 0) (.var 1) (.var 2))], 22⟩])
   (.call false 42 [(.agg [(.sl 6 (.lit 0) (.var 7) (.var 8)), (.int .i64 (.var 9))]), (.sl 3 (.lit 0) (.var 4) (.var 5))] (.int .i64) [⟨[(.sl 6 (.lit 0) (.var 7) (.var 8)), (.int .i64 (.var 9))], 25⟩, ⟨[(.sl 0 (.lit 0) (.var 1) (.var 2))], 22⟩]
   (.ite (.cmp .neq (.var 11) (.lit 0))
    (.ret (.tup [(.int .i64 (.lit 0)), (.int .i64 (.lit 0)), (.int .i64 (.var 11))]) [⟨[(.sl 6 (.lit 0) (.var 7) (.var 8)), (.int .i64 (.var 9))], 25⟩, ⟨[(.sl 0 (.lit 0) (.var 1) (.var 2))], 22⟩])
    (.chk (.cmp .geq (.var 4) (.lit 0))
    (.ite (.cmp .eql (.var 4) (.lit 0))
     (.ret (.tup [(.int .i64 (.lit 0)), (.int .i64 (.lit 0)), (.int .i64 (.lit 5))]) [⟨[(.sl 6 (.lit 0) (.var 7) (.var 8)), (.int .i64 (.var 9))], 25⟩, ⟨[(.sl 0 (.lit 0) (.var 1) (.var 2))], 22⟩])
     (.loop 0 [(.int .i64), (.int .i64), (.int .i64)] [(.int .i64 (.lit 0)), (.int .i64 (.lit (-1))), (.int .i64 (.lit 0))] [⟨[(.sl 6 (.lit 0) (.var 7) (.var 8)), (.int .i64 (.var 9))], 25⟩, ⟨[(.sl 0 (.lit 0) (.var 1) (.var 2))], 22⟩] [⟨[(.sl 6 (.lit 0) (.var 7) (.var 8)), (.int .i64 (.var 9))], 25⟩, ⟨[(.sl 0 (.lit 0) (.var 1) (.var 2))], 22⟩]
      (.chk (.cmp .geq (.var 4) (.lit 0))
      (.ite (.cmp .lss (.var 14) (.var 4))
       (.chk (.pick (.cmp .geq (.var 14) (.lit 0)) (.pick (.cmp .lss (.var 14) (.var 4)) (.some 3) (.lit false)) (.lit false))
       (.load 3 (.off (.var 14) 1 (.lit 0)) [.sl] [⟨[(.sl 6 (.lit 0) (.var 7) (.var 8)), (.int .i64 (.var 9))], 25⟩, ⟨[(.sl 0 (.lit 0) (.var 1) (.var 2))], 22⟩]
       (.call false 43 [(.sl 0 (.lit 0) (.var 1) (.var 2)), (.sl 15 (.lit 0) (.var 16) (.var 17)), (.agg [(.sl 6 (.lit 0) (.var 7) (.var 8)), (.int .i64 (.var 9))])] .sl [⟨[(.sl 6 (.lit 0) (.var 7) (.var 8)), (.int .i64 (.var 9))], 25⟩, ⟨[(.sl 0 (.lit 0) (.var 1) (.var 2))], 22⟩]
       (.chk (.pick (.cmp .lss (.lit 0) (.var 19)) (.some 18) (.lit false))
       (.load 18 (.lit 0) [.sl] [⟨[(.sl 6 (.lit 0) (.var 7) (.var 8)), (.int .i64 (.var 9))], 25⟩, ⟨[(.sl 0 (.lit 0) (.var 1) (.var 2))], 22⟩]
       (.chk (.pick (.cmp .lss (.lit 0) (.var 22)) (.some 21) (.lit false))
       (.load 21 (.lit 0) [(.int .i64)] [⟨[(.sl 6 (.lit 0) (.var 7) (.var 8)), (.int .i64 (.var 9))], 25⟩, ⟨[(.sl 0 (.lit 0) (.var 1) (.var 2))], 22⟩]
       (.ite (.pick (.cmp .lss (.var 13) (.lit 0)) (.lit true) (.cmp .lss (.var 24) (.var 13)))
        (.again 0 2 [(.int .i64), (.int .i64), (.int .i64)] [(.int .i64 (.var 14)), (.int .i64 (.var 24)), (.int .i64 (.bin .add .i64 (.var 14) (.lit 1)))] [⟨[(.sl 6 (.lit 0) (.var 7) (.var 8)), (.int .i64 (.var 9))], 25⟩, ⟨[(.sl 0 (.lit 0) (.var 1) (.var 2))], 22⟩])
        (.again 0 2 [(.int .i64), (.int .i64), (.int .i64)] [(.int .i64 (.var 12)), (.int .i64 (.var 13)), (.int .i64 (.bin .add .i64 (.var 14) (.lit 1)))] [⟨[(.sl 6 (.lit 0) (.var 7) (.var 8)), (.int .i64 (.var 9))], 25⟩, ⟨[(.sl 0 (.lit 0) (.var 1) (.var 2))], 22⟩])))))))))
       (.ret (.tup [(.int .i64 (.var 12)), (.int .i64 (.var 13)), (.int .i64 (.lit 0))]) [⟨[(.sl 6 (.lit 0) (.var 7) (.var 8)), (.int .i64 (.var 9))], 25⟩, ⟨[(.sl 0 (.lit 0) (.var 1) (.var 2))], 22⟩]))))))))))))))
theorem S_ref17_Near : FnIs Tryd.prog n_ref17_Near [.sl, .sl, (.agg [.sl, (.int .i64)])] T_ref17_Near := ⟨Tryd.f36, [], 4000, Tryd.func36, by kernel_rfl⟩
/-! 43 ablaut/ablautref17.rest  -/
abbrev n_ref17_rest : FuncId := 43
def T_ref17_rest : Tree :=
 (.alloc
 (.chk (.cmp .geq (.var 1) (.lit 0))
 (.ext false ⟨(.makeSlice 81 (.tmp 0) (.tmp 0)), 81, [(.int .i64 (.bin .add .i64 (.var 1) (.lit 1))), (.int .i64 (.bin .add .i64 (.var 1) (.lit 1)))]⟩ .sl [⟨[(.sl 6 (.lit 0) (.var 7) (.var 8)), (.int .i64 (.var 9))], 25⟩]
 (.chk (.cmp .geq (.var 1) (.lit 0))
 (.loop 0 [(.int .i64)] [(.int .i64 (.var 1))] [⟨[(.sl 6 (.lit 0) (.var 7) (.var 8)), (.int .i64 (.var 9))], 25⟩] [⟨[(.sl 6 (.lit 0) (.var 7) (.var 8)), (.int .i64 (.var 9))], 25⟩]
  (.ite (.cmp .geq (.var 13) (.lit 0))
   (.chk (.cmp .geq (.var 4) (.lit 0))
   (.ext false ⟨(.makeSlice 23 (.tmp 0) (.tmp 0)), 23, [(.int .i64 (.bin .add .i64 (.var 4) (.lit 1))), (.int .i64 (.bin .add .i64 (.var 4) (.lit 1)))]⟩ .sl [⟨[(.sl 6 (.lit 0) (.var 7) (.var 8)), (.int .i64 (.var 9))], 25⟩]
   (.chk (.pick (.cmp .geq (.var 13) (.lit 0)) (.pick (.cmp .lss (.var 13) (.var 11)) (.some 10) (.lit false)) (.lit false))
   (.store false 10 (.off (.var 13) 1 (.lit 0)) [(.sl 14 (.lit 0) (.var 15) (.var 16))] [⟨[(.sl 6 (.lit 0) (.var 7) (.var 8)), (.int .i64 (.var 9))], 25⟩]
   (.chk (.cmp .geq (.var 4) (.lit 0))
   (.loop 1 [(.int .i64)] [(.int .i64 (.var 4))] [⟨[(.sl 6 (.lit 0) (.var 7) (.var 8)), (.int .i64 (.var 9))], 25⟩] [⟨[(.sl 6 (.lit 0) (.var 7) (.var 8)), (.int .i64 (.var 9))], 25⟩]
    (.ite (.cmp .geq (.var 17) (.lit 0))
     (.join 2 [.bool] [⟨[(.sl 6 (.lit 0) (.var 7) (.var 8)), (.int .i64 (.var 9))], 25⟩]
      (.chk (.cmp .geq (.var 1) (.lit 0))
      (.ite (.cmp .eql (.var 13) (.var 1))
       (.chk (.cmp .geq (.var 4) (.lit 0))
       (.again 2 1 [.bool] [(.bool (.cmp .eql (.var 17) (.var 4)))] [⟨[(.sl 6 (.lit 0) (.var 7) (.var 8)), (.int .i64 (.var 9))], 25⟩]))
       (.again 2 1 [.bool] [(.bool (.lit false))] [⟨[(.sl 6 (.lit 0) (.var 7) (.var 8)), (.int .i64 (.var 9))], 25⟩])))
     (.join 2 [(.int .i64)] [⟨[(.sl 6 (.lit 0) (.var 7) (.var 8)), (.int .i64 (.var 9))], 25⟩]
      (.ite (.var 18)
       (.again 2 1 [(.int .i64)] [(.int .i64 (.lit 0))] [⟨[(.sl 6 (.lit 0) (.var 7) (.var 8)), (.int .i64 (.var 9))], 25⟩])
       (.again 2 1 [(.int .i64)] [(.int .i64 (.lit (-1)))] [⟨[(.sl 6 (.lit 0) (.var 7) (.var 8)), (.int .i64 (.var 9))], 25⟩]))
     (.join 2 [.bool] [⟨[(.sl 6 (.lit 0) (.var 7) (.var 8)), (.int .i64 (.var 9))], 25⟩]
      (.chk (.cmp .geq (.var 1) (.lit 0))
      (.ite (.cmp .lss (.var 13) (.var 1))
       (.chk (.cmp .geq (.var 4) (.lit 0))
       (.again 2 1 [.bool] [(.bool (.cmp .lss (.var 17) (.var 4)))] [⟨[(.sl 6 (.lit 0) (.var 7) (.var 8)), (.int .i64 (.var 9))], 25⟩]))
       (.again 2 1 [.bool] [(.bool (.lit false))] [⟨[(.sl 6 (.lit 0) (.var 7) (.var 8)), (.int .i64 (.var 9))], 25⟩])))
     (.join 2 [(.int .i64)] [⟨[(.sl 6 (.lit 0) (.var 7) (.var 8)), (.int .i64 (.var 9))], 25⟩]
      (.ite (.var 20)
       (.chk (.pick (.cmp .geq (.var 13) (.lit 0)) (.pick (.cmp .lss (.var 13) (.var 1)) (.some 0) (.lit false)) (.lit false))
       (.load 0 (.off (.var 13) 2 (.lit 0)) [(.int .u32), (.int .u32)] [⟨[(.sl 6 (.lit 0) (.var 7) (.var 8)), (.int .i64 (.var 9))], 25⟩]
       (.chk (.pick (.cmp .geq (.var 17) (.lit 0)) (.pick (.cmp .lss (.var 17) (.var 4)) (.some 3) (.lit false)) (.lit false))
       (.load 3 (.off (.var 17) 2 (.lit 0)) [(.int .u32), (.int .u32)] [⟨[(.sl 6 (.lit 0) (.var 7) (.var 8)), (.int .i64 (.var 9))], 25⟩]
       (.call false 45 [(.agg [(.int .u32 (.var 21)), (.int .u32 (.var 22))]), (.agg [(.int .u32 (.var 23)), (.int .u32 (.var 24))]), (.agg [(.sl 6 (.lit 0) (.var 7) (.var 8)), (.int .i64 (.var 9))])] (.tup [(.int .i64), (.int .i64)]) [⟨[(.sl 6 (.lit 0) (.var 7) (.var 8)), (.int .i64 (.var 9))], 25⟩]
       (.chk (.pick (.cmp .geq (.bin .add .i64 (.var 13) (.lit 1)) (.lit 0)) (.pick (.cmp .lss (.bin .add .i64 (.var 13) (.lit 1)) (.var 11)) (.some 10) (.lit false)) (.lit false))
       (.load 10 (.off (.bin .add .i64 (.var 13) (.lit 1)) 1 (.lit 0)) [.sl] [⟨[(.sl 6 (.lit 0) (.var 7) (.var 8)), (.int .i64 (.var 9))], 25⟩]
       (.chk (.pick (.cmp .geq (.bin .add .i64 (.var 17) (.lit 1)) (.lit 0)) (.pick (.cmp .lss (.bin .add .i64 (.var 17) (.lit 1)) (.var 28)) (.some 27) (.lit false)) (.lit false))
       (.load 27 (.off (.bin .add .i64 (.var 17) (.lit 1)) 1 (.lit 0)) [(.int .i64)] [⟨[(.sl 6 (.lit 0) (.var 7) (.var 8)), (.int .i64 (.var 9))], 25⟩]
       (.again 2 1 [(.int .i64)] [(.int .i64 (.bin .add .i64 (.var 25) (.var 30)))] [⟨[(.sl 6 (.lit 0) (.var 7) (.var 8)), (.int .i64 (.var 9))], 25⟩]))))))))))
       (.again 2 1 [(.int .i64)] [(.int .i64 (.var 19))] [⟨[(.sl 6 (.lit 0) (.var 7) (.var 8)), (.int .i64 (.var 9))], 25⟩]))
     (.join 2 [.bool] [⟨[(.sl 6 (.lit 0) (.var 7) (.var 8)), (.int .i64 (.var 9))], 25⟩]
      (.chk (.cmp .geq (.var 1) (.lit 0))
      (.ite (.cmp .lss (.var 13) (.var 1))
       (.ite (.cmp .lss (.var 21) (.lit 0))
        (.again 2 1 [.bool] [(.bool (.lit true))] [⟨[(.sl 6 (.lit 0) (.var 7) (.var 8)), (.int .i64 (.var 9))], 25⟩])
        (.chk (.pick (.cmp .geq (.bin .add .i64 (.var 13) (.lit 1)) (.lit 0)) (.pick (.cmp .lss (.bin .add .i64 (.var 13) (.lit 1)) (.var 11)) (.some 10) (.lit false)) (.lit false))
        (.load 10 (.off (.bin .add .i64 (.var 13) (.lit 1)) 1 (.lit 0)) [.sl] [⟨[(.sl 6 (.lit 0) (.var 7) (.var 8)), (.int .i64 (.var 9))], 25⟩]
        (.chk (.pick (.cmp .geq (.var 17) (.lit 0)) (.pick (.cmp .lss (.var 17) (.var 23)) (.some 22) (.lit false)) (.lit false))
        (.load 22 (.off (.var 17) 1 (.lit 0)) [(.int .i64)] [⟨[(.sl 6 (.lit 0) (.var 7) (.var 8)), (.int .i64 (.var 9))], 25⟩]
        (.again 2 1 [.bool] [(.bool (.cmp .lss (.bin .add .i64 (.var 9) (.var 25)) (.var 21)))] [⟨[(.sl 6 (.lit 0) (.var 7) (.var 8)), (.int .i64 (.var 9))], 25⟩]))))))
       (.again 2 1 [.bool] [(.bool (.lit false))] [⟨[(.sl 6 (.lit 0) (.var 7) (.var 8)), (.int .i64 (.var 9))], 25⟩])))
     (.join 2 [(.int .i64)] [⟨[(.sl 6 (.lit 0) (.var 7) (.var 8)), (.int .i64 (.var 9))], 25⟩]
      (.ite (.var 22)
       (.chk (.pick (.cmp .geq (.bin .add .i64 (.var 13) (.lit 1)) (.lit 0)) (.pick (.cmp .lss (.bin .add .i64 (.var 13) (.lit 1)) (.var 11)) (.some 10) (.lit false)) (.lit false))
       (.load 10 (.off (.bin .add .i64 (.var 13) (.lit 1)) 1 (.lit 0)) [.sl] [⟨[(.sl 6 (.lit 0) (.var 7) (.var 8)), (.int .i64 (.var 9))], 25⟩]
       (.chk (.pick (.cmp .geq (.var 17) (.lit 0)) (.pick (.cmp .lss (.var 17) (.var 24)) (.some 23) (.lit false)) (.lit false))
       (.load 23 (.off (.var 17) 1 (.lit 0)) [(.int .i64)] [⟨[(.sl 6 (.lit 0) (.var 7) (.var 8)), (.int .i64 (.var 9))], 25⟩]
       (.again 2 1 [(.int .i64)] [(.int .i64 (.bin .add .i64 (.var 9) (.var 26)))] [⟨[(.sl 6 (.lit 0) (.var 7) (.var 8)), (.int .i64 (.var 9))], 25⟩])))))
       (.again 2 1 [(.int .i64)] [(.int .i64 (.var 21))] [⟨[(.sl 6 (.lit 0) (.var 7) (.var 8)), (.int .i64 (.var 9))], 25⟩]))
     (.join 2 [.bool] [⟨[(.sl 6 (.lit 0) (.var 7) (.var 8)), (.int .i64 (.var 9))], 25⟩]
      (.chk (.cmp .geq (.var 4) (.lit 0))
      (.ite (.cmp .lss (.var 17) (.var 4))
       (.ite (.cmp .lss (.var 23) (.lit 0))
        (.again 2 1 [.bool] [(.bool (.lit true))] [⟨[(.sl 6 (.lit 0) (.var 7) (.var 8)), (.int .i64 (.var 9))], 25⟩])
        (.chk (.pick (.cmp .geq (.var 13) (.lit 0)) (.pick (.cmp .lss (.var 13) (.var 11)) (.some 10) (.lit false)) (.lit false))
        (.load 10 (.off (.var 13) 1 (.lit 0)) [.sl] [⟨[(.sl 6 (.lit 0) (.var 7) (.var 8)), (.int .i64 (.var 9))], 25⟩]
        (.chk (.pick (.cmp .geq (.bin .add .i64 (.var 17) (.lit 1)) (.lit 0)) (.pick (.cmp .lss (.bin .add .i64 (.var 17) (.lit 1)) (.var 25)) (.some 24) (.lit false)) (.lit false))
        (.load 24 (.off (.bin .add .i64 (.var 17) (.lit 1)) 1 (.lit 0)) [(.int .i64)] [⟨[(.sl 6 (.lit 0) (.var 7) (.var 8)), (.int .i64 (.var 9))], 25⟩]
        (.again 2 1 [.bool] [(.bool (.cmp .lss (.bin .add .i64 (.var 9) (.var 27)) (.var 23)))] [⟨[(.sl 6 (.lit 0) (.var 7) (.var 8)), (.int .i64 (.var 9))], 25⟩]))))))
       (.again 2 1 [.bool] [(.bool (.lit false))] [⟨[(.sl 6 (.lit 0) (.var 7) (.var 8)), (.int .i64 (.var 9))], 25⟩])))
     (.join 2 [(.int .i64)] [⟨[(.sl 6 (.lit 0) (.var 7) (.var 8)), (.int .i64 (.var 9))], 25⟩]
      (.ite (.var 24)
       (.chk (.pick (.cmp .geq (.var 13) (.lit 0)) (.pick (.cmp .lss (.var 13) (.var 11)) (.some 10) (.lit false)) (.lit false))
       (.load 10 (.off (.var 13) 1 (.lit 0)) [.sl] [⟨[(.sl 6 (.lit 0) (.var 7) (.var 8)), (.int .i64 (.var 9))], 25⟩]
       (.chk (.pick (.cmp .geq (.bin .add .i64 (.var 17) (.lit 1)) (.lit 0)) (.pick (.cmp .lss (.bin .add .i64 (.var 17) (.lit 1)) (.var 26)) (.some 25) (.lit false)) (.lit false))
       (.load 25 (.off (.bin .add .i64 (.var 17) (.lit 1)) 1 (.lit 0)) [(.int .i64)] [⟨[(.sl 6 (.lit 0) (.var 7) (.var 8)), (.int .i64 (.var 9))], 25⟩]
       (.again 2 1 [(.int .i64)] [(.int .i64 (.bin .add .i64 (.var 9) (.var 28)))] [⟨[(.sl 6 (.lit 0) (.var 7) (.var 8)), (.int .i64 (.var 9))], 25⟩])))))
       (.again 2 1 [(.int .i64)] [(.int .i64 (.var 23))] [⟨[(.sl 6 (.lit 0) (.var 7) (.var 8)), (.int .i64 (.var 9))], 25⟩]))
     (.chk (.pick (.cmp .geq (.var 13) (.lit 0)) (.pick (.cmp .lss (.var 13) (.var 11)) (.some 10) (.lit false)) (.lit false))
     (.load 10 (.off (.var 13) 1 (.lit 0)) [.sl] [⟨[(.sl 6 (.lit 0) (.var 7) (.var 8)), (.int .i64 (.var 9))], 25⟩]
     (.chk (.pick (.cmp .geq (.var 17) (.lit 0)) (.pick (.cmp .lss (.var 17) (.var 27)) (.some 26) (.lit false)) (.lit false))
     (.store false 26 (.off (.var 17) 1 (.lit 0)) [(.int .i64 (.var 25))] [⟨[(.sl 6 (.lit 0) (.var 7) (.var 8)), (.int .i64 (.var 9))], 25⟩]
     (.again 1 1 [(.int .i64)] [(.int .i64 (.bin .sub .i64 (.var 17) (.lit 1)))] [⟨[(.sl 6 (.lit 0) (.var 7) (.var 8)), (.int .i64 (.var 9))], 25⟩])))))))))))))
     (.again 0 1 [(.int .i64)] [(.int .i64 (.bin .sub .i64 (.var 13) (.lit 1)))] [⟨[(.sl 6 (.lit 0) (.var 7) (.var 8)), (.int .i64 (.var 9))], 25⟩]))))))))
   (.ret (.sl 10 (.lit 0) (.var 11) (.var 12)) [⟨[(.sl 6 (.lit 0) (.var 7) (.var 8)), (.int .i64 (.var 9))], 25⟩])))))))
theorem S_ref17_rest : FnIs Tryd.prog n_ref17_rest [.sl, .sl, (.agg [.sl, (.int .i64)])] T_ref17_rest := ⟨Tryd.f43, [{ key := 200010, tmps := [(45, .bool)], join := true, dead := 91343765220895495556881254507914516219038789656 }, { key := 11, tmps := [], join := true }, { key := 200012, tmps := [(55, .bool)], join := true }, { key := 13, tmps := [], join := true }, { key := 200015, tmps := [(102, .bool)], join := true }, { key := 16, tmps := [], join := true }, { key := 200017, tmps := [(136, .bool)], join := true }, { key := 18, tmps := [], join := true }], 4000, Tryd.func43, by kernel_rfl⟩
/-! 46 ablaut/ablautref17.plus  -/
abbrev n_ref17_plus : FuncId := 46
def T_ref17_plus : Tree :=
 (.ite (.cmp .geq (.var 0) (.bin .sub .u64 (.lit 9223372036854775808) (.var 1)))
  (.ret (.int .u64 (.lit 9223372036854775808)) [])
  (.ret (.int .u64 (.bin .add .u64 (.var 0) (.var 1))) []))
theorem S_ref17_plus : FnIs Tryd.prog n_ref17_plus [(.int .u64), (.int .u64)] T_ref17_plus := ⟨Tryd.f46, [], 4000, Tryd.func46, by kernel_rfl⟩
/-! 47 ablaut/ablautref17.Lowest  -/
abbrev n_ref17_Lowest : FuncId := 47
def T_ref17_Lowest : Tree :=
 (.alloc
 (.loop 0 [(.int .i64), (.int .i64)] [(.int .i64 (.var 0)), (.int .i64 (.var 1))] [⟨[(.int .i64 (.lit 0)), (.int .i64 (.lit 0))], 37⟩] [⟨[(.int .i64 (.lit 0)), (.int .i64 (.lit 0))], 37⟩]
  (.ite (.cmp .neq (.var 3) (.lit 0))
   (.chk (.cmp .neq (.var 3) (.lit 0))
   (.again 0 1 [(.int .i64), (.int .i64)] [(.int .i64 (.var 3)), (.int .i64 (.bin .rem .i64 (.var 2) (.var 3)))] [⟨[(.int .i64 (.lit 0)), (.int .i64 (.lit 0))], 37⟩]))
   (.chk (.cmp .neq (.var 2) (.lit 0))
   (.chk (.cmp .neq (.var 2) (.lit 0))
   (.ret (.agg [(.int .i64 (.bin .quo .i64 (.var 0) (.var 2))), (.int .i64 (.bin .quo .i64 (.var 1) (.var 2)))]) [⟨[(.int .i64 (.bin .quo .i64 (.var 0) (.var 2))), (.int .i64 (.bin .quo .i64 (.var 1) (.var 2)))], 37⟩]))))))
theorem S_ref17_Lowest : FnIs Tryd.prog n_ref17_Lowest [(.int .i64), (.int .i64)] T_ref17_Lowest := ⟨Tryd.f47, [], 4000, Tryd.func47, by kernel_rfl⟩
end Go.Proofs.YtedfogpnmpmggaaDoor
