/- The trees of this seat's functions, printed by a program of mine (SyGen), checked here by the kernel. -/
import Derived.Test.YthabfpagilbplaaDoorSyDef
import Derived.Test.YthabfpagilbplaaDoorProg
import Derived.KernelRfl
set_option maxRecDepth 100000
namespace Go.Proofs.YthabfpagilbplaaDoor
open Go Go.Sy
/-! 58 ablaut/ablautref17.Ratio  -/
abbrev n_ref17_Ratio : FuncId := 58
def T_ref17_Ratio : Tree :=
 (.alloc
 (.alloc
 (.call false 92 [(.sl 0 (.lit 0) (.var 1) (.var 2)), (.sl 3 (.lit 0) (.var 4) (.var 5)), (.agg [(.sl 6 (.lit 0) (.var 7) (.var 8)), (.int .i64 (.var 9))])] (.tup [(.int .i64), (.int .i64)]) [⟨[(.sl 6 (.lit 0) (.var 7) (.var 8)), (.int .i64 (.var 9))], 25⟩, ⟨[(.int .i64 (.lit 0)), (.int .i64 (.lit 0))], 27⟩]
 (.ite (.cmp .neq (.var 11) (.lit 0))
  (.ret (.tup [(.agg [(.int .i64 (.lit 0)), (.int .i64 (.lit 0))]), (.int .i64 (.var 11))]) [⟨[(.sl 6 (.lit 0) (.var 7) (.var 8)), (.int .i64 (.var 9))], 25⟩, ⟨[(.int .i64 (.lit 0)), (.int .i64 (.lit 0))], 27⟩])
  (.chk (.cmp .geq (.var 1) (.lit 0))
  (.chk (.cmp .geq (.var 4) (.lit 0))
  (.ite (.cmp .eql (.bin .mul .i64 (.var 9) (.bin .add .i64 (.var 1) (.var 4))) (.lit 0))
   (.ret (.tup [(.agg [(.int .i64 (.lit 0)), (.int .i64 (.lit 1))]), (.int .i64 (.lit 0))]) [⟨[(.sl 6 (.lit 0) (.var 7) (.var 8)), (.int .i64 (.var 9))], 25⟩, ⟨[(.int .i64 (.lit 0)), (.int .i64 (.lit 1))], 27⟩])
   (.call false 93 [(.int .i64 (.var 10)), (.int .i64 (.bin .mul .i64 (.var 9) (.bin .add .i64 (.var 1) (.var 4))))] (.agg [(.int .i64), (.int .i64)]) [⟨[(.sl 6 (.lit 0) (.var 7) (.var 8)), (.int .i64 (.var 9))], 25⟩, ⟨[(.int .i64 (.lit 0)), (.int .i64 (.lit 0))], 27⟩]
   (.ret (.tup [(.agg [(.int .i64 (.var 12)), (.int .i64 (.var 13))]), (.int .i64 (.lit 0))]) [⟨[(.sl 6 (.lit 0) (.var 7) (.var 8)), (.int .i64 (.var 9))], 25⟩, ⟨[(.int .i64 (.var 12)), (.int .i64 (.var 13))], 27⟩])))))))))
theorem S_ref17_Ratio : FnIs Tryd.prog n_ref17_Ratio [.sl, .sl, (.agg [.sl, (.int .i64)])] T_ref17_Ratio := ⟨Tryd.f58, [], 4000, Tryd.func58, by kernel_rfl⟩
/-! 92 ablaut/ablautref17.Dist  -/
abbrev n_ref17_Dist : FuncId := 92
def T_ref17_Dist : Tree :=
 (.alloc
 (.alloc
 (.call false 105 [(.agg [(.sl 6 (.lit 0) (.var 7) (.var 8)), (.int .i64 (.var 9))]), (.slc 1 0 2 2)] (.int .i64) [⟨[(.sl 6 (.lit 0) (.var 7) (.var 8)), (.int .i64 (.var 9))], 25⟩, ⟨[(.sl 0 (.lit 0) (.var 1) (.var 2)), (.sl 3 (.lit 0) (.var 4) (.var 5))], 48⟩]
 (.ite (.cmp .neq (.var 10) (.lit 0))
  (.ret (.tup [(.int .i64 (.lit 0)), (.int .i64 (.var 10))]) [⟨[(.sl 6 (.lit 0) (.var 7) (.var 8)), (.int .i64 (.var 9))], 25⟩, ⟨[(.sl 0 (.lit 0) (.var 1) (.var 2)), (.sl 3 (.lit 0) (.var 4) (.var 5))], 48⟩])
  (.call false 106 [(.sl 0 (.lit 0) (.var 1) (.var 2)), (.sl 3 (.lit 0) (.var 4) (.var 5)), (.agg [(.sl 6 (.lit 0) (.var 7) (.var 8)), (.int .i64 (.var 9))])] .sl [⟨[(.sl 6 (.lit 0) (.var 7) (.var 8)), (.int .i64 (.var 9))], 25⟩, ⟨[(.sl 0 (.lit 0) (.var 1) (.var 2)), (.sl 3 (.lit 0) (.var 4) (.var 5))], 48⟩]
  (.chk (.pick (.cmp .lss (.lit 0) (.var 12)) (.some 11) (.lit false))
  (.load 11 (.lit 0) [.sl] [⟨[(.sl 6 (.lit 0) (.var 7) (.var 8)), (.int .i64 (.var 9))], 25⟩, ⟨[(.sl 0 (.lit 0) (.var 1) (.var 2)), (.sl 3 (.lit 0) (.var 4) (.var 5))], 48⟩]
  (.chk (.pick (.cmp .lss (.lit 0) (.var 15)) (.some 14) (.lit false))
  (.load 14 (.lit 0) [(.int .i64)] [⟨[(.sl 6 (.lit 0) (.var 7) (.var 8)), (.int .i64 (.var 9))], 25⟩, ⟨[(.sl 0 (.lit 0) (.var 1) (.var 2)), (.sl 3 (.lit 0) (.var 4) (.var 5))], 48⟩]
  (.ret (.tup [(.int .i64 (.var 17)), (.int .i64 (.lit 0))]) [⟨[(.sl 6 (.lit 0) (.var 7) (.var 8)), (.int .i64 (.var 9))], 25⟩, ⟨[(.sl 0 (.lit 0) (.var 1) (.var 2)), (.sl 3 (.lit 0) (.var 4) (.var 5))], 48⟩]))))))))))
theorem S_ref17_Dist : FnIs Tryd.prog n_ref17_Dist [.sl, .sl, (.agg [.sl, (.int .i64)])] T_ref17_Dist := ⟨Tryd.f92, [], 4000, Tryd.func92, by kernel_rfl⟩
/-! 93 ablaut/ablautref17.Lowest  -/
abbrev n_ref17_Lowest : FuncId := 93
def T_ref17_Lowest : Tree :=
 (.alloc
 (.loop 0 [(.int .i64), (.int .i64)] [(.int .i64 (.var 0)), (.int .i64 (.var 1))] [⟨[(.int .i64 (.lit 0)), (.int .i64 (.lit 0))], 27⟩] [⟨[(.int .i64 (.lit 0)), (.int .i64 (.lit 0))], 27⟩]
  (.ite (.cmp .neq (.var 3) (.lit 0))
   (.chk (.cmp .neq (.var 3) (.lit 0))
   (.again 0 1 [(.int .i64), (.int .i64)] [(.int .i64 (.var 3)), (.int .i64 (.bin .rem .i64 (.var 2) (.var 3)))] [⟨[(.int .i64 (.lit 0)), (.int .i64 (.lit 0))], 27⟩]))
   (.chk (.cmp .neq (.var 2) (.lit 0))
   (.chk (.cmp .neq (.var 2) (.lit 0))
   (.ret (.agg [(.int .i64 (.bin .quo .i64 (.var 0) (.var 2))), (.int .i64 (.bin .quo .i64 (.var 1) (.var 2)))]) [⟨[(.int .i64 (.bin .quo .i64 (.var 0) (.var 2))), (.int .i64 (.bin .quo .i64 (.var 1) (.var 2)))], 27⟩]))))))
theorem S_ref17_Lowest : FnIs Tryd.prog n_ref17_Lowest [(.int .i64), (.int .i64)] T_ref17_Lowest := ⟨Tryd.f93, [], 4000, Tryd.func93, by kernel_rfl⟩
/-! 106 ablaut/ablautref17.rest  -/
abbrev n_ref17_rest : FuncId := 106
def T_ref17_rest : Tree :=
 (.alloc
 (.chk (.cmp .geq (.var 1) (.lit 0))
 (.ext false ⟨(.makeSlice 155 (.tmp 0) (.tmp 0)), 155, [(.int .i64 (.bin .add .i64 (.var 1) (.lit 1))), (.int .i64 (.bin .add .i64 (.var 1) (.lit 1)))]⟩ .sl [⟨[(.sl 6 (.lit 0) (.var 7) (.var 8)), (.int .i64 (.var 9))], 25⟩]
 (.chk (.cmp .geq (.var 1) (.lit 0))
 (.loop 0 [(.int .i64)] [(.int .i64 (.var 1))] [⟨[(.sl 6 (.lit 0) (.var 7) (.var 8)), (.int .i64 (.var 9))], 25⟩] [⟨[(.sl 6 (.lit 0) (.var 7) (.var 8)), (.int .i64 (.var 9))], 25⟩]
  (.ite (.cmp .geq (.var 13) (.lit 0))
   (.chk (.cmp .geq (.var 4) (.lit 0))
   (.ext false ⟨(.makeSlice 23 (.tmp 0) (.tmp 0)), 23, [(.int .i64 (.bin .add .i64 (.var 4) (.lit 1))), (.int .i64 (.bin .add .i64 (.var 4) (.lit 1)))]⟩ .sl [⟨[(.sl 6 (.lit 0) (.var 7) (.var 8)), (.int .i64 (.var 9))], 25⟩]
   (.chk (.pick (.cmp .geq (.var 13) (.lit 0)) (.pick (.cmp .lss (.var 13) (.var 11)) (.some 10) (.lit false)) (.lit false))
   (.store false 10 (.off (.var 13) 1 (.lit 0)) [(.sl 14 (.lit 0) (.var 15) (.var 16))] [⟨[(.sl 6 (.lit 0) (.var 7) (.var 8)), (.int .i64 (.var 9))], 25⟩]
   (.chk (.cmp .geq (.var 4) (.lit 0))
   (.loop 1 [(.int .i64)] [(.int .i64 (.var 4))] [⟨[(.sl 6 (.lit 0) (.var 7) (.var 8)), (.int .i64 (.var 9))], 25⟩] [⟨[(.sl 6 (.lit 0) (.var 7) (.var 8)), (.int .i64 (.var 9))], 25⟩]
    (.ite (.cmp .geq (.var 17) (.lit 0))
     (.join 2 [.bool] [⟨[(.sl 6 (.lit 0) (.var 7) (.var 8)), (.int .i64 (.var 9))], 25⟩]
      (.chk (.cmp .geq (.var 1) (.lit 0))
      (.ite (.cmp .eql (.var 13) (.var 1))
       (.chk (.cmp .geq (.var 4) (.lit 0))
       (.again 2 1 [.bool] [(.bool (.cmp .eql (.var 17) (.var 4)))] [⟨[(.sl 6 (.lit 0) (.var 7) (.var 8)), (.int .i64 (.var 9))], 25⟩]))
       (.again 2 1 [.bool] [(.bool (.lit false))] [⟨[(.sl 6 (.lit 0) (.var 7) (.var 8)), (.int .i64 (.var 9))], 25⟩])))
     (.join 2 [(.int .i64)] [⟨[(.sl 6 (.lit 0) (.var 7) (.var 8)), (.int .i64 (.var 9))], 25⟩]
      (.ite (.var 18)
       (.again 2 1 [(.int .i64)] [(.int .i64 (.lit 0))] [⟨[(.sl 6 (.lit 0) (.var 7) (.var 8)), (.int .i64 (.var 9))], 25⟩])
       (.again 2 1 [(.int .i64)] [(.int .i64 (.lit (-1)))] [⟨[(.sl 6 (.lit 0) (.var 7) (.var 8)), (.int .i64 (.var 9))], 25⟩]))
     (.join 2 [.bool] [⟨[(.sl 6 (.lit 0) (.var 7) (.var 8)), (.int .i64 (.var 9))], 25⟩]
      (.chk (.cmp .geq (.var 1) (.lit 0))
      (.ite (.cmp .lss (.var 13) (.var 1))
       (.chk (.cmp .geq (.var 4) (.lit 0))
       (.again 2 1 [.bool] [(.bool (.cmp .lss (.var 17) (.var 4)))] [⟨[(.sl 6 (.lit 0) (.var 7) (.var 8)), (.int .i64 (.var 9))], 25⟩]))
       (.again 2 1 [.bool] [(.bool (.lit false))] [⟨[(.sl 6 (.lit 0) (.var 7) (.var 8)), (.int .i64 (.var 9))], 25⟩])))
     (.join 2 [(.int .i64)] [⟨[(.sl 6 (.lit 0) (.var 7) (.var 8)), (.int .i64 (.var 9))], 25⟩]
      (.ite (.var 20)
       (.chk (.pick (.cmp .geq (.var 13) (.lit 0)) (.pick (.cmp .lss (.var 13) (.var 1)) (.some 0) (.lit false)) (.lit false))
       (.load 0 (.off (.var 13) 2 (.lit 0)) [(.int .u32), (.int .u32)] [⟨[(.sl 6 (.lit 0) (.var 7) (.var 8)), (.int .i64 (.var 9))], 25⟩]
       (.chk (.pick (.cmp .geq (.var 17) (.lit 0)) (.pick (.cmp .lss (.var 17) (.var 4)) (.some 3) (.lit false)) (.lit false))
       (.load 3 (.off (.var 17) 2 (.lit 0)) [(.int .u32), (.int .u32)] [⟨[(.sl 6 (.lit 0) (.var 7) (.var 8)), (.int .i64 (.var 9))], 25⟩]
       (.call false 111 [(.agg [(.int .u32 (.var 21)), (.int .u32 (.var 22))]), (.agg [(.int .u32 (.var 23)), (.int .u32 (.var 24))]), (.agg [(.sl 6 (.lit 0) (.var 7) (.var 8)), (.int .i64 (.var 9))])] (.tup [(.int .i64), (.int .i64)]) [⟨[(.sl 6 (.lit 0) (.var 7) (.var 8)), (.int .i64 (.var 9))], 25⟩]
       (.chk (.pick (.cmp .geq (.bin .add .i64 (.var 13) (.lit 1)) (.lit 0)) (.pick (.cmp .lss (.bin .add .i64 (.var 13) (.lit 1)) (.var 11)) (.some 10) (.lit false)) (.lit false))
       (.load 10 (.off (.bin .add .i64 (.var 13) (.lit 1)) 1 (.lit 0)) [.sl] [⟨[(.sl 6 (.lit 0) (.var 7) (.var 8)), (.int .i64 (.var 9))], 25⟩]
       (.chk (.pick (.cmp .geq (.bin .add .i64 (.var 17) (.lit 1)) (.lit 0)) (.pick (.cmp .lss (.bin .add .i64 (.var 17) (.lit 1)) (.var 28)) (.some 27) (.lit false)) (.lit false))
       (.load 27 (.off (.bin .add .i64 (.var 17) (.lit 1)) 1 (.lit 0)) [(.int .i64)] [⟨[(.sl 6 (.lit 0) (.var 7) (.var 8)), (.int .i64 (.var 9))], 25⟩]
       (.again 2 1 [(.int .i64)] [(.int .i64 (.bin .add .i64 (.var 25) (.var 30)))] [⟨[(.sl 6 (.lit 0) (.var 7) (.var 8)), (.int .i64 (.var 9))], 25⟩]))))))))))
       (.again 2 1 [(.int .i64)] [(.int .i64 (.var 19))] [⟨[(.sl 6 (.lit 0) (.var 7) (.var 8)), (.int .i64 (.var 9))], 25⟩]))
     (.join 2 [.bool] [⟨[(.sl 6 (.lit 0) (.var 7) (.var 8)), (.int .i64 (.var 9))], 25⟩]
      (.chk (.cmp .geq (.var 1) (.lit 0))
      (.ite (.cmp .lss (.var 13) (.var 1))
       (.ite (.cmp .lss (.var 21) (.lit 0))
        (.again 2 1 [.bool] [(.bool (.lit true))] [⟨[(.sl 6 (.lit 0) (.var 7) (.var 8)), (.int .i64 (.var 9))], 25⟩])
        (.chk (.pick (.cmp .geq (.bin .add .i64 (.var 13) (.lit 1)) (.lit 0)) (.pick (.cmp .lss (.bin .add .i64 (.var 13) (.lit 1)) (.var 11)) (.some 10) (.lit false)) (.lit false))
        (.load 10 (.off (.bin .add .i64 (.var 13) (.lit 1)) 1 (.lit 0)) [.sl] [⟨[(.sl 6 (.lit 0) (.var 7) (.var 8)), (.int .i64 (.var 9))], 25⟩]
        (.chk (.pick (.cmp .geq (.var 17) (.lit 0)) (.pick (.cmp .lss (.var 17) (.var 23)) (.some 22) (.lit false)) (.lit false))
        (.load 22 (.off (.var 17) 1 (.lit 0)) [(.int .i64)] [⟨[(.sl 6 (.lit 0) (.var 7) (.var 8)), (.int .i64 (.var 9))], 25⟩]
        (.again 2 1 [.bool] [(.bool (.cmp .lss (.bin .add .i64 (.var 9) (.var 25)) (.var 21)))] [⟨[(.sl 6 (.lit 0) (.var 7) (.var 8)), (.int .i64 (.var 9))], 25⟩]))))))
       (.again 2 1 [.bool] [(.bool (.lit false))] [⟨[(.sl 6 (.lit 0) (.var 7) (.var 8)), (.int .i64 (.var 9))], 25⟩])))
     (.join 2 [(.int .i64)] [⟨[(.sl 6 (.lit 0) (.var 7) (.var 8)), (.int .i64 (.var 9))], 25⟩]
      (.ite (.var 22)
       (.chk (.pick (.cmp .geq (.bin .add .i64 (.var 13) (.lit 1)) (.lit 0)) (.pick (.cmp .lss (.bin .add .i64 (.var 13) (.lit 1)) (.var 11)) (.some 10) (.lit false)) (.lit false))
       (.load 10 (.off (.bin .add .i64 (.var 13) (.lit 1)) 1 (.lit 0)) [.sl] [⟨[(.sl 6 (.lit 0) (.var 7) (.var 8)), (.int .i64 (.var 9))], 25⟩]
       (.chk (.pick (.cmp .geq (.var 17) (.lit 0)) (.pick (.cmp .lss (.var 17) (.var 24)) (.some 23) (.lit false)) (.lit false))
       (.load 23 (.off (.var 17) 1 (.lit 0)) [(.int .i64)] [⟨[(.sl 6 (.lit 0) (.var 7) (.var 8)), (.int .i64 (.var 9))], 25⟩]
       (.again 2 1 [(.int .i64)] [(.int .i64 (.bin .add .i64 (.var 9) (.var 26)))] [⟨[(.sl 6 (.lit 0) (.var 7) (.var 8)), (.int .i64 (.var 9))], 25⟩])))))
       (.again 2 1 [(.int .i64)] [(.int .i64 (.var 21))] [⟨[(.sl 6 (.lit 0) (.var 7) (.var 8)), (.int .i64 (.var 9))], 25⟩]))
     (.join 2 [.bool] [⟨[(.sl 6 (.lit 0) (.var 7) (.var 8)), (.int .i64 (.var 9))], 25⟩]
      (.chk (.cmp .geq (.var 4) (.lit 0))
      (.ite (.cmp .lss (.var 17) (.var 4))
       (.ite (.cmp .lss (.var 23) (.lit 0))
        (.again 2 1 [.bool] [(.bool (.lit true))] [⟨[(.sl 6 (.lit 0) (.var 7) (.var 8)), (.int .i64 (.var 9))], 25⟩])
        (.chk (.pick (.cmp .geq (.var 13) (.lit 0)) (.pick (.cmp .lss (.var 13) (.var 11)) (.some 10) (.lit false)) (.lit false))
        (.load 10 (.off (.var 13) 1 (.lit 0)) [.sl] [⟨[(.sl 6 (.lit 0) (.var 7) (.var 8)), (.int .i64 (.var 9))], 25⟩]
        (.chk (.pick (.cmp .geq (.bin .add .i64 (.var 17) (.lit 1)) (.lit 0)) (.pick (.cmp .lss (.bin .add .i64 (.var 17) (.lit 1)) (.var 25)) (.some 24) (.lit false)) (.lit false))
        (.load 24 (.off (.bin .add .i64 (.var 17) (.lit 1)) 1 (.lit 0)) [(.int .i64)] [⟨[(.sl 6 (.lit 0) (.var 7) (.var 8)), (.int .i64 (.var 9))], 25⟩]
        (.again 2 1 [.bool] [(.bool (.cmp .lss (.bin .add .i64 (.var 9) (.var 27)) (.var 23)))] [⟨[(.sl 6 (.lit 0) (.var 7) (.var 8)), (.int .i64 (.var 9))], 25⟩]))))))
       (.again 2 1 [.bool] [(.bool (.lit false))] [⟨[(.sl 6 (.lit 0) (.var 7) (.var 8)), (.int .i64 (.var 9))], 25⟩])))
     (.join 2 [(.int .i64)] [⟨[(.sl 6 (.lit 0) (.var 7) (.var 8)), (.int .i64 (.var 9))], 25⟩]
      (.ite (.var 24)
       (.chk (.pick (.cmp .geq (.var 13) (.lit 0)) (.pick (.cmp .lss (.var 13) (.var 11)) (.some 10) (.lit false)) (.lit false))
       (.load 10 (.off (.var 13) 1 (.lit 0)) [.sl] [⟨[(.sl 6 (.lit 0) (.var 7) (.var 8)), (.int .i64 (.var 9))], 25⟩]
       (.chk (.pick (.cmp .geq (.bin .add .i64 (.var 17) (.lit 1)) (.lit 0)) (.pick (.cmp .lss (.bin .add .i64 (.var 17) (.lit 1)) (.var 26)) (.some 25) (.lit false)) (.lit false))
       (.load 25 (.off (.bin .add .i64 (.var 17) (.lit 1)) 1 (.lit 0)) [(.int .i64)] [⟨[(.sl 6 (.lit 0) (.var 7) (.var 8)), (.int .i64 (.var 9))], 25⟩]
       (.again 2 1 [(.int .i64)] [(.int .i64 (.bin .add .i64 (.var 9) (.var 28)))] [⟨[(.sl 6 (.lit 0) (.var 7) (.var 8)), (.int .i64 (.var 9))], 25⟩])))))
       (.again 2 1 [(.int .i64)] [(.int .i64 (.var 23))] [⟨[(.sl 6 (.lit 0) (.var 7) (.var 8)), (.int .i64 (.var 9))], 25⟩]))
     (.chk (.pick (.cmp .geq (.var 13) (.lit 0)) (.pick (.cmp .lss (.var 13) (.var 11)) (.some 10) (.lit false)) (.lit false))
     (.load 10 (.off (.var 13) 1 (.lit 0)) [.sl] [⟨[(.sl 6 (.lit 0) (.var 7) (.var 8)), (.int .i64 (.var 9))], 25⟩]
     (.chk (.pick (.cmp .geq (.var 17) (.lit 0)) (.pick (.cmp .lss (.var 17) (.var 27)) (.some 26) (.lit false)) (.lit false))
     (.store false 26 (.off (.var 17) 1 (.lit 0)) [(.int .i64 (.var 25))] [⟨[(.sl 6 (.lit 0) (.var 7) (.var 8)), (.int .i64 (.var 9))], 25⟩]
     (.again 1 1 [(.int .i64)] [(.int .i64 (.bin .sub .i64 (.var 17) (.lit 1)))] [⟨[(.sl 6 (.lit 0) (.var 7) (.var 8)), (.int .i64 (.var 9))], 25⟩])))))))))))))
     (.again 0 1 [(.int .i64)] [(.int .i64 (.bin .sub .i64 (.var 13) (.lit 1)))] [⟨[(.sl 6 (.lit 0) (.var 7) (.var 8)), (.int .i64 (.var 9))], 25⟩]))))))))
   (.ret (.sl 10 (.lit 0) (.var 11) (.var 12)) [⟨[(.sl 6 (.lit 0) (.var 7) (.var 8)), (.int .i64 (.var 9))], 25⟩])))))))
theorem S_ref17_rest : FnIs Tryd.prog n_ref17_rest [.sl, .sl, (.agg [.sl, (.int .i64)])] T_ref17_rest := ⟨Tryd.f106, [{ key := 200010, tmps := [(45, .bool)], join := true, dead := 91343765220895495556881254507914516219038789656 }, { key := 11, tmps := [], join := true }, { key := 200012, tmps := [(55, .bool)], join := true }, { key := 13, tmps := [], join := true }, { key := 200015, tmps := [(102, .bool)], join := true }, { key := 16, tmps := [], join := true }, { key := 200017, tmps := [(136, .bool)], join := true }, { key := 18, tmps := [], join := true }], 4000, Tryd.func106, by kernel_rfl⟩
end Go.Proofs.YthabfpagilbplaaDoor
