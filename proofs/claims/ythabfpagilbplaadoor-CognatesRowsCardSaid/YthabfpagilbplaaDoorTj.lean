/- The trees of this seat's functions, printed by a program of mine (SyGen), checked here by the kernel. -/
import Derived.Test.YthabfpagilbplaaDoorSyDef
import Derived.Test.YthabfpagilbplaaDoorProg
import Derived.KernelRfl
set_option maxRecDepth 100000
namespace Go.Proofs.YthabfpagilbplaaDoor
open Go Go.Sy
/-! 26 ablaut/ablautlaw19.spelt BAD [cases] -/
abbrev n_law19_spelt : FuncId := 26
def T_law19_spelt : Tree :=
 (.alloc
 (.chk (.cmp .geq (.var 1) (.lit 0))
 (.chk (.pick (.cmp .leq (.lit 0) (.mn (.var 1) (.lit 16))) (.cmp .leq (.mn (.var 1) (.lit 16)) (.var 2)) (.lit false))
 (.chk (.cmp .geq (.mn (.var 1) (.lit 16)) (.lit 0))
 (.loop 0 [.sl, (.int .i64)] [(.cst (.slice none 0 0)), (.int .i64 (.lit 0))] [⟨[(.int .u32 (.lit 2)), (.int .u32 (.lit 5)), (.int .u32 (.lit 3)), (.int .u32 (.lit 4)), (.int .u32 (.lit 5)), (.int .u32 (.lit 2))], 56⟩] [⟨[(.int .u32 (.lit 2)), (.int .u32 (.lit 5)), (.int .u32 (.lit 3)), (.int .u32 (.lit 4)), (.int .u32 (.lit 5)), (.int .u32 (.lit 2))], 56⟩]
  (.ite (.cmp .lss (.var 6) (.mn (.var 1) (.lit 16)))
   (.join 1 [.sl] [⟨[(.int .u32 (.lit 2)), (.int .u32 (.lit 5)), (.int .u32 (.lit 3)), (.int .u32 (.lit 4)), (.int .u32 (.lit 5)), (.int .u32 (.lit 2))], 56⟩]
    (.chk (.pick (.cmp .geq (.ifeq (.var 2) (.lit 0) (.lit 0) (.lit 0)) (.lit 0)) (.pick (.cmp .geq (.var 6) (.lit 0)) (.pick (.cmp .lss (.var 6) (.mn (.var 1) (.lit 16))) (.some 0) (.lit false)) (.lit false)) (.lit false))
    (.load 0 (.off (.var 6) 1 (.ifeq (.var 2) (.lit 0) (.lit 0) (.lit 0))) [.sl] [⟨[(.int .u32 (.lit 2)), (.int .u32 (.lit 5)), (.int .u32 (.lit 3)), (.int .u32 (.lit 4)), (.int .u32 (.lit 5)), (.int .u32 (.lit 2))], 56⟩]
    (.join 2 [.bool] [⟨[(.int .u32 (.lit 2)), (.int .u32 (.lit 5)), (.int .u32 (.lit 3)), (.int .u32 (.lit 4)), (.int .u32 (.lit 5)), (.int .u32 (.lit 2))], 56⟩]
     (.chk (.cmp .geq (.var 8) (.lit 0))
     (.ite (.cmp .gtr (.var 8) (.lit 0))
      (.chk (.pick (.cmp .lss (.lit 0) (.var 8)) (.some 7) (.lit false))
      (.load 7 (.lit 0) [(.int .u8)] [⟨[(.int .u32 (.lit 2)), (.int .u32 (.lit 5)), (.int .u32 (.lit 3)), (.int .u32 (.lit 4)), (.int .u32 (.lit 5)), (.int .u32 (.lit 2))], 56⟩]
      (.again 2 1 [.bool] [(.bool (.cmp .gtr (.var 10) (.lit 250)))] [⟨[(.int .u32 (.lit 2)), (.int .u32 (.lit 5)), (.int .u32 (.lit 3)), (.int .u32 (.lit 4)), (.int .u32 (.lit 5)), (.int .u32 (.lit 2))], 56⟩])))
      (.again 2 1 [.bool] [(.bool (.lit false))] [⟨[(.int .u32 (.lit 2)), (.int .u32 (.lit 5)), (.int .u32 (.lit 3)), (.int .u32 (.lit 4)), (.int .u32 (.lit 5)), (.int .u32 (.lit 2))], 56⟩])))
    (.ite (.var 10)
     (.alloc
     (.ext false ⟨(.call ⟨.builtin .append, #[(.tmp 0), (.tmp 0)], #[22, 22]⟩), 22, [(.sl 3 (.lit 0) (.var 4) (.var 5)), (.slc 1 0 1 1)]⟩ .sl [⟨[(.int .u32 (.lit 2)), (.int .u32 (.lit 5)), (.int .u32 (.lit 3)), (.int .u32 (.lit 4)), (.int .u32 (.lit 5)), (.int .u32 (.lit 2))], 56⟩, ⟨[(.bool (.lit false)), (.cst (.slice none 0 0))], 50⟩]
     (.again 1 1 [.sl] [(.sl 11 (.lit 0) (.var 12) (.var 13))] [⟨[(.int .u32 (.lit 2)), (.int .u32 (.lit 5)), (.int .u32 (.lit 3)), (.int .u32 (.lit 4)), (.int .u32 (.lit 5)), (.int .u32 (.lit 2))], 56⟩, ⟨[(.bool (.lit false)), (.cst (.slice none 0 0))], 50⟩])))
     (.alloc
     (.chk (.cmp .geq (.var 8) (.lit 0))
     (.chk (.pick (.cmp .leq (.lit 0) (.mn (.var 8) (.lit 10))) (.cmp .leq (.mn (.var 8) (.lit 10)) (.var 9)) (.lit false))
     (.chk (.cmp .geq (.mn (.var 8) (.lit 10)) (.lit 0))
     (.loop 2 [(.int .i64), .bool, .sl] [(.int .i64 (.lit 0)), (.bool (.lit true)), (.cst (.slice none 0 0))] [⟨[(.int .u32 (.lit 2)), (.int .u32 (.lit 5)), (.int .u32 (.lit 3)), (.int .u32 (.lit 4)), (.int .u32 (.lit 5)), (.int .u32 (.lit 2))], 56⟩, ⟨[(.bool (.lit true)), (.cst (.slice none 0 0))], 50⟩] [⟨[(.int .u32 (.lit 2)), (.int .u32 (.lit 5)), (.int .u32 (.lit 3)), (.int .u32 (.lit 4)), (.int .u32 (.lit 5)), (.int .u32 (.lit 2))], 56⟩, ⟨[(.bool (.var 12)), (.sl 13 (.lit 0) (.var 14) (.var 15))], 50⟩]
      (.ite (.cmp .lss (.var 11) (.mn (.var 8) (.lit 10)))
       (.chk (.pick (.cmp .geq (.ifeq (.var 9) (.lit 0) (.lit 0) (.lit 0)) (.lit 0)) (.pick (.cmp .geq (.var 11) (.lit 0)) (.pick (.cmp .lss (.var 11) (.mn (.var 8) (.lit 10))) (.some 7) (.lit false)) (.lit false)) (.lit false))
       (.load 7 (.off (.var 11) 1 (.ifeq (.var 9) (.lit 0) (.lit 0) (.lit 0))) [(.int .u8)] [⟨[(.int .u32 (.lit 2)), (.int .u32 (.lit 5)), (.int .u32 (.lit 3)), (.int .u32 (.lit 4)), (.int .u32 (.lit 5)), (.int .u32 (.lit 2))], 56⟩, ⟨[(.bool (.var 12)), (.sl 13 (.lit 0) (.var 14) (.var 15))], 50⟩]
       (.chk (.cmp .leq (.lit 0) (.bin .rem .u8 (.var 16) (.lit 3)))
       (.chk (.cmp .lss (.bin .rem .u8 (.var 16) (.lit 3)) (.lit 3))
       (.ite (.cmp .eql (.bin .rem .u8 (.var 16) (.lit 3)) (.lit 0))
        (.alloc
        (.ext false ⟨(.call ⟨.builtin .append, #[(.tmp 0), (.tmp 0)], #[48, 48]⟩), 48, [(.sl 13 (.lit 0) (.var 14) (.var 15)), (.slc 2 0 1 1)]⟩ .sl [⟨[(.int .u32 (.lit 2)), (.int .u32 (.lit 5)), (.int .u32 (.lit 3)), (.int .u32 (.lit 4)), (.int .u32 (.lit 5)), (.int .u32 (.lit 2))], 56⟩, ⟨[(.bool (.var 12)), (.sl 13 (.lit 0) (.var 14) (.var 15))], 50⟩, ⟨[(.int .u32 (.lit 2)), (.int .u32 (.lit 5))], 56⟩]
        (.again 2 2 [(.int .i64), .bool, .sl] [(.int .i64 (.bin .add .i64 (.var 11) (.lit 1))), (.bool (.var 12)), (.sl 17 (.lit 0) (.var 18) (.var 19))] [⟨[(.int .u32 (.lit 2)), (.int .u32 (.lit 5)), (.int .u32 (.lit 3)), (.int .u32 (.lit 4)), (.int .u32 (.lit 5)), (.int .u32 (.lit 2))], 56⟩, ⟨[(.bool (.var 12)), (.sl 17 (.lit 0) (.var 18) (.var 19))], 50⟩, ⟨[(.int .u32 (.lit 2)), (.int .u32 (.lit 5))], 56⟩])))
        (.ite (.cmp .eql (.bin .rem .u8 (.var 16) (.lit 3)) (.lit 1))
         (.alloc
         (.ext false ⟨(.call ⟨.builtin .append, #[(.tmp 0), (.tmp 0)], #[48, 48]⟩), 48, [(.sl 13 (.lit 0) (.var 14) (.var 15)), (.slc 2 0 1 1)]⟩ .sl [⟨[(.int .u32 (.lit 2)), (.int .u32 (.lit 5)), (.int .u32 (.lit 3)), (.int .u32 (.lit 4)), (.int .u32 (.lit 5)), (.int .u32 (.lit 2))], 56⟩, ⟨[(.bool (.var 12)), (.sl 13 (.lit 0) (.var 14) (.var 15))], 50⟩, ⟨[(.int .u32 (.lit 3)), (.int .u32 (.lit 4))], 56⟩]
         (.again 2 2 [(.int .i64), .bool, .sl] [(.int .i64 (.bin .add .i64 (.var 11) (.lit 1))), (.bool (.var 12)), (.sl 17 (.lit 0) (.var 18) (.var 19))] [⟨[(.int .u32 (.lit 2)), (.int .u32 (.lit 5)), (.int .u32 (.lit 3)), (.int .u32 (.lit 4)), (.int .u32 (.lit 5)), (.int .u32 (.lit 2))], 56⟩, ⟨[(.bool (.var 12)), (.sl 17 (.lit 0) (.var 18) (.var 19))], 50⟩, ⟨[(.int .u32 (.lit 3)), (.int .u32 (.lit 4))], 56⟩])))
         (.ite (.cmp .eql (.bin .rem .u8 (.var 16) (.lit 3)) (.lit 2))
          (.alloc
          (.ext false ⟨(.call ⟨.builtin .append, #[(.tmp 0), (.tmp 0)], #[48, 48]⟩), 48, [(.sl 13 (.lit 0) (.var 14) (.var 15)), (.slc 2 0 1 1)]⟩ .sl [⟨[(.int .u32 (.lit 2)), (.int .u32 (.lit 5)), (.int .u32 (.lit 3)), (.int .u32 (.lit 4)), (.int .u32 (.lit 5)), (.int .u32 (.lit 2))], 56⟩, ⟨[(.bool (.var 12)), (.sl 13 (.lit 0) (.var 14) (.var 15))], 50⟩, ⟨[(.int .u32 (.lit 5)), (.int .u32 (.lit 2))], 56⟩]
          (.again 2 2 [(.int .i64), .bool, .sl] [(.int .i64 (.bin .add .i64 (.var 11) (.lit 1))), (.bool (.var 12)), (.sl 17 (.lit 0) (.var 18) (.var 19))] [⟨[(.int .u32 (.lit 2)), (.int .u32 (.lit 5)), (.int .u32 (.lit 3)), (.int .u32 (.lit 4)), (.int .u32 (.lit 5)), (.int .u32 (.lit 2))], 56⟩, ⟨[(.bool (.var 12)), (.sl 17 (.lit 0) (.var 18) (.var 19))], 50⟩, ⟨[(.int .u32 (.lit 5)), (.int .u32 (.lit 2))], 56⟩])))
          (.bad "cases"))))))))
       (.alloc
       (.ext false ⟨(.call ⟨.builtin .append, #[(.tmp 0), (.tmp 0)], #[22, 22]⟩), 22, [(.sl 3 (.lit 0) (.var 4) (.var 5)), (.slc 2 0 1 1)]⟩ .sl [⟨[(.int .u32 (.lit 2)), (.int .u32 (.lit 5)), (.int .u32 (.lit 3)), (.int .u32 (.lit 4)), (.int .u32 (.lit 5)), (.int .u32 (.lit 2))], 56⟩, ⟨[(.bool (.var 12)), (.sl 13 (.lit 0) (.var 14) (.var 15))], 50⟩, ⟨[(.bool (.var 12)), (.sl 13 (.lit 0) (.var 14) (.var 15))], 50⟩]
       (.again 1 1 [.sl] [(.sl 16 (.lit 0) (.var 17) (.var 18))] [⟨[(.int .u32 (.lit 2)), (.int .u32 (.lit 5)), (.int .u32 (.lit 3)), (.int .u32 (.lit 4)), (.int .u32 (.lit 5)), (.int .u32 (.lit 2))], 56⟩, ⟨[(.bool (.var 12)), (.sl 13 (.lit 0) (.var 14) (.var 15))], 50⟩, ⟨[(.bool (.var 12)), (.sl 13 (.lit 0) (.var 14) (.var 15))], 50⟩])))))))))))))
   (.again 0 1 [.sl, (.int .i64)] [(.sl 7 (.lit 0) (.var 8) (.var 9)), (.int .i64 (.bin .add .i64 (.var 6) (.lit 1)))] [⟨[(.int .u32 (.lit 2)), (.int .u32 (.lit 5)), (.int .u32 (.lit 3)), (.int .u32 (.lit 4)), (.int .u32 (.lit 5)), (.int .u32 (.lit 2))], 56⟩]))
   (.ret (.sl 3 (.lit 0) (.var 4) (.var 5)) [⟨[(.int .u32 (.lit 2)), (.int .u32 (.lit 5)), (.int .u32 (.lit 3)), (.int .u32 (.lit 4)), (.int .u32 (.lit 5)), (.int .u32 (.lit 2))], 56⟩])))))))
theorem S_law19_spelt : FnIs Tryd.prog n_law19_spelt [.sl] T_law19_spelt := ⟨Tryd.f26, [{ key := 100001, tmps := [], join := true, dead := 36893422172422536482 }, { key := 200006, tmps := [(32, .bool)], join := true }], 4000, Tryd.func26, by kernel_rfl⟩
/-! 27 ablaut/ablautlaw19.costs  -/
abbrev n_law19_costs : FuncId := 27
def T_law19_costs : Tree :=
 (.alloc
 (.alloc
 (.alloc
 (.ret (.agg [(.slc 2 0 3 3), (.int .i64 (.conv .i64 (.bin .rem .u8 (.var 3) (.lit 8))))]) [⟨[(.int .u8 (.var 0)), (.int .u8 (.var 1)), (.int .u8 (.var 2)), (.int .u8 (.var 3))], 39⟩, ⟨[(.slc 2 0 3 3), (.int .i64 (.conv .i64 (.bin .rem .u8 (.var 3) (.lit 8))))], 25⟩, ⟨[(.int .i64 (.conv .i64 (.bin .rem .u8 (.var 0) (.lit 8)))), (.int .i64 (.conv .i64 (.bin .rem .u8 (.var 1) (.lit 8)))), (.int .i64 (.conv .i64 (.bin .rem .u8 (.var 2) (.lit 8))))], 2⟩]))))
theorem S_law19_costs : FnIs Tryd.prog n_law19_costs [(.agg [(.int .u8), (.int .u8), (.int .u8), (.int .u8)])] T_law19_costs := ⟨Tryd.f27, [], 4000, Tryd.func27, by kernel_rfl⟩
/-! 29 ablaut/ablautlaw19.labels  -/
/-! 30 ablaut/ablautlaw19.finer  -/
/-! 31 ablaut/ablautlaw19.CognatesExtremes$1  -/
/-! 33 slices.Equal[[]ablaut/api.Sound,ablaut/api.Sound]  -/
/-! 35 ablaut/ablautlaw19.CognatesLimits$1  -/
/-! 38 ablaut/ablautlaw19.judged  -/
/-! 40 slices.Repeat[[]int,int] BAD [ext slices.go:516, ext slices.go:522] -/
/-! 44 slices.IsSorted[[]int,int]  -/
/-! 48 slices.Repeat[[][]int,[]int] BAD [ext slices.go:516, ext slices.go:522] -/
/-! 49 slices.Repeat[[]ablaut/api.Form,ablaut/api.Form] BAD [ext slices.go:516, ext slices.go:522] -/
/-! 76 math/bits.Mul  -/
/-! 79 cmp.Less[int]  -/
/-! 100 cmp.isNaN[int]  -/
end Go.Proofs.YthabfpagilbplaaDoor
