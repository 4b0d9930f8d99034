/- The trees of this seat's functions, printed by a program of mine (SyGen), checked here by the kernel. -/
import Derived.Test.YthabfpagilbplaaDoorSyDef
import Derived.Test.YthabfpagilbplaaDoorProg
import Derived.KernelRfl
set_option maxRecDepth 100000
namespace Go.Proofs.YthabfpagilbplaaDoor
open Go Go.Sy
/-! 4 ablaut/ablautlaw19.CognatesCompares  -/
abbrev n_law19_CognatesCompares : FuncId := 4
def T_law19_CognatesCompares : Tree :=
 (.chk (.cmp .geq (.var 1) (.lit 0))
 (.ite (.cmp .gtr (.var 1) (.lit 300))
  (.call false 16 [] .bool []
  (.ret (.bool (.var 6)) []))
  (.chk (.cmp .geq (.var 4) (.lit 0))
  (.ite (.cmp .gtr (.var 4) (.lit 300))
   (.call false 16 [] .bool []
   (.ret (.bool (.var 6)) []))
   (.call false 22 [(.sl 0 (.lit 0) (.var 1) (.var 2)), (.sl 3 (.lit 0) (.var 4) (.var 5))] (.tup [(.agg [(.int .i64), (.int .i64)]), (.agg [(.int .i64), (.int .i64)]), (.int .i64)]) []
   (.alloc
   (.alloc
   (.call false 23 [(.sl 0 (.lit 0) (.var 1) (.var 2)), (.sl 3 (.lit 0) (.var 4) (.var 5))] (.tup [(.agg [(.int .i64), (.int .i64)]), (.agg [(.int .i64), (.int .i64)]), (.int .i64)]) [⟨[(.int .i64 (.var 6)), (.int .i64 (.var 7))], 27⟩, ⟨[(.int .i64 (.var 8)), (.int .i64 (.var 9))], 27⟩]
   (.alloc
   (.alloc
   (.call false 24 [(.sl 0 (.lit 0) (.var 1) (.var 2)), (.sl 3 (.lit 0) (.var 4) (.var 5))] (.tup [(.agg [(.int .i64), (.int .i64)]), (.agg [(.int .i64), (.int .i64)]), (.int .i64)]) [⟨[(.int .i64 (.var 6)), (.int .i64 (.var 7))], 27⟩, ⟨[(.int .i64 (.var 8)), (.int .i64 (.var 9))], 27⟩, ⟨[(.int .i64 (.var 11)), (.int .i64 (.var 12))], 27⟩, ⟨[(.int .i64 (.var 13)), (.int .i64 (.var 14))], 27⟩]
   (.alloc
   (.alloc
   (.call false 25 [(.sl 0 (.lit 0) (.var 1) (.var 2)), (.sl 3 (.lit 0) (.var 4) (.var 5))] (.tup [(.agg [(.int .i64), (.int .i64)]), (.agg [(.int .i64), (.int .i64)]), (.int .i64)]) [⟨[(.int .i64 (.var 6)), (.int .i64 (.var 7))], 27⟩, ⟨[(.int .i64 (.var 8)), (.int .i64 (.var 9))], 27⟩, ⟨[(.int .i64 (.var 11)), (.int .i64 (.var 12))], 27⟩, ⟨[(.int .i64 (.var 13)), (.int .i64 (.var 14))], 27⟩, ⟨[(.int .i64 (.var 16)), (.int .i64 (.var 17))], 27⟩, ⟨[(.int .i64 (.var 18)), (.int .i64 (.var 19))], 27⟩]
   (.alloc
   (.alloc
   (.ite (.pick (.pick (.pick (.pick (.pick (.pick (.cmp .eql (.var 6) (.var 11)) (.cmp .eql (.var 7) (.var 12)) (.lit false)) (.pick (.cmp .eql (.var 8) (.var 13)) (.cmp .eql (.var 9) (.var 14)) (.lit false)) (.lit false)) (.cmp .eql (.var 10) (.var 15)) (.lit false)) (.pick (.cmp .eql (.var 16) (.var 21)) (.cmp .eql (.var 17) (.var 22)) (.lit false)) (.lit false)) (.pick (.cmp .eql (.var 18) (.var 23)) (.cmp .eql (.var 19) (.var 24)) (.lit false)) (.lit false)) (.cmp .eql (.var 20) (.var 25)) (.lit false))
    (.call false 16 [] .bool [⟨[(.int .i64 (.var 6)), (.int .i64 (.var 7))], 27⟩, ⟨[(.int .i64 (.var 8)), (.int .i64 (.var 9))], 27⟩, ⟨[(.int .i64 (.var 11)), (.int .i64 (.var 12))], 27⟩, ⟨[(.int .i64 (.var 13)), (.int .i64 (.var 14))], 27⟩, ⟨[(.int .i64 (.var 16)), (.int .i64 (.var 17))], 27⟩, ⟨[(.int .i64 (.var 18)), (.int .i64 (.var 19))], 27⟩, ⟨[(.int .i64 (.var 21)), (.int .i64 (.var 22))], 27⟩, ⟨[(.int .i64 (.var 23)), (.int .i64 (.var 24))], 27⟩]
    (.ret (.bool (.var 26)) [⟨[(.int .i64 (.var 6)), (.int .i64 (.var 7))], 27⟩, ⟨[(.int .i64 (.var 8)), (.int .i64 (.var 9))], 27⟩, ⟨[(.int .i64 (.var 11)), (.int .i64 (.var 12))], 27⟩, ⟨[(.int .i64 (.var 13)), (.int .i64 (.var 14))], 27⟩, ⟨[(.int .i64 (.var 16)), (.int .i64 (.var 17))], 27⟩, ⟨[(.int .i64 (.var 18)), (.int .i64 (.var 19))], 27⟩, ⟨[(.int .i64 (.var 21)), (.int .i64 (.var 22))], 27⟩, ⟨[(.int .i64 (.var 23)), (.int .i64 (.var 24))], 27⟩]))
    (.ret (.bool (.lit false)) [⟨[(.int .i64 (.var 6)), (.int .i64 (.var 7))], 27⟩, ⟨[(.int .i64 (.var 8)), (.int .i64 (.var 9))], 27⟩, ⟨[(.int .i64 (.var 11)), (.int .i64 (.var 12))], 27⟩, ⟨[(.int .i64 (.var 13)), (.int .i64 (.var 14))], 27⟩, ⟨[(.int .i64 (.var 16)), (.int .i64 (.var 17))], 27⟩, ⟨[(.int .i64 (.var 18)), (.int .i64 (.var 19))], 27⟩, ⟨[(.int .i64 (.var 21)), (.int .i64 (.var 22))], 27⟩, ⟨[(.int .i64 (.var 23)), (.int .i64 (.var 24))], 27⟩]))))))))))))))))))
theorem S_law19_CognatesCompares : FnIs Tryd.prog n_law19_CognatesCompares [.sl, .sl] T_law19_CognatesCompares := ⟨Tryd.f4, [], 4000, Tryd.func4, by kernel_rfl⟩
end Go.Proofs.YthabfpagilbplaaDoor
