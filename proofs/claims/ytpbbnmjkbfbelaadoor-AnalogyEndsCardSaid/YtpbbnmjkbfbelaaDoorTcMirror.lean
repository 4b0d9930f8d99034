/- The trees of this seat's functions, printed by a program of mine (SyGen), checked here by the kernel. -/
import Derived.Test.YtpbbnmjkbfbelaaDoorSyDef
import Derived.Test.YtpbbnmjkbfbelaaDoorProg
import Derived.KernelRfl
set_option maxRecDepth 100000
namespace Go.Proofs.YtpbbnmjkbfbelaaDoor
open Go Go.Sy
/-! 12 ablaut/ablautlaw30.AnalogyMirror  -/
abbrev n_law30_AnalogyMirror : FuncId := 12
def T_law30_AnalogyMirror : Tree :=
 (.alloc
 (.call false 27 [(.slc 0 0 3 3)] .bool [⟨[(.sl 0 (.lit 0) (.var 1) (.var 2)), (.sl 3 (.lit 0) (.var 4) (.var 5)), (.sl 6 (.lit 0) (.var 7) (.var 8))], 22⟩]
 (.ite (.not (.var 9))
  (.call false 14 [] .bool [⟨[(.sl 0 (.lit 0) (.var 1) (.var 2)), (.sl 3 (.lit 0) (.var 4) (.var 5)), (.sl 6 (.lit 0) (.var 7) (.var 8))], 22⟩]
  (.ret (.bool (.var 10)) [⟨[(.sl 0 (.lit 0) (.var 1) (.var 2)), (.sl 3 (.lit 0) (.var 4) (.var 5)), (.sl 6 (.lit 0) (.var 7) (.var 8))], 22⟩]))
  (.call false 39 [(.sl 0 (.lit 0) (.var 1) (.var 2))] (.tup [.sl, (.int .i64)]) [⟨[(.sl 0 (.lit 0) (.var 1) (.var 2)), (.sl 3 (.lit 0) (.var 4) (.var 5)), (.sl 6 (.lit 0) (.var 7) (.var 8))], 22⟩]
  (.call false 39 [(.sl 3 (.lit 0) (.var 4) (.var 5))] (.tup [.sl, (.int .i64)]) [⟨[(.sl 0 (.lit 0) (.var 1) (.var 2)), (.sl 3 (.lit 0) (.var 4) (.var 5)), (.sl 6 (.lit 0) (.var 7) (.var 8))], 22⟩]
  (.call false 39 [(.sl 6 (.lit 0) (.var 7) (.var 8))] (.tup [.sl, (.int .i64)]) [⟨[(.sl 0 (.lit 0) (.var 1) (.var 2)), (.sl 3 (.lit 0) (.var 4) (.var 5)), (.sl 6 (.lit 0) (.var 7) (.var 8))], 22⟩]
  (.call false 16 [(.sl 0 (.lit 0) (.var 1) (.var 2)), (.sl 3 (.lit 0) (.var 4) (.var 5)), (.sl 6 (.lit 0) (.var 7) (.var 8))] (.tup [.sl, .bool, (.int .i64)]) [⟨[(.sl 0 (.lit 0) (.var 1) (.var 2)), (.sl 3 (.lit 0) (.var 4) (.var 5)), (.sl 6 (.lit 0) (.var 7) (.var 8))], 22⟩]
  (.call false 18 [(.sl 10 (.lit 0) (.var 11) (.var 12)), (.sl 14 (.lit 0) (.var 15) (.var 16)), (.sl 18 (.lit 0) (.var 19) (.var 20))] (.tup [.sl, .bool, (.int .i64)]) [⟨[(.sl 0 (.lit 0) (.var 1) (.var 2)), (.sl 3 (.lit 0) (.var 4) (.var 5)), (.sl 6 (.lit 0) (.var 7) (.var 8))], 22⟩]
  (.ite (.pick (.pick (.pick (.pick (.cmp .neq (.var 13) (.lit 0)) (.lit true) (.cmp .neq (.var 17) (.lit 0))) (.lit true) (.cmp .neq (.var 21) (.lit 0))) (.lit true) (.cmp .neq (.var 26) (.var 31))) (.lit true) (.not (.beq (.var 25) (.var 30))))
   (.ret (.bool (.lit false)) [⟨[(.sl 0 (.lit 0) (.var 1) (.var 2)), (.sl 3 (.lit 0) (.var 4) (.var 5)), (.sl 6 (.lit 0) (.var 7) (.var 8))], 22⟩])
   (.call false 39 [(.sl 27 (.lit 0) (.var 28) (.var 29))] (.tup [.sl, (.int .i64)]) [⟨[(.sl 0 (.lit 0) (.var 1) (.var 2)), (.sl 3 (.lit 0) (.var 4) (.var 5)), (.sl 6 (.lit 0) (.var 7) (.var 8))], 22⟩]
   (.join 0 [.bool] [⟨[(.sl 0 (.lit 0) (.var 1) (.var 2)), (.sl 3 (.lit 0) (.var 4) (.var 5)), (.sl 6 (.lit 0) (.var 7) (.var 8))], 22⟩]
    (.ite (.cmp .eql (.var 35) (.lit 0))
     (.call false 29 [(.sl 22 (.lit 0) (.var 23) (.var 24)), (.sl 32 (.lit 0) (.var 33) (.var 34))] .bool [⟨[(.sl 0 (.lit 0) (.var 1) (.var 2)), (.sl 3 (.lit 0) (.var 4) (.var 5)), (.sl 6 (.lit 0) (.var 7) (.var 8))], 22⟩]
     (.ite (.var 36)
      (.call false 14 [] .bool [⟨[(.sl 0 (.lit 0) (.var 1) (.var 2)), (.sl 3 (.lit 0) (.var 4) (.var 5)), (.sl 6 (.lit 0) (.var 7) (.var 8))], 22⟩]
      (.again 0 1 [.bool] [(.bool (.var 37))] [⟨[(.sl 0 (.lit 0) (.var 1) (.var 2)), (.sl 3 (.lit 0) (.var 4) (.var 5)), (.sl 6 (.lit 0) (.var 7) (.var 8))], 22⟩]))
      (.again 0 1 [.bool] [(.bool (.lit false))] [⟨[(.sl 0 (.lit 0) (.var 1) (.var 2)), (.sl 3 (.lit 0) (.var 4) (.var 5)), (.sl 6 (.lit 0) (.var 7) (.var 8))], 22⟩])))
     (.again 0 1 [.bool] [(.bool (.lit false))] [⟨[(.sl 0 (.lit 0) (.var 1) (.var 2)), (.sl 3 (.lit 0) (.var 4) (.var 5)), (.sl 6 (.lit 0) (.var 7) (.var 8))], 22⟩]))
   (.ret (.bool (.var 36)) [⟨[(.sl 0 (.lit 0) (.var 1) (.var 2)), (.sl 3 (.lit 0) (.var 4) (.var 5)), (.sl 6 (.lit 0) (.var 7) (.var 8))], 22⟩]))))))))))))
theorem S_law30_AnalogyMirror : FnIs Tryd.prog n_law30_AnalogyMirror [.sl, .sl, .sl] T_law30_AnalogyMirror := ⟨Tryd.f12, [{ key := 200011, tmps := [], join := true, dead := 19806738397111180741023105080 }], 4000, Tryd.func12, by kernel_rfl⟩
end Go.Proofs.YtpbbnmjkbfbelaaDoor
