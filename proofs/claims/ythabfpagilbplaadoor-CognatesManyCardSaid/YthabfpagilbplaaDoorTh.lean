/- The trees of this seat's functions, printed by a program of mine (SyGen), checked here by the kernel. -/
import Derived.Test.YthabfpagilbplaaDoorSyDef
import Derived.Test.YthabfpagilbplaaDoorProg
import Derived.KernelRfl
set_option maxRecDepth 100000
namespace Go.Proofs.YthabfpagilbplaaDoor
open Go Go.Sy
abbrev n_cognates_Sets : FuncId := 41
def T_cognates_Sets : Tree :=
 (.chk (.cmp .geq (.var 1) (.lit 0))
 (.ite (.cmp .gtr (.var 1) (.lit 256))
 (.ret (.tup [(.cst (.slice none 0 0)), (.int .i64 (.lit 12))]) [])
 (.chk (.cmp .geq (.var 1) (.lit 0))
 (.loop 0 [.sl, (.int .i64), (.int .i64)] [(.cst (.slice none 0 0)), (.int .i64 (.lit 0)), (.int .i64 (.lit 0))] [] []
 (.ite (.cmp .lss (.var 7) (.var 1))
 (.chk (.pick (.cmp .geq (.var 7) (.lit 0)) (.pick (.cmp .lss (.var 7) (.var 1)) (.some 0) (.lit false)) (.lit false))
 (.load 0 (.off (.var 7) 1 (.lit 0)) [(.int .i64)] []
 (.ite (.not (.pick (.cmp .lss (.var 8) (.lit (-1))) (.lit true) (.cmp .gtr (.var 8) (.var 7))))
 (.ite (.cmp .geq (.var 8) (.lit 0))
 (.chk (.pick (.cmp .geq (.var 8) (.lit 0)) (.pick (.cmp .lss (.var 8) (.var 1)) (.some 0) (.lit false)) (.lit false))
 (.load 0 (.off (.var 8) 1 (.lit 0)) [(.int .i64)] []
 (.ite (.cmp .neq (.var 9) (.var 8))
 (.ret (.tup [(.cst (.slice none 0 0)), (.int .i64 (.lit 2))]) [])
 (.again 0 0 [.sl, (.int .i64), (.int .i64)] [(.sl 3 (.lit 0) (.var 4) (.var 5)), (.int .i64 (.var 6)), (.int .i64 (.bin .add .i64 (.var 7) (.lit 1)))] []))))
 (.again 0 0 [.sl, (.int .i64), (.int .i64)] [(.sl 3 (.lit 0) (.var 4) (.var 5)), (.int .i64 (.var 6)), (.int .i64 (.bin .add .i64 (.var 7) (.lit 1)))] []))
 (.ret (.tup [(.cst (.slice none 0 0)), (.int .i64 (.lit 2))]) []))))
 (.chk (.cmp .geq (.var 1) (.lit 0))
 (.makev 3 8 (.var 1) (.var 1)
 (.chk (.cmp .geq (.var 1) (.lit 0))
 (.loop 0 [.sl, (.int .i64)] [(.cst (.slice none 0 0)), (.int .i64 (.lit 0))] [] []
 (.ite (.cmp .lss (.var 14) (.var 1))
 (.chk (.pick (.cmp .geq (.var 14) (.lit 0)) (.pick (.cmp .lss (.var 14) (.var 1)) (.some 0) (.lit false)) (.lit false))
 (.load 0 (.off (.var 14) 1 (.lit 0)) [(.int .i64)] []
 (.ite (.cmp .lss (.var 15) (.lit 0))
 (.again 0 0 [.sl, (.int .i64)] [(.sl 11 (.lit 0) (.var 12) (.var 13)), (.int .i64 (.bin .add .i64 (.var 14) (.lit 1)))] [])
 (.ite (.cmp .eql (.var 15) (.var 14))
 (.chk (.cmp .geq (.var 12) (.lit 0))
 (.chk (.pick (.cmp .geq (.var 14) (.lit 0)) (.pick (.cmp .lss (.var 14) (.var 9)) (.some 8) (.lit false)) (.lit false))
 (.store false 8 (.off (.var 14) 1 (.lit 0)) [(.int .i64 (.var 12))] []
 (.alloc
 (.alloc
 (.ext false ⟨(.call ⟨.builtin .append, #[(.tmp 0), (.tmp 0)], #[60, 60]⟩), 60, [(.sl 11 (.lit 0) (.var 12) (.var 13)), (.slc 1 0 1 1)]⟩ .sl [⟨[(.int .i64 (.var 14))], 3⟩, ⟨[(.slc 0 0 1 1)], 30⟩]
 (.again 0 0 [.sl, (.int .i64)] [(.sl 16 (.lit 0) (.var 17) (.var 18)), (.int .i64 (.bin .add .i64 (.var 14) (.lit 1)))] [⟨[(.int .i64 (.var 14))], 3⟩, ⟨[(.slc 0 0 1 1)], 30⟩])))))))
 (.chk (.pick (.cmp .geq (.var 15) (.lit 0)) (.pick (.cmp .lss (.var 15) (.var 9)) (.some 8) (.lit false)) (.lit false))
 (.load 8 (.off (.var 15) 1 (.lit 0)) [(.int .i64)] []
 (.chk (.pick (.cmp .geq (.var 15) (.lit 0)) (.pick (.cmp .lss (.var 15) (.var 9)) (.some 8) (.lit false)) (.lit false))
 (.load 8 (.off (.var 15) 1 (.lit 0)) [(.int .i64)] []
 (.chk (.pick (.cmp .geq (.var 17) (.lit 0)) (.pick (.cmp .lss (.var 17) (.var 12)) (.some 11) (.lit false)) (.lit false))
 (.load 11 (.off (.var 17) 1 (.lit 0)) [.sl] []
 (.alloc
 (.exk ⟨(.call ⟨.builtin .append, #[(.tmp 0), (.tmp 0)], #[30, 30]⟩), 30, [(.sl 18 (.lit 0) (.var 19) (.var 20)), (.slc 0 0 1 1)]⟩ .sl [⟨[(.int .i64 (.var 14))], 3⟩] ⟨(.load 3 (.tmp 0)), 3, [(.ptr 8 (.off (.var 15) 1 (.lit 0)))]⟩
 (.chk (.pick (.cmp .geq (.var 16) (.lit 0)) (.pick (.cmp .lss (.var 16) (.var 12)) (.some 11) (.lit false)) (.lit false))
 (.store false 11 (.off (.var 16) 1 (.lit 0)) [(.sl 21 (.lit 0) (.var 22) (.var 23))] [⟨[(.int .i64 (.var 14))], 3⟩]
 (.again 0 0 [.sl, (.int .i64)] [(.sl 11 (.lit 0) (.var 12) (.var 13)), (.int .i64 (.bin .add .i64 (.var 14) (.lit 1)))] [⟨[(.int .i64 (.var 14))], 3⟩])))))))))))))))
 (.ret (.tup [(.sl 11 (.lit 0) (.var 12) (.var 13)), (.int .i64 (.lit 0))]) [])))))))))))
theorem S_cognates_Sets : FnIs Tryd.prog n_cognates_Sets [.sl] T_cognates_Sets := ⟨Tryd.f41, [], 4000, Tryd.func41, by kernel_rfl⟩
end Go.Proofs.YthabfpagilbplaaDoor
