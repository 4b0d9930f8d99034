/- The trees of this seat's functions, printed by a program of mine (SyGen), checked here by the kernel. -/
import Derived.Test.YtkhcfbdjmpodbaaDoorSyDef
import Derived.Test.YtkhcfbdjmpodbaaDoorProg
import Derived.KernelRfl
set_option maxRecDepth 100000
namespace Go.Proofs.YtkhcfbdjmpodbaaDoor
open Go Go.Sy
abbrev n_tree_Leaves : FuncId := 4
def T_tree_Leaves : Tree :=
 (.call false 10 [(.sl 0 (.lit 0) (.var 1) (.var 2))] (.int .i64) []
 (.ite (.cmp .neq (.var 3) (.lit 0))
 (.ret (.tup [(.cst (.slice none 0 0)), (.int .i64 (.var 3))]) [])
 (.call false 11 [(.sl 0 (.lit 0) (.var 1) (.var 2))] .sl []
 (.ret (.tup [(.sl 4 (.lit 0) (.var 5) (.var 6)), (.int .i64 (.lit 0))]) []))))
theorem S_tree_Leaves : FnIs Tryd.prog n_tree_Leaves [.sl] T_tree_Leaves := ⟨Tryd.f4, [], 4000, Tryd.func4, by kernel_rfl⟩
abbrev n_tree_Check : FuncId := 10
def T_tree_Check : Tree :=
 (.chk (.cmp .geq (.var 1) (.lit 0))
 (.ite (.cmp .eql (.var 1) (.lit 0))
 (.ret (.int .i64 (.lit 16)) [])
 (.chk (.cmp .geq (.var 1) (.lit 0))
 (.ite (.cmp .gtr (.var 1) (.lit 63))
 (.ret (.int .i64 (.lit 16)) [])
 (.ext false ⟨(.makeMap 78 none), 78, []⟩ .val []
 (.chk (.cmp .geq (.var 1) (.lit 0))
 (.loop 0 [(.int .i64), (.int .i64)] [(.int .i64 (.lit 0)), (.int .i64 (.lit 0))] [] []
 (.ite (.cmp .lss (.var 5) (.var 1))
 (.chk (.pick (.cmp .geq (.var 5) (.lit 0)) (.pick (.cmp .lss (.var 5) (.var 1)) (.some 0) (.lit false)) (.lit false))
 (.load 0 (.off (.var 5) 2 (.lit 0)) [(.int .i64), .val] []
 (.alloc
 (.ite (.pick (.cmp .geq (.var 6) (.var 5)) (.lit true) (.cmp .lss (.var 6) (.mn (.bin .sub .i64 (.var 5) (.lit 1)) (.lit 0))))
 (.ret (.int .i64 (.lit 16)) [⟨[(.int .i64 (.var 6)), (.val 7)], 55⟩])
 (.call false 23 [(.val 7)] .bool [⟨[(.int .i64 (.var 6)), (.val 7)], 55⟩]
 (.ite (.not (.var 8))
 (.ret (.int .i64 (.lit 16)) [⟨[(.int .i64 (.var 6)), (.val 7)], 55⟩])
 (.extp ⟨(.lookup 78 (.tmp 0) (.tmp 0) false), 4, [(.val 3), (.val 7)]⟩ .bool [⟨[(.int .i64 (.var 6)), (.val 7)], 55⟩]
 (.ite (.var 9)
 (.ret (.int .i64 (.lit 16)) [⟨[(.int .i64 (.var 6)), (.val 7)], 55⟩])
 (.extu false ⟨(.mapUpdate 78 (.tmp 0) (.tmp 0) (.tmp 0)), 0, [(.val 3), (.val 7), (.bool (.lit true))]⟩ [⟨[(.int .i64 (.var 6)), (.val 7)], 55⟩]
 (.again 0 0 [(.int .i64), (.int .i64)] [(.int .i64 (.var 4)), (.int .i64 (.bin .add .i64 (.var 5) (.lit 1)))] [⟨[(.int .i64 (.var 6)), (.val 7)], 55⟩]))))))))))
 (.ret (.int .i64 (.lit 0)) [])))))))))
theorem S_tree_Check : FnIs Tryd.prog n_tree_Check [.sl] T_tree_Check := ⟨Tryd.f10, [], 4000, Tryd.func10, by kernel_rfl⟩
abbrev n_tree_leaves : FuncId := 11
def T_tree_leaves : Tree :=
 (.call false 24 [(.sl 0 (.lit 0) (.var 1) (.var 2))] .sl []
 (.chk (.cmp .geq (.var 4) (.lit 0))
 (.loop 0 [.sl, (.int .i64)] [(.cst (.slice none 0 0)), (.int .i64 (.lit 0))] [] []
 (.ite (.cmp .lss (.var 9) (.var 4))
 (.chk (.pick (.cmp .geq (.var 9) (.lit 0)) (.pick (.cmp .lss (.var 9) (.var 4)) (.some 3) (.lit false)) (.lit false))
 (.load 3 (.off (.var 9) 1 (.lit 0)) [.sl] []
 (.chk (.cmp .geq (.var 11) (.lit 0))
 (.join 1 [.sl] []
 (.ite (.cmp .eql (.var 11) (.lit 0))
 (.alloc
 (.ext false ⟨(.call ⟨.builtin .append, #[(.tmp 0), (.tmp 0)], #[29, 29]⟩), 29, [(.sl 6 (.lit 0) (.var 7) (.var 8)), (.slc 0 0 1 1)]⟩ .sl [⟨[(.int .i64 (.var 9))], 3⟩]
 (.again 1 0 [.sl] [(.sl 13 (.lit 0) (.var 14) (.var 15))] [⟨[(.int .i64 (.var 9))], 3⟩])))
 (.again 1 0 [.sl] [(.sl 6 (.lit 0) (.var 7) (.var 8))] []))
 (.again 0 0 [.sl, (.int .i64)] [(.sl 13 (.lit 0) (.var 14) (.var 15)), (.int .i64 (.bin .add .i64 (.var 9) (.lit 1)))] [])))))
 (.ret (.sl 6 (.lit 0) (.var 7) (.var 8)) [])))))
theorem S_tree_leaves : FnIs Tryd.prog n_tree_leaves [.sl] T_tree_leaves := ⟨Tryd.f11, [{ key := 6, tmps := [], join := true, dead := 8321090 }], 4000, Tryd.func11, by kernel_rfl⟩
abbrev n_tree_named : FuncId := 23
def T_tree_named : Tree :=
 (.extp ⟨(.call ⟨.builtin .len, #[(.tmp 0)], #[9]⟩), 3, [(.val 0)]⟩ (.int .i64) []
 (.loop 0 [.bool, (.int .i64)] [(.bool (.lit false)), (.int .i64 (.lit 0))] [] []
 (.ite (.cmp .lss (.var 3) (.var 1))
 (.extp ⟨(.index 9 (.tmp 0) (.tmp 0)), 5, [(.val 0), (.int .i64 (.var 3))]⟩ (.int .u8) []
 (.call false 43 [(.int .u8 (.var 4))] .bool []
 (.ite (.not (.var 5))
 (.ret (.bool (.lit false)) [])
 (.again 0 0 [.bool, (.int .i64)] [(.bool (.var 2)), (.int .i64 (.bin .add .i64 (.var 3) (.lit 1)))] []))))
 (.extp ⟨(.call ⟨.builtin .len, #[(.tmp 0)], #[9]⟩), 3, [(.val 0)]⟩ (.int .i64) []
 (.ite (.cmp .lss (.lit 0) (.var 4))
 (.extp ⟨(.call ⟨.builtin .len, #[(.tmp 0)], #[9]⟩), 3, [(.val 0)]⟩ (.int .i64) []
 (.ret (.bool (.cmp .leq (.var 5) (.lit 24))) []))
 (.ret (.bool (.lit false)) []))))))
theorem S_tree_named : FnIs Tryd.prog n_tree_named [.val] T_tree_named := ⟨Tryd.f23, [], 4000, Tryd.func23, by kernel_rfl⟩
abbrev n_tree_families : FuncId := 24
def T_tree_families : Tree :=
 (.chk (.cmp .geq (.var 1) (.lit 0))
 (.makev 29 24 (.var 1) (.var 1)
 (.chk (.cmp .geq (.var 1) (.lit 0))
 (.loop 0 [(.int .i64)] [(.int .i64 (.lit 0))] [] []
 (.ite (.cmp .lss (.var 6) (.var 1))
 (.chk (.pick (.cmp .geq (.var 6) (.lit 0)) (.pick (.cmp .lss (.var 6) (.var 1)) (.some 0) (.lit false)) (.lit false))
 (.load 0 (.off (.var 6) 2 (.lit 0)) [(.int .i64), .val] []
 (.alloc
 (.ite (.cmp .gtr (.var 6) (.lit 0))
 (.chk (.pick (.cmp .geq (.var 7) (.lit 0)) (.pick (.cmp .lss (.var 7) (.var 4)) (.some 3) (.lit false)) (.lit false))
 (.load 3 (.off (.var 7) 1 (.lit 0)) [.sl] [⟨[(.int .i64 (.var 7)), (.val 8)], 55⟩]
 (.alloc
 (.ext false ⟨(.call ⟨.builtin .append, #[(.tmp 0), (.tmp 0)], #[29, 29]⟩), 29, [(.sl 9 (.lit 0) (.var 10) (.var 11)), (.slc 1 0 1 1)]⟩ .sl [⟨[(.int .i64 (.var 7)), (.val 8)], 55⟩, ⟨[(.int .i64 (.var 6))], 3⟩]
 (.chk (.pick (.cmp .geq (.var 7) (.lit 0)) (.pick (.cmp .lss (.var 7) (.var 4)) (.some 3) (.lit false)) (.lit false))
 (.store false 3 (.off (.var 7) 1 (.lit 0)) [(.sl 12 (.lit 0) (.var 13) (.var 14))] [⟨[(.int .i64 (.var 7)), (.val 8)], 55⟩, ⟨[(.int .i64 (.var 6))], 3⟩]
 (.again 0 0 [(.int .i64)] [(.int .i64 (.bin .add .i64 (.var 6) (.lit 1)))] [⟨[(.int .i64 (.var 7)), (.val 8)], 55⟩, ⟨[(.int .i64 (.var 6))], 3⟩])))))))
 (.again 0 0 [(.int .i64)] [(.int .i64 (.bin .add .i64 (.var 6) (.lit 1)))] [⟨[(.int .i64 (.var 7)), (.val 8)], 55⟩])))))
 (.ret (.sl 3 (.lit 0) (.var 4) (.var 5)) []))))))
theorem S_tree_families : FnIs Tryd.prog n_tree_families [.sl] T_tree_families := ⟨Tryd.f24, [], 4000, Tryd.func24, by kernel_rfl⟩
abbrev n_tree_letter : FuncId := 43
def T_tree_letter : Tree :=
 (.ite (.cmp .leq (.lit 65) (.var 0))
 (.ite (.pick (.cmp .leq (.lit 97) (.var 0)) (.cmp .leq (.var 0) (.lit 122)) (.lit false))
 (.ret (.bool (.lit true)) [])
 (.ite (.cmp .leq (.lit 48) (.var 0))
 (.ite (.cmp .leq (.var 0) (.lit 90))
 (.ret (.bool (.lit true)) [])
 (.ret (.bool (.pick (.cmp .leq (.var 0) (.lit 57)) (.lit true) (.cmp .eql (.var 0) (.lit 45)))) []))
 (.ret (.bool (.pick (.pick (.cmp .leq (.var 0) (.lit 90)) (.lit true) (.lit false)) (.lit true) (.cmp .eql (.var 0) (.lit 45)))) [])))
 (.ite (.cmp .leq (.lit 48) (.var 0))
 (.ite (.pick (.pick (.cmp .leq (.lit 97) (.var 0)) (.cmp .leq (.var 0) (.lit 122)) (.lit false)) (.lit true) (.lit false))
 (.ret (.bool (.lit true)) [])
 (.ret (.bool (.pick (.cmp .leq (.var 0) (.lit 57)) (.lit true) (.cmp .eql (.var 0) (.lit 45)))) []))
 (.ret (.bool (.pick (.pick (.pick (.pick (.cmp .leq (.lit 97) (.var 0)) (.cmp .leq (.var 0) (.lit 122)) (.lit false)) (.lit true) (.lit false)) (.lit true) (.lit false)) (.lit true) (.cmp .eql (.var 0) (.lit 45)))) [])))
theorem S_tree_letter : FnIs Tryd.prog n_tree_letter [(.int .u8)] T_tree_letter := ⟨Tryd.f43, [], 4000, Tryd.func43, by kernel_rfl⟩
end Go.Proofs.YtkhcfbdjmpodbaaDoor
