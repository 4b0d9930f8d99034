/- The trees of this seat's functions, printed by a program of mine (SyGen), checked here by the kernel. -/
import Derived.Test.YthabfpagilbplaaDoorSyDef
import Derived.Test.YthabfpagilbplaaDoorProg
import Derived.KernelRfl
set_option maxRecDepth 100000
namespace Go.Proofs.YthabfpagilbplaaDoor
open Go Go.Sy
abbrev n_cognates_Table : FuncId := 45
def T_cognates_Table : Tree :=
 (.alloc
 (.alloc
 (.call false 80 [(.agg [(.sl 3 (.lit 0) (.var 4) (.var 5)), (.int .i64 (.var 6))])] (.int .i64) [⟨[(.sl 3 (.lit 0) (.var 4) (.var 5)), (.int .i64 (.var 6))], 25⟩, ⟨[(.int .i64 (.var 7)), (.int .i64 (.var 8))], 27⟩]
 (.ite (.cmp .neq (.var 9) (.lit 0))
 (.ret (.tup [(.cst (.slice none 0 0)), (.int .i64 (.lit 2))]) [⟨[(.sl 3 (.lit 0) (.var 4) (.var 5)), (.int .i64 (.var 6))], 25⟩, ⟨[(.int .i64 (.var 7)), (.int .i64 (.var 8))], 27⟩])
 (.chk (.cmp .geq (.var 1) (.lit 0))
 (.ite (.cmp .gtr (.var 1) (.lit 256))
 (.ret (.tup [(.cst (.slice none 0 0)), (.int .i64 (.lit 12))]) [⟨[(.sl 3 (.lit 0) (.var 4) (.var 5)), (.int .i64 (.var 6))], 25⟩, ⟨[(.int .i64 (.var 7)), (.int .i64 (.var 8))], 27⟩])
 (.call false 81 [(.sl 0 (.lit 0) (.var 1) (.var 2)), (.cst (.func (.func 82) #[] #[]))] .bool [⟨[(.sl 3 (.lit 0) (.var 4) (.var 5)), (.int .i64 (.var 6))], 25⟩, ⟨[(.int .i64 (.var 7)), (.int .i64 (.var 8))], 27⟩]
 (.ite (.var 10)
 (.ret (.tup [(.cst (.slice none 0 0)), (.int .i64 (.lit 12))]) [⟨[(.sl 3 (.lit 0) (.var 4) (.var 5)), (.int .i64 (.var 6))], 25⟩, ⟨[(.int .i64 (.var 7)), (.int .i64 (.var 8))], 27⟩])
 (.chk (.cmp .geq (.var 1) (.lit 0))
 (.loop 0 [.sl, (.int .i64), (.int .i64)] [(.cst (.slice none 0 0)), (.int .i64 (.lit 0)), (.int .i64 (.lit 0))] [⟨[(.sl 3 (.lit 0) (.var 4) (.var 5)), (.int .i64 (.var 6))], 25⟩, ⟨[(.int .i64 (.var 7)), (.int .i64 (.var 8))], 27⟩] [⟨[(.sl 3 (.lit 0) (.var 4) (.var 5)), (.int .i64 (.var 6))], 25⟩, ⟨[(.int .i64 (.var 7)), (.int .i64 (.var 8))], 27⟩]
 (.ite (.cmp .lss (.var 15) (.var 1))
 (.chk (.pick (.cmp .geq (.var 15) (.lit 0)) (.pick (.cmp .lss (.var 15) (.var 1)) (.some 0) (.lit false)) (.lit false))
 (.load 0 (.off (.var 15) 2 (.lit 0)) [.val, .sl] [⟨[(.sl 3 (.lit 0) (.var 4) (.var 5)), (.int .i64 (.var 6))], 25⟩, ⟨[(.int .i64 (.var 7)), (.int .i64 (.var 8))], 27⟩]
 (.alloc
 (.chk (.cmp .geq (.var 18) (.lit 0))
 (.chk (.pick (.cmp .lss (.lit 0) (.var 1)) (.some 0) (.lit false))
 (.chk (.some 0)
 (.load 0 (.lit 1) [.sl] [⟨[(.sl 3 (.lit 0) (.var 4) (.var 5)), (.int .i64 (.var 6))], 25⟩, ⟨[(.int .i64 (.var 7)), (.int .i64 (.var 8))], 27⟩, ⟨[(.val 16), (.sl 17 (.lit 0) (.var 18) (.var 19))], 78⟩]
 (.chk (.cmp .geq (.var 21) (.lit 0))
 (.ite (.cmp .neq (.var 18) (.var 21))
 (.ret (.tup [(.cst (.slice none 0 0)), (.int .i64 (.lit 2))]) [⟨[(.sl 3 (.lit 0) (.var 4) (.var 5)), (.int .i64 (.var 6))], 25⟩, ⟨[(.int .i64 (.var 7)), (.int .i64 (.var 8))], 27⟩, ⟨[(.val 16), (.sl 17 (.lit 0) (.var 18) (.var 19))], 78⟩])
 (.call false 83 [(.sl 17 (.lit 0) (.var 18) (.var 19))] .bool [⟨[(.sl 3 (.lit 0) (.var 4) (.var 5)), (.int .i64 (.var 6))], 25⟩, ⟨[(.int .i64 (.var 7)), (.int .i64 (.var 8))], 27⟩, ⟨[(.val 16), (.sl 17 (.lit 0) (.var 18) (.var 19))], 78⟩]
 (.ite (.var 23)
 (.ret (.tup [(.cst (.slice none 0 0)), (.int .i64 (.lit 2))]) [⟨[(.sl 3 (.lit 0) (.var 4) (.var 5)), (.int .i64 (.var 6))], 25⟩, ⟨[(.int .i64 (.var 7)), (.int .i64 (.var 8))], 27⟩, ⟨[(.val 16), (.sl 17 (.lit 0) (.var 18) (.var 19))], 78⟩])
 (.again 0 2 [.sl, (.int .i64), (.int .i64)] [(.sl 11 (.lit 0) (.var 12) (.var 13)), (.int .i64 (.var 14)), (.int .i64 (.bin .add .i64 (.var 15) (.lit 1)))] [⟨[(.sl 3 (.lit 0) (.var 4) (.var 5)), (.int .i64 (.var 6))], 25⟩, ⟨[(.int .i64 (.var 7)), (.int .i64 (.var 8))], 27⟩, ⟨[(.val 16), (.sl 17 (.lit 0) (.var 18) (.var 19))], 78⟩]))))))))))))
 (.chk (.cmp .geq (.var 1) (.lit 0))
 (.loop 0 [.sl, (.int .i64), (.int .i64)] [(.sl 11 (.lit 0) (.var 12) (.var 13)), (.int .i64 (.var 14)), (.int .i64 (.lit 0))] [⟨[(.sl 3 (.lit 0) (.var 4) (.var 5)), (.int .i64 (.var 6))], 25⟩, ⟨[(.int .i64 (.var 7)), (.int .i64 (.var 8))], 27⟩] [⟨[(.sl 3 (.lit 0) (.var 4) (.var 5)), (.int .i64 (.var 6))], 25⟩, ⟨[(.int .i64 (.var 7)), (.int .i64 (.var 8))], 27⟩]
 (.ite (.cmp .lss (.var 20) (.var 1))
 (.chk (.pick (.cmp .geq (.var 20) (.lit 0)) (.pick (.cmp .lss (.var 20) (.var 1)) (.some 0) (.lit false)) (.lit false))
 (.load 0 (.off (.var 20) 2 (.lit 0)) [.val, .sl] [⟨[(.sl 3 (.lit 0) (.var 4) (.var 5)), (.int .i64 (.var 6))], 25⟩, ⟨[(.int .i64 (.var 7)), (.int .i64 (.var 8))], 27⟩]
 (.alloc
 (.call false 84 [(.sl 22 (.lit 0) (.var 23) (.var 24))] (.int .i64) [⟨[(.sl 3 (.lit 0) (.var 4) (.var 5)), (.int .i64 (.var 6))], 25⟩, ⟨[(.int .i64 (.var 7)), (.int .i64 (.var 8))], 27⟩, ⟨[(.val 21), (.sl 22 (.lit 0) (.var 23) (.var 24))], 78⟩]
 (.ite (.cmp .neq (.var 25) (.lit 0))
 (.ret (.tup [(.cst (.slice none 0 0)), (.int .i64 (.var 25))]) [⟨[(.sl 3 (.lit 0) (.var 4) (.var 5)), (.int .i64 (.var 6))], 25⟩, ⟨[(.int .i64 (.var 7)), (.int .i64 (.var 8))], 27⟩, ⟨[(.val 21), (.sl 22 (.lit 0) (.var 23) (.var 24))], 78⟩])
 (.again 0 2 [.sl, (.int .i64), (.int .i64)] [(.sl 16 (.lit 0) (.var 17) (.var 18)), (.int .i64 (.var 19)), (.int .i64 (.bin .add .i64 (.var 20) (.lit 1)))] [⟨[(.sl 3 (.lit 0) (.var 4) (.var 5)), (.int .i64 (.var 6))], 25⟩, ⟨[(.int .i64 (.var 7)), (.int .i64 (.var 8))], 27⟩, ⟨[(.val 21), (.sl 22 (.lit 0) (.var 23) (.var 24))], 78⟩]))))))
 (.call false 85 [(.agg [(.int .i64 (.var 7)), (.int .i64 (.var 8))])] .bool [⟨[(.sl 3 (.lit 0) (.var 4) (.var 5)), (.int .i64 (.var 6))], 25⟩, ⟨[(.int .i64 (.var 7)), (.int .i64 (.var 8))], 27⟩]
 (.ite (.not (.var 21))
 (.ret (.tup [(.cst (.slice none 0 0)), (.int .i64 (.lit 2))]) [⟨[(.sl 3 (.lit 0) (.var 4) (.var 5)), (.int .i64 (.var 6))], 25⟩, ⟨[(.int .i64 (.var 7)), (.int .i64 (.var 8))], 27⟩])
 (.chk (.cmp .geq (.var 1) (.lit 0))
 (.makev 30 24 (.var 1) (.var 1)
 (.chk (.cmp .geq (.var 1) (.lit 0))
 (.loop 0 [.sl, (.int .i64), (.int .i64)] [(.sl 16 (.lit 0) (.var 17) (.var 18)), (.int .i64 (.var 19)), (.int .i64 (.lit 0))] [⟨[(.sl 3 (.lit 0) (.var 4) (.var 5)), (.int .i64 (.var 6))], 25⟩, ⟨[(.int .i64 (.var 7)), (.int .i64 (.var 8))], 27⟩] [⟨[(.sl 3 (.lit 0) (.var 4) (.var 5)), (.int .i64 (.var 6))], 25⟩, ⟨[(.int .i64 (.var 7)), (.int .i64 (.var 8))], 27⟩]
 (.ite (.cmp .lss (.var 29) (.var 1))
 (.chk (.pick (.cmp .geq (.var 29) (.lit 0)) (.pick (.cmp .lss (.var 29) (.var 1)) (.some 0) (.lit false)) (.lit false))
 (.load 0 (.off (.var 29) 2 (.lit 0)) [.val, .sl] [⟨[(.sl 3 (.lit 0) (.var 4) (.var 5)), (.int .i64 (.var 6))], 25⟩, ⟨[(.int .i64 (.var 7)), (.int .i64 (.var 8))], 27⟩]
 (.alloc
 (.call false 17 [(.sl 31 (.lit 0) (.var 32) (.var 33)), (.agg [(.sl 3 (.lit 0) (.var 4) (.var 5)), (.int .i64 (.var 6))]), (.agg [(.int .i64 (.var 7)), (.int .i64 (.var 8))])] (.tup [.sl, (.int .i64)]) [⟨[(.sl 3 (.lit 0) (.var 4) (.var 5)), (.int .i64 (.var 6))], 25⟩, ⟨[(.int .i64 (.var 7)), (.int .i64 (.var 8))], 27⟩, ⟨[(.val 30), (.sl 31 (.lit 0) (.var 32) (.var 33))], 78⟩]
 (.ite (.cmp .neq (.var 37) (.lit 0))
 (.ret (.tup [(.cst (.slice none 0 0)), (.int .i64 (.var 37))]) [⟨[(.sl 3 (.lit 0) (.var 4) (.var 5)), (.int .i64 (.var 6))], 25⟩, ⟨[(.int .i64 (.var 7)), (.int .i64 (.var 8))], 27⟩, ⟨[(.val 30), (.sl 31 (.lit 0) (.var 32) (.var 33))], 78⟩])
 (.chk (.pick (.cmp .geq (.var 29) (.lit 0)) (.pick (.cmp .lss (.var 29) (.var 23)) (.some 22) (.lit false)) (.lit false))
 (.store false 22 (.off (.var 29) 1 (.lit 0)) [(.sl 34 (.lit 0) (.var 35) (.var 36))] [⟨[(.sl 3 (.lit 0) (.var 4) (.var 5)), (.int .i64 (.var 6))], 25⟩, ⟨[(.int .i64 (.var 7)), (.int .i64 (.var 8))], 27⟩, ⟨[(.val 30), (.sl 31 (.lit 0) (.var 32) (.var 33))], 78⟩]
 (.again 0 2 [.sl, (.int .i64), (.int .i64)] [(.sl 25 (.lit 0) (.var 26) (.var 27)), (.int .i64 (.var 28)), (.int .i64 (.bin .add .i64 (.var 29) (.lit 1)))] [⟨[(.sl 3 (.lit 0) (.var 4) (.var 5)), (.int .i64 (.var 6))], 25⟩, ⟨[(.int .i64 (.var 7)), (.int .i64 (.var 8))], 27⟩, ⟨[(.val 30), (.sl 31 (.lit 0) (.var 32) (.var 33))], 78⟩]))))))))
 (.ret (.tup [(.sl 22 (.lit 0) (.var 23) (.var 24)), (.int .i64 (.lit 0))]) [⟨[(.sl 3 (.lit 0) (.var 4) (.var 5)), (.int .i64 (.var 6))], 25⟩, ⟨[(.int .i64 (.var 7)), (.int .i64 (.var 8))], 27⟩]))))))))))))))))))))))
theorem S_cognates_Table : FnIs Tryd.prog n_cognates_Table [.sl, (.agg [.sl, (.int .i64)]), (.agg [(.int .i64), (.int .i64)])] T_cognates_Table := ⟨Tryd.f45, [], 4000, Tryd.func45, by kernel_rfl⟩
abbrev n_slices_ContainsFunc___api_Entry_api_Entry_ : FuncId := 81
def T_slices_ContainsFunc___api_Entry_api_Entry_ : Tree :=
 (.call false 101 [(.sl 0 (.lit 0) (.var 1) (.var 2)), (.val 3)] (.int .i64) []
 (.ret (.bool (.cmp .geq (.var 4) (.lit 0))) []))
theorem S_slices_ContainsFunc___api_Entry_api_Entry_ : FnIs Tryd.prog n_slices_ContainsFunc___api_Entry_api_Entry_ [.sl, .val] T_slices_ContainsFunc___api_Entry_api_Entry_ := ⟨Tryd.f81, [], 4000, Tryd.func81, by kernel_rfl⟩
abbrev n_cognates_Table_1 : FuncId := 82
def T_cognates_Table_1 : Tree :=
 (.alloc
 (.chk (.cmp .geq (.var 2) (.lit 0))
 (.ret (.bool (.cmp .gtr (.var 2) (.lit 16))) [⟨[(.val 0), (.sl 1 (.lit 0) (.var 2) (.var 3))], 78⟩])))
theorem S_cognates_Table_1 : FnIs Tryd.prog n_cognates_Table_1 [(.agg [.val, .sl])] T_cognates_Table_1 := ⟨Tryd.f82, [], 4000, Tryd.func82, by kernel_rfl⟩
abbrev n_slices_IndexFunc___api_Entry_api_Entry_ : FuncId := 101
def T_slices_IndexFunc___api_Entry_api_Entry_ : Tree :=
 (.chk (.cmp .geq (.var 1) (.lit 0))
 (.loop 0 [(.int .i64), (.int .i64)] [(.int .i64 (.lit 0)), (.int .i64 (.lit 0))] [] []
 (.ite (.cmp .lss (.var 5) (.var 1))
 (.chk (.pick (.cmp .geq (.var 5) (.lit 0)) (.pick (.cmp .lss (.var 5) (.var 1)) (.some 0) (.lit false)) (.lit false))
 (.load 0 (.off (.var 5) 2 (.lit 0)) [.val, .sl] []
 (.callv false (.val 3) [(.agg [(.val 6), (.sl 7 (.lit 0) (.var 8) (.var 9))])] .bool []
 (.ite (.var 10)
 (.ret (.int .i64 (.var 5)) [])
 (.again 0 0 [(.int .i64), (.int .i64)] [(.int .i64 (.var 4)), (.int .i64 (.bin .add .i64 (.var 5) (.lit 1)))] [])))))
 (.ret (.int .i64 (.lit (-1))) []))))
theorem S_slices_IndexFunc___api_Entry_api_Entry_ : FnIs Tryd.prog n_slices_IndexFunc___api_Entry_api_Entry_ [.sl, .val] T_slices_IndexFunc___api_Entry_api_Entry_ := ⟨Tryd.f101, [], 4000, Tryd.func101, by kernel_rfl⟩
end Go.Proofs.YthabfpagilbplaaDoor
