/- The trees of this seat's functions, printed by a program of mine (SyGen), checked here by the kernel. -/
import Derived.Test.YthabfpagilbplaaDoorSyDef
import Derived.Test.YthabfpagilbplaaDoorProg
import Derived.KernelRfl
set_option maxRecDepth 100000
namespace Go.Proofs.YthabfpagilbplaaDoor
open Go Go.Sy
abbrev n_edit_Dist : FuncId := 72
def T_edit_Dist : Tree :=
 (.alloc
 (.call false 97 [(.sl 0 (.lit 0) (.var 1) (.var 2)), (.sl 3 (.lit 0) (.var 4) (.var 5)), (.agg [(.sl 6 (.lit 0) (.var 7) (.var 8)), (.int .i64 (.var 9))])] (.tup [.ptr, (.int .i64)]) [⟨[(.sl 6 (.lit 0) (.var 7) (.var 8)), (.int .i64 (.var 9))], 25⟩]
 (.ite (.cmp .neq (.var 11) (.lit 0))
 (.ret (.tup [(.int .i64 (.lit 0)), (.int .i64 (.var 11))]) [⟨[(.sl 6 (.lit 0) (.var 7) (.var 8)), (.int .i64 (.var 9))], 25⟩])
 (.chk (.some 10)
 (.chk (.some 10)
 (.chk (.some 10)
 (.chk (.some 10)
 (.load 10 (.lit 4) [(.int .i64)] [⟨[(.sl 6 (.lit 0) (.var 7) (.var 8)), (.int .i64 (.var 9))], 25⟩]
 (.ret (.tup [(.int .i64 (.var 12)), (.int .i64 (.lit 0))]) [⟨[(.sl 6 (.lit 0) (.var 7) (.var 8)), (.int .i64 (.var 9))], 25⟩])))))))))
theorem S_edit_Dist : FnIs Tryd.prog n_edit_Dist [.sl, .sl, (.agg [.sl, (.int .i64)])] T_edit_Dist := ⟨Tryd.f72, [], 4000, Tryd.func72, by kernel_rfl⟩
abbrev n_edit_newTable : FuncId := 97
def T_edit_newTable : Tree :=
 (.alloc
 (.alloc
 (.call false 107 [(.agg [(.sl 6 (.lit 0) (.var 7) (.var 8)), (.int .i64 (.var 9))]), (.slc 1 0 2 2)] (.int .i64) [⟨[(.sl 6 (.lit 0) (.var 7) (.var 8)), (.int .i64 (.var 9))], 25⟩, ⟨[(.sl 0 (.lit 0) (.var 1) (.var 2)), (.sl 3 (.lit 0) (.var 4) (.var 5))], 48⟩]
 (.ite (.cmp .neq (.var 10) (.lit 0))
 (.ret (.tup [(.cst (.pointer none)), (.int .i64 (.var 10))]) [⟨[(.sl 6 (.lit 0) (.var 7) (.var 8)), (.int .i64 (.var 9))], 25⟩, ⟨[(.sl 0 (.lit 0) (.var 1) (.var 2)), (.sl 3 (.lit 0) (.var 4) (.var 5))], 48⟩])
 (.allocc 148 ([(.sl 0 (.lit 0) (.var 1) (.var 2)), (.sl 3 (.lit 0) (.var 4) (.var 5)), (.sl 6 (.lit 0) (.var 7) (.var 8)), (.int .i64 (.var 9))] ++ List.replicate 1089 (.int .i64 (.lit 0)))
 (.alloc
 (.chk (.cmp .geq (.var 1) (.lit 0))
 (.alloc
 (.loop 0 [.ptr, (.int .i64)] [(.loc 3 0), (.int .i64 (.var 1))] [⟨[(.sl 6 (.lit 0) (.var 7) (.var 8)), (.int .i64 (.var 9))], 25⟩, ⟨[(.sl 0 (.lit 0) (.var 1) (.var 2)), (.sl 3 (.lit 0) (.var 4) (.var 5))], 48⟩, ⟨[(.ptr 11 (.lit 0))], 142⟩, ⟨[(.int .i64 (.var 1))], 3⟩] [⟨[(.sl 6 (.lit 0) (.var 7) (.var 8)), (.int .i64 (.var 9))], 25⟩, ⟨[(.sl 0 (.lit 0) (.var 1) (.var 2)), (.sl 3 (.lit 0) (.var 4) (.var 5))], 48⟩, ⟨[(.ptr 11 (.lit 0))], 142⟩, ⟨[(.int .i64 (.var 13))], 3⟩]
 (.load 12 (.lit 0) [(.int .i64)] [⟨[(.sl 6 (.lit 0) (.var 7) (.var 8)), (.int .i64 (.var 9))], 25⟩, ⟨[(.sl 0 (.lit 0) (.var 1) (.var 2)), (.sl 3 (.lit 0) (.var 4) (.var 5))], 48⟩, ⟨[(.ptr 11 (.lit 0))], 142⟩, ⟨[(.int .i64 (.var 13))], 3⟩]
 (.ite (.cmp .geq (.var 14) (.lit 0))
 (.chk (.cmp .geq (.var 4) (.lit 0))
 (.alloc
 (.loop 1 [.ptr, (.int .i64)] [(.loc 4 0), (.int .i64 (.var 4))] [⟨[(.sl 6 (.lit 0) (.var 7) (.var 8)), (.int .i64 (.var 9))], 25⟩, ⟨[(.sl 0 (.lit 0) (.var 1) (.var 2)), (.sl 3 (.lit 0) (.var 4) (.var 5))], 48⟩, ⟨[(.ptr 11 (.lit 0))], 142⟩, ⟨[(.int .i64 (.var 13))], 3⟩, ⟨[(.int .i64 (.var 4))], 3⟩] [⟨[(.sl 6 (.lit 0) (.var 7) (.var 8)), (.int .i64 (.var 9))], 25⟩, ⟨[(.sl 0 (.lit 0) (.var 1) (.var 2)), (.sl 3 (.lit 0) (.var 4) (.var 5))], 48⟩, ⟨[(.ptr 11 (.lit 0))], 142⟩, ⟨[(.int .i64 (.var 13))], 3⟩, ⟨[(.int .i64 (.var 16))], 3⟩]
 (.load 15 (.lit 0) [(.int .i64)] [⟨[(.sl 6 (.lit 0) (.var 7) (.var 8)), (.int .i64 (.var 9))], 25⟩, ⟨[(.sl 0 (.lit 0) (.var 1) (.var 2)), (.sl 3 (.lit 0) (.var 4) (.var 5))], 48⟩, ⟨[(.ptr 11 (.lit 0))], 142⟩, ⟨[(.int .i64 (.var 13))], 3⟩, ⟨[(.int .i64 (.var 16))], 3⟩]
 (.ite (.cmp .geq (.var 17) (.lit 0))
 (.alloc
 (.load 12 (.lit 0) [(.int .i64)] [⟨[(.sl 6 (.lit 0) (.var 7) (.var 8)), (.int .i64 (.var 9))], 25⟩, ⟨[(.sl 0 (.lit 0) (.var 1) (.var 2)), (.sl 3 (.lit 0) (.var 4) (.var 5))], 48⟩, ⟨[(.ptr 11 (.lit 0))], 142⟩, ⟨[(.int .i64 (.var 13))], 3⟩, ⟨[(.int .i64 (.var 16))], 3⟩, ⟨[(.bool (.lit true))], 4⟩]
 (.load 15 (.lit 0) [(.int .i64)] [⟨[(.sl 6 (.lit 0) (.var 7) (.var 8)), (.int .i64 (.var 9))], 25⟩, ⟨[(.sl 0 (.lit 0) (.var 1) (.var 2)), (.sl 3 (.lit 0) (.var 4) (.var 5))], 48⟩, ⟨[(.ptr 11 (.lit 0))], 142⟩, ⟨[(.int .i64 (.var 13))], 3⟩, ⟨[(.int .i64 (.var 16))], 3⟩, ⟨[(.bool (.lit true))], 4⟩]
 (.call false 108 [(.ptr 11 (.lit 0)), (.int .i64 (.var 18)), (.int .i64 (.var 19))] .val [⟨[(.sl 6 (.lit 0) (.var 7) (.var 8)), (.int .i64 (.var 9))], 25⟩, ⟨[(.sl 0 (.lit 0) (.var 1) (.var 2)), (.sl 3 (.lit 0) (.var 4) (.var 5))], 48⟩, ⟨[(.ptr 11 (.lit 0))], 142⟩, ⟨[(.int .i64 (.var 13))], 3⟩, ⟨[(.int .i64 (.var 16))], 3⟩, ⟨[(.bool (.lit true))], 4⟩]
 (.range (.val 20) [(.agg [(.int .i64), (.int .i64), (.int .i64)])] [.bool] [(.bool (.lit true))] [⟨[(.sl 6 (.lit 0) (.var 7) (.var 8)), (.int .i64 (.var 9))], 25⟩, ⟨[(.sl 0 (.lit 0) (.var 1) (.var 2)), (.sl 3 (.lit 0) (.var 4) (.var 5))], 48⟩, ⟨[(.ptr 11 (.lit 0))], 142⟩, ⟨[(.int .i64 (.var 13))], 3⟩, ⟨[(.int .i64 (.var 16))], 3⟩, ⟨[(.bool (.lit true))], 4⟩] [⟨[(.sl 6 (.lit 0) (.var 7) (.var 8)), (.int .i64 (.var 9))], 25⟩, ⟨[(.sl 0 (.lit 0) (.var 1) (.var 2)), (.sl 3 (.lit 0) (.var 4) (.var 5))], 48⟩, ⟨[(.ptr 11 (.lit 0))], 142⟩, ⟨[(.int .i64 (.var 13))], 3⟩, ⟨[(.int .i64 (.var 16))], 3⟩, ⟨[(.bool (.var 21))], 4⟩]
 (.alloc
 (.chk (.some 11)
 (.chk (.some 11)
 (.chk (.pick (.cmp .geq (.var 22) (.lit 0)) (.pick (.cmp .lss (.var 22) (.lit 33)) (.some 11) (.lit false)) (.lit false))
 (.chk (.pick (.cmp .geq (.off (.var 22) 33 (.lit 4)) (.lit 0)) (.pick (.cmp .geq (.var 23) (.lit 0)) (.pick (.cmp .lss (.var 23) (.lit 33)) (.some 11) (.lit false)) (.lit false)) (.lit false))
 (.load 11 (.off (.var 23) 1 (.off (.var 22) 33 (.lit 4))) [(.int .i64)] [⟨[(.sl 6 (.lit 0) (.var 7) (.var 8)), (.int .i64 (.var 9))], 25⟩, ⟨[(.sl 0 (.lit 0) (.var 1) (.var 2)), (.sl 3 (.lit 0) (.var 4) (.var 5))], 48⟩, ⟨[(.ptr 11 (.lit 0))], 142⟩, ⟨[(.int .i64 (.var 13))], 3⟩, ⟨[(.int .i64 (.var 16))], 3⟩, ⟨[(.bool (.var 21))], 4⟩, ⟨[(.int .i64 (.var 22)), (.int .i64 (.var 23)), (.int .i64 (.var 24))], 161⟩]
 (.ite (.var 21)
 (.load 12 (.lit 0) [(.int .i64)] [⟨[(.sl 6 (.lit 0) (.var 7) (.var 8)), (.int .i64 (.var 9))], 25⟩, ⟨[(.sl 0 (.lit 0) (.var 1) (.var 2)), (.sl 3 (.lit 0) (.var 4) (.var 5))], 48⟩, ⟨[(.ptr 11 (.lit 0))], 142⟩, ⟨[(.int .i64 (.var 13))], 3⟩, ⟨[(.int .i64 (.var 16))], 3⟩, ⟨[(.bool (.var 21))], 4⟩, ⟨[(.int .i64 (.var 22)), (.int .i64 (.var 23)), (.int .i64 (.var 24))], 161⟩]
 (.load 15 (.lit 0) [(.int .i64)] [⟨[(.sl 6 (.lit 0) (.var 7) (.var 8)), (.int .i64 (.var 9))], 25⟩, ⟨[(.sl 0 (.lit 0) (.var 1) (.var 2)), (.sl 3 (.lit 0) (.var 4) (.var 5))], 48⟩, ⟨[(.ptr 11 (.lit 0))], 142⟩, ⟨[(.int .i64 (.var 13))], 3⟩, ⟨[(.int .i64 (.var 16))], 3⟩, ⟨[(.bool (.var 21))], 4⟩, ⟨[(.int .i64 (.var 22)), (.int .i64 (.var 23)), (.int .i64 (.var 24))], 161⟩]
 (.chk (.some 11)
 (.chk (.some 11)
 (.chk (.pick (.cmp .geq (.var 26) (.lit 0)) (.pick (.cmp .lss (.var 26) (.lit 33)) (.some 11) (.lit false)) (.lit false))
 (.chk (.pick (.cmp .geq (.off (.var 26) 33 (.lit 4)) (.lit 0)) (.pick (.cmp .geq (.var 27) (.lit 0)) (.pick (.cmp .lss (.var 27) (.lit 33)) (.some 11) (.lit false)) (.lit false)) (.lit false))
 (.store false 11 (.off (.var 27) 1 (.off (.var 26) 33 (.lit 4))) [(.int .i64 (.bin .add .i64 (.var 24) (.var 25)))] [⟨[(.sl 6 (.lit 0) (.var 7) (.var 8)), (.int .i64 (.var 9))], 25⟩, ⟨[(.sl 0 (.lit 0) (.var 1) (.var 2)), (.sl 3 (.lit 0) (.var 4) (.var 5))], 48⟩, ⟨[(.ptr 11 (.lit 0))], 142⟩, ⟨[(.int .i64 (.var 13))], 3⟩, ⟨[(.int .i64 (.var 16))], 3⟩, ⟨[(.bool (.var 21))], 4⟩, ⟨[(.int .i64 (.var 22)), (.int .i64 (.var 23)), (.int .i64 (.var 24))], 161⟩]
 (.leave 0 6 [.bool] [(.bool (.lit false))] [⟨[(.sl 6 (.lit 0) (.var 7) (.var 8)), (.int .i64 (.var 9))], 25⟩, ⟨[(.sl 0 (.lit 0) (.var 1) (.var 2)), (.sl 3 (.lit 0) (.var 4) (.var 5))], 48⟩, ⟨[(.ptr 11 (.lit 0))], 142⟩, ⟨[(.int .i64 (.var 13))], 3⟩, ⟨[(.int .i64 (.var 16))], 3⟩, ⟨[(.bool (.lit false))], 4⟩, ⟨[(.int .i64 (.var 22)), (.int .i64 (.var 23)), (.int .i64 (.var 24))], 161⟩]))))))))
 (.load 12 (.lit 0) [(.int .i64)] [⟨[(.sl 6 (.lit 0) (.var 7) (.var 8)), (.int .i64 (.var 9))], 25⟩, ⟨[(.sl 0 (.lit 0) (.var 1) (.var 2)), (.sl 3 (.lit 0) (.var 4) (.var 5))], 48⟩, ⟨[(.ptr 11 (.lit 0))], 142⟩, ⟨[(.int .i64 (.var 13))], 3⟩, ⟨[(.int .i64 (.var 16))], 3⟩, ⟨[(.bool (.var 21))], 4⟩, ⟨[(.int .i64 (.var 22)), (.int .i64 (.var 23)), (.int .i64 (.var 24))], 161⟩]
 (.load 15 (.lit 0) [(.int .i64)] [⟨[(.sl 6 (.lit 0) (.var 7) (.var 8)), (.int .i64 (.var 9))], 25⟩, ⟨[(.sl 0 (.lit 0) (.var 1) (.var 2)), (.sl 3 (.lit 0) (.var 4) (.var 5))], 48⟩, ⟨[(.ptr 11 (.lit 0))], 142⟩, ⟨[(.int .i64 (.var 13))], 3⟩, ⟨[(.int .i64 (.var 16))], 3⟩, ⟨[(.bool (.var 21))], 4⟩, ⟨[(.int .i64 (.var 22)), (.int .i64 (.var 23)), (.int .i64 (.var 24))], 161⟩]
 (.chk (.some 11)
 (.chk (.some 11)
 (.chk (.pick (.cmp .geq (.var 26) (.lit 0)) (.pick (.cmp .lss (.var 26) (.lit 33)) (.some 11) (.lit false)) (.lit false))
 (.chk (.pick (.cmp .geq (.off (.var 26) 33 (.lit 4)) (.lit 0)) (.pick (.cmp .geq (.var 27) (.lit 0)) (.pick (.cmp .lss (.var 27) (.lit 33)) (.some 11) (.lit false)) (.lit false)) (.lit false))
 (.load 11 (.off (.var 27) 1 (.off (.var 26) 33 (.lit 4))) [(.int .i64)] [⟨[(.sl 6 (.lit 0) (.var 7) (.var 8)), (.int .i64 (.var 9))], 25⟩, ⟨[(.sl 0 (.lit 0) (.var 1) (.var 2)), (.sl 3 (.lit 0) (.var 4) (.var 5))], 48⟩, ⟨[(.ptr 11 (.lit 0))], 142⟩, ⟨[(.int .i64 (.var 13))], 3⟩, ⟨[(.int .i64 (.var 16))], 3⟩, ⟨[(.bool (.var 21))], 4⟩, ⟨[(.int .i64 (.var 22)), (.int .i64 (.var 23)), (.int .i64 (.var 24))], 161⟩]
 (.ite (.cmp .lss (.bin .add .i64 (.var 24) (.var 25)) (.var 28))
 (.load 12 (.lit 0) [(.int .i64)] [⟨[(.sl 6 (.lit 0) (.var 7) (.var 8)), (.int .i64 (.var 9))], 25⟩, ⟨[(.sl 0 (.lit 0) (.var 1) (.var 2)), (.sl 3 (.lit 0) (.var 4) (.var 5))], 48⟩, ⟨[(.ptr 11 (.lit 0))], 142⟩, ⟨[(.int .i64 (.var 13))], 3⟩, ⟨[(.int .i64 (.var 16))], 3⟩, ⟨[(.bool (.var 21))], 4⟩, ⟨[(.int .i64 (.var 22)), (.int .i64 (.var 23)), (.int .i64 (.var 24))], 161⟩]
 (.load 15 (.lit 0) [(.int .i64)] [⟨[(.sl 6 (.lit 0) (.var 7) (.var 8)), (.int .i64 (.var 9))], 25⟩, ⟨[(.sl 0 (.lit 0) (.var 1) (.var 2)), (.sl 3 (.lit 0) (.var 4) (.var 5))], 48⟩, ⟨[(.ptr 11 (.lit 0))], 142⟩, ⟨[(.int .i64 (.var 13))], 3⟩, ⟨[(.int .i64 (.var 16))], 3⟩, ⟨[(.bool (.var 21))], 4⟩, ⟨[(.int .i64 (.var 22)), (.int .i64 (.var 23)), (.int .i64 (.var 24))], 161⟩]
 (.chk (.some 11)
 (.chk (.some 11)
 (.chk (.pick (.cmp .geq (.var 29) (.lit 0)) (.pick (.cmp .lss (.var 29) (.lit 33)) (.some 11) (.lit false)) (.lit false))
 (.chk (.pick (.cmp .geq (.off (.var 29) 33 (.lit 4)) (.lit 0)) (.pick (.cmp .geq (.var 30) (.lit 0)) (.pick (.cmp .lss (.var 30) (.lit 33)) (.some 11) (.lit false)) (.lit false)) (.lit false))
 (.store false 11 (.off (.var 30) 1 (.off (.var 29) 33 (.lit 4))) [(.int .i64 (.bin .add .i64 (.var 24) (.var 25)))] [⟨[(.sl 6 (.lit 0) (.var 7) (.var 8)), (.int .i64 (.var 9))], 25⟩, ⟨[(.sl 0 (.lit 0) (.var 1) (.var 2)), (.sl 3 (.lit 0) (.var 4) (.var 5))], 48⟩, ⟨[(.ptr 11 (.lit 0))], 142⟩, ⟨[(.int .i64 (.var 13))], 3⟩, ⟨[(.int .i64 (.var 16))], 3⟩, ⟨[(.bool (.var 21))], 4⟩, ⟨[(.int .i64 (.var 22)), (.int .i64 (.var 23)), (.int .i64 (.var 24))], 161⟩]
 (.leave 0 6 [.bool] [(.bool (.lit false))] [⟨[(.sl 6 (.lit 0) (.var 7) (.var 8)), (.int .i64 (.var 9))], 25⟩, ⟨[(.sl 0 (.lit 0) (.var 1) (.var 2)), (.sl 3 (.lit 0) (.var 4) (.var 5))], 48⟩, ⟨[(.ptr 11 (.lit 0))], 142⟩, ⟨[(.int .i64 (.var 13))], 3⟩, ⟨[(.int .i64 (.var 16))], 3⟩, ⟨[(.bool (.lit false))], 4⟩, ⟨[(.int .i64 (.var 22)), (.int .i64 (.var 23)), (.int .i64 (.var 24))], 161⟩]))))))))
 (.leave 0 6 [.bool] [(.bool (.var 21))] [⟨[(.sl 6 (.lit 0) (.var 7) (.var 8)), (.int .i64 (.var 9))], 25⟩, ⟨[(.sl 0 (.lit 0) (.var 1) (.var 2)), (.sl 3 (.lit 0) (.var 4) (.var 5))], 48⟩, ⟨[(.ptr 11 (.lit 0))], 142⟩, ⟨[(.int .i64 (.var 13))], 3⟩, ⟨[(.int .i64 (.var 16))], 3⟩, ⟨[(.bool (.var 21))], 4⟩, ⟨[(.int .i64 (.var 22)), (.int .i64 (.var 23)), (.int .i64 (.var 24))], 161⟩]))))))))))))))))
 (.load 15 (.lit 0) [(.int .i64)] [⟨[(.sl 6 (.lit 0) (.var 7) (.var 8)), (.int .i64 (.var 9))], 25⟩, ⟨[(.sl 0 (.lit 0) (.var 1) (.var 2)), (.sl 3 (.lit 0) (.var 4) (.var 5))], 48⟩, ⟨[(.ptr 11 (.lit 0))], 142⟩, ⟨[(.int .i64 (.var 13))], 3⟩, ⟨[(.int .i64 (.var 16))], 3⟩, ⟨[(.bool (.var 21))], 4⟩]
 (.alloc
 (.again 1 5 [.ptr, (.int .i64)] [(.loc 6 0), (.int .i64 (.var 16))] [⟨[(.sl 6 (.lit 0) (.var 7) (.var 8)), (.int .i64 (.var 9))], 25⟩, ⟨[(.sl 0 (.lit 0) (.var 1) (.var 2)), (.sl 3 (.lit 0) (.var 4) (.var 5))], 48⟩, ⟨[(.ptr 11 (.lit 0))], 142⟩, ⟨[(.int .i64 (.var 13))], 3⟩, ⟨[(.int .i64 (.var 16))], 3⟩, ⟨[(.bool (.var 21))], 4⟩, ⟨[(.int .i64 (.bin .sub .i64 (.var 23) (.lit 1)))], 3⟩]))))))))
 (.load 12 (.lit 0) [(.int .i64)] [⟨[(.sl 6 (.lit 0) (.var 7) (.var 8)), (.int .i64 (.var 9))], 25⟩, ⟨[(.sl 0 (.lit 0) (.var 1) (.var 2)), (.sl 3 (.lit 0) (.var 4) (.var 5))], 48⟩, ⟨[(.ptr 11 (.lit 0))], 142⟩, ⟨[(.int .i64 (.var 13))], 3⟩, ⟨[(.int .i64 (.var 16))], 3⟩]
 (.alloc
 (.again 0 4 [.ptr, (.int .i64)] [(.loc 5 0), (.int .i64 (.var 13))] [⟨[(.sl 6 (.lit 0) (.var 7) (.var 8)), (.int .i64 (.var 9))], 25⟩, ⟨[(.sl 0 (.lit 0) (.var 1) (.var 2)), (.sl 3 (.lit 0) (.var 4) (.var 5))], 48⟩, ⟨[(.ptr 11 (.lit 0))], 142⟩, ⟨[(.int .i64 (.var 13))], 3⟩, ⟨[(.int .i64 (.var 16))], 3⟩, ⟨[(.int .i64 (.bin .sub .i64 (.var 18) (.lit 1)))], 3⟩]))))))))
 (.ret (.tup [(.ptr 11 (.lit 0)), (.int .i64 (.lit 0))]) [⟨[(.sl 6 (.lit 0) (.var 7) (.var 8)), (.int .i64 (.var 9))], 25⟩, ⟨[(.sl 0 (.lit 0) (.var 1) (.var 2)), (.sl 3 (.lit 0) (.var 4) (.var 5))], 48⟩, ⟨[(.ptr 11 (.lit 0))], 142⟩, ⟨[(.int .i64 (.var 13))], 3⟩]))))))))))))
theorem S_edit_newTable : FnIs Tryd.prog n_edit_newTable [.sl, .sl, (.agg [.sl, (.int .i64)])] T_edit_newTable := ⟨Tryd.f97, [], 4000, Tryd.func97, by kernel_rfl⟩
abbrev n_edit_check : FuncId := 107
def T_edit_check : Tree :=
 (.alloc
 (.call false 80 [(.agg [(.sl 0 (.lit 0) (.var 1) (.var 2)), (.int .i64 (.var 3))])] (.int .i64) [⟨[(.sl 0 (.lit 0) (.var 1) (.var 2)), (.int .i64 (.var 3))], 25⟩]
 (.ite (.cmp .neq (.var 7) (.lit 0))
 (.ret (.int .i64 (.var 7)) [⟨[(.sl 0 (.lit 0) (.var 1) (.var 2)), (.int .i64 (.var 3))], 25⟩])
 (.chk (.cmp .geq (.var 5) (.lit 0))
 (.loop 0 [(.int .i64), (.int .i64)] [(.int .i64 (.lit 0)), (.int .i64 (.lit 0))] [⟨[(.sl 0 (.lit 0) (.var 1) (.var 2)), (.int .i64 (.var 3))], 25⟩] [⟨[(.sl 0 (.lit 0) (.var 1) (.var 2)), (.int .i64 (.var 3))], 25⟩]
 (.ite (.cmp .lss (.var 9) (.var 5))
 (.chk (.pick (.cmp .geq (.var 9) (.lit 0)) (.pick (.cmp .lss (.var 9) (.var 5)) (.some 4) (.lit false)) (.lit false))
 (.load 4 (.off (.var 9) 1 (.lit 0)) [.sl] [⟨[(.sl 0 (.lit 0) (.var 1) (.var 2)), (.int .i64 (.var 3))], 25⟩]
 (.call false 103 [(.sl 10 (.lit 0) (.var 11) (.var 12))] (.int .i64) [⟨[(.sl 0 (.lit 0) (.var 1) (.var 2)), (.int .i64 (.var 3))], 25⟩]
 (.ite (.cmp .neq (.var 13) (.lit 0))
 (.ret (.int .i64 (.var 13)) [⟨[(.sl 0 (.lit 0) (.var 1) (.var 2)), (.int .i64 (.var 3))], 25⟩])
 (.again 0 1 [(.int .i64), (.int .i64)] [(.int .i64 (.var 8)), (.int .i64 (.bin .add .i64 (.var 9) (.lit 1)))] [⟨[(.sl 0 (.lit 0) (.var 1) (.var 2)), (.int .i64 (.var 3))], 25⟩])))))
 (.ret (.int .i64 (.lit 0)) [⟨[(.sl 0 (.lit 0) (.var 1) (.var 2)), (.int .i64 (.var 3))], 25⟩])))))))
theorem S_edit_check : FnIs Tryd.prog n_edit_check [(.agg [.sl, (.int .i64)]), .sl] T_edit_check := ⟨Tryd.f107, [], 4000, Tryd.func107, by kernel_rfl⟩
abbrev n___edit_table__steps : FuncId := 108
def T___edit_table__steps : Tree :=
 (.alloc
 (.alloc
 (.alloc
 (.ret (.fn (.func 112) [] [(.loc 1 0), (.loc 0 0), (.loc 2 0)]) [⟨[(.ptr 0 (.lit 0))], 142⟩, ⟨[(.int .i64 (.var 1))], 3⟩, ⟨[(.int .i64 (.var 2))], 3⟩]))))
theorem S___edit_table__steps : FnIs Tryd.prog n___edit_table__steps [.ptr, (.int .i64), (.int .i64)] T___edit_table__steps := ⟨Tryd.f108, [], 4000, Tryd.func108, by kernel_rfl⟩
abbrev n___edit_table__steps_1 : FuncId := 112
def T___edit_table__steps_1 : Tree :=
 (.join 0 [.bool] []
 (.load 1 (.lit 0) [(.int .i64)] []
 (.load 2 (.lit 0) [.ptr] []
 (.chk (.some 5)
 (.chk (.some 5)
 (.load 5 (.lit 0) [.sl] []
 (.chk (.cmp .geq (.var 7) (.lit 0))
 (.ite (.cmp .lss (.var 4) (.var 7))
 (.load 3 (.lit 0) [(.int .i64)] []
 (.load 2 (.lit 0) [.ptr] []
 (.chk (.some 10)
 (.chk (.some 10)
 (.load 10 (.lit 1) [.sl] []
 (.chk (.cmp .geq (.var 12) (.lit 0))
 (.again 0 0 [.bool] [(.bool (.cmp .lss (.var 9) (.var 12)))] [])))))))
 (.again 0 0 [.bool] [(.bool (.lit false))] []))))))))
 (.join 0 [] []
 (.ite (.var 4)
 (.load 2 (.lit 0) [.ptr] []
 (.chk (.some 5)
 (.chk (.some 5)
 (.load 5 (.lit 0) [.sl] []
 (.load 1 (.lit 0) [(.int .i64)] []
 (.chk (.pick (.cmp .geq (.var 9) (.lit 0)) (.pick (.cmp .lss (.var 9) (.var 7)) (.some 6) (.lit false)) (.lit false))
 (.load 6 (.off (.var 9) 2 (.lit 0)) [(.int .u32), (.int .u32)] []
 (.load 2 (.lit 0) [.ptr] []
 (.chk (.some 12)
 (.chk (.some 12)
 (.load 12 (.lit 1) [.sl] []
 (.load 3 (.lit 0) [(.int .i64)] []
 (.chk (.pick (.cmp .geq (.var 16) (.lit 0)) (.pick (.cmp .lss (.var 16) (.var 14)) (.some 13) (.lit false)) (.lit false))
 (.load 13 (.off (.var 16) 2 (.lit 0)) [(.int .u32), (.int .u32)] []
 (.load 2 (.lit 0) [.ptr] []
 (.chk (.some 19)
 (.chk (.some 19)
 (.load 19 (.lit 2) [.sl, (.int .i64)] []
 (.call false 113 [(.agg [(.int .u32 (.var 10)), (.int .u32 (.var 11))]), (.agg [(.int .u32 (.var 17)), (.int .u32 (.var 18))]), (.agg [(.sl 20 (.lit 0) (.var 21) (.var 22)), (.int .i64 (.var 23))])] (.tup [(.int .i64), (.int .i64)]) []
 (.load 1 (.lit 0) [(.int .i64)] []
 (.load 3 (.lit 0) [(.int .i64)] []
 (.callv false (.val 0) [(.agg [(.int .i64 (.bin .add .i64 (.var 26) (.lit 1))), (.int .i64 (.bin .add .i64 (.var 27) (.lit 1))), (.int .i64 (.var 24))])] .bool []
 (.ite (.not (.var 28))
 (.ret (.tup []) [])
 (.again 0 0 [] [] []))))))))))))))))))))))))
 (.again 0 0 [] [] []))
 (.join 0 [.bool] []
 (.load 1 (.lit 0) [(.int .i64)] []
 (.load 2 (.lit 0) [.ptr] []
 (.chk (.some 6)
 (.chk (.some 6)
 (.load 6 (.lit 0) [.sl] []
 (.chk (.cmp .geq (.var 8) (.lit 0))
 (.ite (.cmp .lss (.var 5) (.var 8))
 (.load 1 (.lit 0) [(.int .i64)] []
 (.load 3 (.lit 0) [(.int .i64)] []
 (.load 2 (.lit 0) [.ptr] []
 (.chk (.some 12)
 (.chk (.some 12)
 (.chk (.some 12)
 (.load 12 (.lit 3) [(.int .i64)] []
 (.callv false (.val 0) [(.agg [(.int .i64 (.bin .add .i64 (.var 10) (.lit 1))), (.int .i64 (.var 11)), (.int .i64 (.var 13))])] .bool []
 (.again 0 0 [.bool] [(.bool (.not (.var 14)))] [])))))))))
 (.again 0 0 [.bool] [(.bool (.lit false))] []))))))))
 (.ite (.var 5)
 (.ret (.tup []) [])
 (.load 3 (.lit 0) [(.int .i64)] []
 (.load 2 (.lit 0) [.ptr] []
 (.chk (.some 7)
 (.chk (.some 7)
 (.load 7 (.lit 1) [.sl] []
 (.chk (.cmp .geq (.var 9) (.lit 0))
 (.join 0 [] []
 (.ite (.cmp .lss (.var 6) (.var 9))
 (.load 1 (.lit 0) [(.int .i64)] []
 (.load 3 (.lit 0) [(.int .i64)] []
 (.load 2 (.lit 0) [.ptr] []
 (.chk (.some 13)
 (.chk (.some 13)
 (.chk (.some 13)
 (.load 13 (.lit 3) [(.int .i64)] []
 (.callv false (.val 0) [(.agg [(.int .i64 (.var 11)), (.int .i64 (.bin .add .i64 (.var 12) (.lit 1))), (.int .i64 (.var 14))])] .bool []
 (.again 0 0 [] [] [])))))))))
 (.again 0 0 [] [] []))
 (.ret (.tup []) []))))))))))))
theorem S___edit_table__steps_1 : FnIs Tryd.prog n___edit_table__steps_1 [.val, .ptr, .ptr, .ptr] T___edit_table__steps_1 := ⟨Tryd.f112, [{ key := 200000, tmps := [(22, .bool)], join := true, dead := 9901083573168874263003791312 }, { key := 1, tmps := [], join := true }, { key := 200003, tmps := [(74, .bool)], join := true }, { key := 5, tmps := [], join := true }], 4000, Tryd.func112, by kernel_rfl⟩
end Go.Proofs.YthabfpagilbplaaDoor
