/- The trees of this seat's functions, printed by a program of mine (SyGen), checked here by the kernel. -/
import Derived.Test.YthabfpagilbplaaDoorSyDef
import Derived.Test.YthabfpagilbplaaDoorProg
import Derived.KernelRfl
set_option maxRecDepth 100000
namespace Go.Proofs.YthabfpagilbplaaDoor
open Go Go.Sy
abbrev n_cognates_Labels : FuncId := 17
def T_cognates_Labels : Tree :=
 (.alloc
 (.alloc
 (.call false 50 [(.sl 0 (.lit 0) (.var 1) (.var 2)), (.agg [(.sl 3 (.lit 0) (.var 4) (.var 5)), (.int .i64 (.var 6))]), (.agg [(.int .i64 (.var 7)), (.int .i64 (.var 8))])] (.int .i64) [⟨[(.sl 3 (.lit 0) (.var 4) (.var 5)), (.int .i64 (.var 6))], 25⟩, ⟨[(.int .i64 (.var 7)), (.int .i64 (.var 8))], 27⟩]
 (.ite (.cmp .neq (.var 9) (.lit 0))
 (.ret (.tup [(.cst (.slice none 0 0)), (.int .i64 (.var 9))]) [⟨[(.sl 3 (.lit 0) (.var 4) (.var 5)), (.int .i64 (.var 6))], 25⟩, ⟨[(.int .i64 (.var 7)), (.int .i64 (.var 8))], 27⟩])
 (.call false 51 [(.sl 0 (.lit 0) (.var 1) (.var 2)), (.agg [(.sl 3 (.lit 0) (.var 4) (.var 5)), (.int .i64 (.var 6))])] (.tup [.ptr, (.int .i64)]) [⟨[(.sl 3 (.lit 0) (.var 4) (.var 5)), (.int .i64 (.var 6))], 25⟩, ⟨[(.int .i64 (.var 7)), (.int .i64 (.var 8))], 27⟩]
 (.alloc
 (.ite (.cmp .neq (.var 11) (.lit 0))
 (.ret (.tup [(.cst (.slice none 0 0)), (.int .i64 (.var 11))]) [⟨[(.sl 3 (.lit 0) (.var 4) (.var 5)), (.int .i64 (.var 6))], 25⟩, ⟨[(.int .i64 (.var 7)), (.int .i64 (.var 8))], 27⟩, ⟨[(.ptr 10 (.lit 0))], 88⟩])
 (.alloc
 (.chk (.some 10)
 (.chk (.some 10)
 (.load 10 (.lit 0) [.sl] [⟨[(.sl 3 (.lit 0) (.var 4) (.var 5)), (.int .i64 (.var 6))], 25⟩, ⟨[(.int .i64 (.var 7)), (.int .i64 (.var 8))], 27⟩, ⟨[(.ptr 10 (.lit 0))], 88⟩, ⟨[(.fn (.func 52) [] [(.loc 2 0), (.loc 1 0)])], 93⟩]
 (.call false 39 [(.sl 12 (.lit 0) (.var 13) (.var 14))] .sl [⟨[(.sl 3 (.lit 0) (.var 4) (.var 5)), (.int .i64 (.var 6))], 25⟩, ⟨[(.int .i64 (.var 7)), (.int .i64 (.var 8))], 27⟩, ⟨[(.ptr 10 (.lit 0))], 88⟩, ⟨[(.fn (.func 52) [] [(.loc 2 0), (.loc 1 0)])], 93⟩]
 (.alloc
 (.call false 55 [(.ptr 10 (.lit 0))] .val [⟨[(.sl 3 (.lit 0) (.var 4) (.var 5)), (.int .i64 (.var 6))], 25⟩, ⟨[(.int .i64 (.var 7)), (.int .i64 (.var 8))], 27⟩, ⟨[(.ptr 10 (.lit 0))], 88⟩, ⟨[(.fn (.func 52) [] [(.loc 2 0), (.loc 1 0)])], 93⟩, ⟨[(.sl 15 (.lit 0) (.var 16) (.var 17))], 30⟩]
 (.range (.val 18) [(.int .i64), (.int .i64)] [] [] [⟨[(.sl 3 (.lit 0) (.var 4) (.var 5)), (.int .i64 (.var 6))], 25⟩, ⟨[(.int .i64 (.var 7)), (.int .i64 (.var 8))], 27⟩, ⟨[(.ptr 10 (.lit 0))], 88⟩, ⟨[(.fn (.func 52) [] [(.loc 2 0), (.loc 1 0)])], 93⟩, ⟨[(.sl 15 (.lit 0) (.var 16) (.var 17))], 30⟩] [⟨[(.sl 3 (.lit 0) (.var 4) (.var 5)), (.int .i64 (.var 6))], 25⟩, ⟨[(.int .i64 (.var 7)), (.int .i64 (.var 8))], 27⟩, ⟨[(.ptr 10 (.lit 0))], 88⟩, ⟨[(.fn (.func 52) [] [(.loc 2 0), (.loc 1 0)])], 93⟩, ⟨[(.sl 15 (.lit 0) (.var 16) (.var 17))], 30⟩]
 (.chk (.pick (.cmp .geq (.var 19) (.lit 0)) (.pick (.cmp .lss (.var 19) (.var 16)) (.some 15) (.lit false)) (.lit false))
 (.load 15 (.off (.var 19) 1 (.lit 0)) [(.int .i64)] [⟨[(.sl 3 (.lit 0) (.var 4) (.var 5)), (.int .i64 (.var 6))], 25⟩, ⟨[(.int .i64 (.var 7)), (.int .i64 (.var 8))], 27⟩, ⟨[(.ptr 10 (.lit 0))], 88⟩, ⟨[(.fn (.func 52) [] [(.loc 2 0), (.loc 1 0)])], 93⟩, ⟨[(.sl 15 (.lit 0) (.var 16) (.var 17))], 30⟩]
 (.chk (.pick (.cmp .geq (.var 20) (.lit 0)) (.pick (.cmp .lss (.var 20) (.var 16)) (.some 15) (.lit false)) (.lit false))
 (.load 15 (.off (.var 20) 1 (.lit 0)) [(.int .i64)] [⟨[(.sl 3 (.lit 0) (.var 4) (.var 5)), (.int .i64 (.var 6))], 25⟩, ⟨[(.int .i64 (.var 7)), (.int .i64 (.var 8))], 27⟩, ⟨[(.ptr 10 (.lit 0))], 88⟩, ⟨[(.fn (.func 52) [] [(.loc 2 0), (.loc 1 0)])], 93⟩, ⟨[(.sl 15 (.lit 0) (.var 16) (.var 17))], 30⟩]
 (.ite (.cmp .neq (.var 21) (.var 22))
 (.call false 52 [(.int .i64 (.var 19)), (.int .i64 (.var 20)), (.loc 2 0), (.loc 1 0)] .bool [⟨[(.sl 3 (.lit 0) (.var 4) (.var 5)), (.int .i64 (.var 6))], 25⟩, ⟨[(.int .i64 (.var 7)), (.int .i64 (.var 8))], 27⟩, ⟨[(.ptr 10 (.lit 0))], 88⟩, ⟨[(.fn (.func 52) [] [(.loc 2 0), (.loc 1 0)])], 93⟩, ⟨[(.sl 15 (.lit 0) (.var 16) (.var 17))], 30⟩]
 (.ite (.var 23)
 (.chk (.cmp .geq (.var 16) (.lit 0))
 (.loop 0 [(.int .i64)] [(.int .i64 (.lit 0))] [⟨[(.sl 3 (.lit 0) (.var 4) (.var 5)), (.int .i64 (.var 6))], 25⟩, ⟨[(.int .i64 (.var 7)), (.int .i64 (.var 8))], 27⟩, ⟨[(.ptr 10 (.lit 0))], 88⟩, ⟨[(.fn (.func 52) [] [(.loc 2 0), (.loc 1 0)])], 93⟩, ⟨[(.sl 15 (.lit 0) (.var 16) (.var 17))], 30⟩] [⟨[(.sl 3 (.lit 0) (.var 4) (.var 5)), (.int .i64 (.var 6))], 25⟩, ⟨[(.int .i64 (.var 7)), (.int .i64 (.var 8))], 27⟩, ⟨[(.ptr 10 (.lit 0))], 88⟩, ⟨[(.fn (.func 52) [] [(.loc 2 0), (.loc 1 0)])], 93⟩, ⟨[(.sl 15 (.lit 0) (.var 16) (.var 17))], 30⟩]
 (.ite (.cmp .lss (.var 24) (.var 16))
 (.chk (.pick (.cmp .geq (.var 24) (.lit 0)) (.pick (.cmp .lss (.var 24) (.var 16)) (.some 15) (.lit false)) (.lit false))
 (.load 15 (.off (.var 24) 1 (.lit 0)) [(.int .i64)] [⟨[(.sl 3 (.lit 0) (.var 4) (.var 5)), (.int .i64 (.var 6))], 25⟩, ⟨[(.int .i64 (.var 7)), (.int .i64 (.var 8))], 27⟩, ⟨[(.ptr 10 (.lit 0))], 88⟩, ⟨[(.fn (.func 52) [] [(.loc 2 0), (.loc 1 0)])], 93⟩, ⟨[(.sl 15 (.lit 0) (.var 16) (.var 17))], 30⟩]
 (.ite (.pick (.cmp .eql (.var 25) (.var 21)) (.lit true) (.cmp .eql (.var 25) (.var 22)))
 (.chk (.pick (.cmp .geq (.var 24) (.lit 0)) (.pick (.cmp .lss (.var 24) (.var 16)) (.some 15) (.lit false)) (.lit false))
 (.store false 15 (.off (.var 24) 1 (.lit 0)) [(.int .i64 (.mn (.var 21) (.var 22)))] [⟨[(.sl 3 (.lit 0) (.var 4) (.var 5)), (.int .i64 (.var 6))], 25⟩, ⟨[(.int .i64 (.var 7)), (.int .i64 (.var 8))], 27⟩, ⟨[(.ptr 10 (.lit 0))], 88⟩, ⟨[(.fn (.func 52) [] [(.loc 2 0), (.loc 1 0)])], 93⟩, ⟨[(.sl 15 (.lit 0) (.var 16) (.var 17))], 30⟩]
 (.again 0 5 [(.int .i64)] [(.int .i64 (.bin .add .i64 (.var 24) (.lit 1)))] [⟨[(.sl 3 (.lit 0) (.var 4) (.var 5)), (.int .i64 (.var 6))], 25⟩, ⟨[(.int .i64 (.var 7)), (.int .i64 (.var 8))], 27⟩, ⟨[(.ptr 10 (.lit 0))], 88⟩, ⟨[(.fn (.func 52) [] [(.loc 2 0), (.loc 1 0)])], 93⟩, ⟨[(.sl 15 (.lit 0) (.var 16) (.var 17))], 30⟩])))
 (.again 0 5 [(.int .i64)] [(.int .i64 (.bin .add .i64 (.var 24) (.lit 1)))] [⟨[(.sl 3 (.lit 0) (.var 4) (.var 5)), (.int .i64 (.var 6))], 25⟩, ⟨[(.int .i64 (.var 7)), (.int .i64 (.var 8))], 27⟩, ⟨[(.ptr 10 (.lit 0))], 88⟩, ⟨[(.fn (.func 52) [] [(.loc 2 0), (.loc 1 0)])], 93⟩, ⟨[(.sl 15 (.lit 0) (.var 16) (.var 17))], 30⟩]))))
 (.leave 0 5 [] [] [⟨[(.sl 3 (.lit 0) (.var 4) (.var 5)), (.int .i64 (.var 6))], 25⟩, ⟨[(.int .i64 (.var 7)), (.int .i64 (.var 8))], 27⟩, ⟨[(.ptr 10 (.lit 0))], 88⟩, ⟨[(.fn (.func 52) [] [(.loc 2 0), (.loc 1 0)])], 93⟩, ⟨[(.sl 15 (.lit 0) (.var 16) (.var 17))], 30⟩]))))
 (.leave 0 5 [] [] [⟨[(.sl 3 (.lit 0) (.var 4) (.var 5)), (.int .i64 (.var 6))], 25⟩, ⟨[(.int .i64 (.var 7)), (.int .i64 (.var 8))], 27⟩, ⟨[(.ptr 10 (.lit 0))], 88⟩, ⟨[(.fn (.func 52) [] [(.loc 2 0), (.loc 1 0)])], 93⟩, ⟨[(.sl 15 (.lit 0) (.var 16) (.var 17))], 30⟩])))
 (.leave 0 5 [] [] [⟨[(.sl 3 (.lit 0) (.var 4) (.var 5)), (.int .i64 (.var 6))], 25⟩, ⟨[(.int .i64 (.var 7)), (.int .i64 (.var 8))], 27⟩, ⟨[(.ptr 10 (.lit 0))], 88⟩, ⟨[(.fn (.func 52) [] [(.loc 2 0), (.loc 1 0)])], 93⟩, ⟨[(.sl 15 (.lit 0) (.var 16) (.var 17))], 30⟩]))))))
 (.ret (.tup [(.sl 15 (.lit 0) (.var 16) (.var 17)), (.int .i64 (.lit 0))]) [⟨[(.sl 3 (.lit 0) (.var 4) (.var 5)), (.int .i64 (.var 6))], 25⟩, ⟨[(.int .i64 (.var 7)), (.int .i64 (.var 8))], 27⟩, ⟨[(.ptr 10 (.lit 0))], 88⟩, ⟨[(.fn (.func 52) [] [(.loc 2 0), (.loc 1 0)])], 93⟩, ⟨[(.sl 15 (.lit 0) (.var 16) (.var 17))], 30⟩]))))))))))))))))
theorem S_cognates_Labels : FnIs Tryd.prog n_cognates_Labels [.sl, (.agg [.sl, (.int .i64)]), (.agg [(.int .i64), (.int .i64)])] T_cognates_Labels := ⟨Tryd.f17, [], 4000, Tryd.func17, by kernel_rfl⟩
abbrev n_cognates_Average : FuncId := 19
def T_cognates_Average : Tree :=
 (.alloc
 (.alloc
 (.call false 50 [(.sl 0 (.lit 0) (.var 1) (.var 2)), (.agg [(.sl 3 (.lit 0) (.var 4) (.var 5)), (.int .i64 (.var 6))]), (.agg [(.int .i64 (.var 7)), (.int .i64 (.var 8))])] (.int .i64) [⟨[(.sl 3 (.lit 0) (.var 4) (.var 5)), (.int .i64 (.var 6))], 25⟩, ⟨[(.int .i64 (.var 7)), (.int .i64 (.var 8))], 27⟩]
 (.ite (.cmp .neq (.var 9) (.lit 0))
 (.ret (.tup [(.cst (.slice none 0 0)), (.int .i64 (.var 9))]) [⟨[(.sl 3 (.lit 0) (.var 4) (.var 5)), (.int .i64 (.var 6))], 25⟩, ⟨[(.int .i64 (.var 7)), (.int .i64 (.var 8))], 27⟩])
 (.call false 51 [(.sl 0 (.lit 0) (.var 1) (.var 2)), (.agg [(.sl 3 (.lit 0) (.var 4) (.var 5)), (.int .i64 (.var 6))])] (.tup [.ptr, (.int .i64)]) [⟨[(.sl 3 (.lit 0) (.var 4) (.var 5)), (.int .i64 (.var 6))], 25⟩, ⟨[(.int .i64 (.var 7)), (.int .i64 (.var 8))], 27⟩]
 (.alloc
 (.ite (.cmp .neq (.var 11) (.lit 0))
 (.ret (.tup [(.cst (.slice none 0 0)), (.int .i64 (.var 11))]) [⟨[(.sl 3 (.lit 0) (.var 4) (.var 5)), (.int .i64 (.var 6))], 25⟩, ⟨[(.int .i64 (.var 7)), (.int .i64 (.var 8))], 27⟩, ⟨[(.ptr 10 (.lit 0))], 88⟩])
 (.loop 0 [.sl, (.int .i64)] [(.cst (.slice none 0 0)), (.int .i64 (.lit 0))] [⟨[(.sl 3 (.lit 0) (.var 4) (.var 5)), (.int .i64 (.var 6))], 25⟩, ⟨[(.int .i64 (.var 7)), (.int .i64 (.var 8))], 27⟩, ⟨[(.ptr 10 (.lit 0))], 88⟩] [⟨[(.sl 3 (.lit 0) (.var 4) (.var 5)), (.int .i64 (.var 6))], 25⟩, ⟨[(.int .i64 (.var 7)), (.int .i64 (.var 8))], 27⟩, ⟨[(.ptr 10 (.lit 0))], 88⟩]
 (.alloc
 (.alloc
 (.alloc
 (.call false 55 [(.ptr 10 (.lit 0))] .val [⟨[(.sl 3 (.lit 0) (.var 4) (.var 5)), (.int .i64 (.var 6))], 25⟩, ⟨[(.int .i64 (.var 7)), (.int .i64 (.var 8))], 27⟩, ⟨[(.ptr 10 (.lit 0))], 88⟩, ⟨[(.int .i64 (.lit (-1)))], 3⟩, ⟨[(.int .i64 (.lit (-1)))], 3⟩, ⟨[(.int .i64 (.lit 0)), (.int .i64 (.lit 0))], 27⟩]
 (.range (.val 16) [(.int .i64), (.int .i64)] [(.int .i64), (.int .i64), (.int .i64), (.int .i64)] [(.int .i64 (.lit (-1))), (.int .i64 (.lit (-1))), (.int .i64 (.lit 0)), (.int .i64 (.lit 0))] [⟨[(.sl 3 (.lit 0) (.var 4) (.var 5)), (.int .i64 (.var 6))], 25⟩, ⟨[(.int .i64 (.var 7)), (.int .i64 (.var 8))], 27⟩, ⟨[(.ptr 10 (.lit 0))], 88⟩, ⟨[(.int .i64 (.lit (-1)))], 3⟩, ⟨[(.int .i64 (.lit (-1)))], 3⟩, ⟨[(.int .i64 (.lit 0)), (.int .i64 (.lit 0))], 27⟩] [⟨[(.sl 3 (.lit 0) (.var 4) (.var 5)), (.int .i64 (.var 6))], 25⟩, ⟨[(.int .i64 (.var 7)), (.int .i64 (.var 8))], 27⟩, ⟨[(.ptr 10 (.lit 0))], 88⟩, ⟨[(.int .i64 (.var 17))], 3⟩, ⟨[(.int .i64 (.var 18))], 3⟩, ⟨[(.int .i64 (.var 19)), (.int .i64 (.var 20))], 27⟩]
 (.call false 54 [(.ptr 10 (.lit 0)), (.int .i64 (.var 21)), (.int .i64 (.var 22))] (.agg [(.int .i64), (.int .i64)]) [⟨[(.sl 3 (.lit 0) (.var 4) (.var 5)), (.int .i64 (.var 6))], 25⟩, ⟨[(.int .i64 (.var 7)), (.int .i64 (.var 8))], 27⟩, ⟨[(.ptr 10 (.lit 0))], 88⟩, ⟨[(.int .i64 (.var 17))], 3⟩, ⟨[(.int .i64 (.var 18))], 3⟩, ⟨[(.int .i64 (.var 19)), (.int .i64 (.var 20))], 27⟩]
 (.alloc
 (.ite (.cmp .lss (.var 17) (.lit 0))
 (.leave 0 6 [(.int .i64), (.int .i64), (.int .i64), (.int .i64)] [(.int .i64 (.var 21)), (.int .i64 (.var 22)), (.int .i64 (.var 23)), (.int .i64 (.var 24))] [⟨[(.sl 3 (.lit 0) (.var 4) (.var 5)), (.int .i64 (.var 6))], 25⟩, ⟨[(.int .i64 (.var 7)), (.int .i64 (.var 8))], 27⟩, ⟨[(.ptr 10 (.lit 0))], 88⟩, ⟨[(.int .i64 (.var 21))], 3⟩, ⟨[(.int .i64 (.var 22))], 3⟩, ⟨[(.int .i64 (.var 23)), (.int .i64 (.var 24))], 27⟩, ⟨[(.int .i64 (.var 23)), (.int .i64 (.var 24))], 27⟩])
 (.call false 53 [(.agg [(.int .i64 (.var 23)), (.int .i64 (.var 24))]), (.agg [(.int .i64 (.var 19)), (.int .i64 (.var 20))])] (.int .i64) [⟨[(.sl 3 (.lit 0) (.var 4) (.var 5)), (.int .i64 (.var 6))], 25⟩, ⟨[(.int .i64 (.var 7)), (.int .i64 (.var 8))], 27⟩, ⟨[(.ptr 10 (.lit 0))], 88⟩, ⟨[(.int .i64 (.var 17))], 3⟩, ⟨[(.int .i64 (.var 18))], 3⟩, ⟨[(.int .i64 (.var 19)), (.int .i64 (.var 20))], 27⟩, ⟨[(.int .i64 (.var 23)), (.int .i64 (.var 24))], 27⟩]
 (.ite (.cmp .lss (.var 25) (.lit 0))
 (.leave 0 6 [(.int .i64), (.int .i64), (.int .i64), (.int .i64)] [(.int .i64 (.var 21)), (.int .i64 (.var 22)), (.int .i64 (.var 23)), (.int .i64 (.var 24))] [⟨[(.sl 3 (.lit 0) (.var 4) (.var 5)), (.int .i64 (.var 6))], 25⟩, ⟨[(.int .i64 (.var 7)), (.int .i64 (.var 8))], 27⟩, ⟨[(.ptr 10 (.lit 0))], 88⟩, ⟨[(.int .i64 (.var 21))], 3⟩, ⟨[(.int .i64 (.var 22))], 3⟩, ⟨[(.int .i64 (.var 23)), (.int .i64 (.var 24))], 27⟩, ⟨[(.int .i64 (.var 23)), (.int .i64 (.var 24))], 27⟩])
 (.leave 0 6 [(.int .i64), (.int .i64), (.int .i64), (.int .i64)] [(.int .i64 (.var 17)), (.int .i64 (.var 18)), (.int .i64 (.var 19)), (.int .i64 (.var 20))] [⟨[(.sl 3 (.lit 0) (.var 4) (.var 5)), (.int .i64 (.var 6))], 25⟩, ⟨[(.int .i64 (.var 7)), (.int .i64 (.var 8))], 27⟩, ⟨[(.ptr 10 (.lit 0))], 88⟩, ⟨[(.int .i64 (.var 17))], 3⟩, ⟨[(.int .i64 (.var 18))], 3⟩, ⟨[(.int .i64 (.var 19)), (.int .i64 (.var 20))], 27⟩, ⟨[(.int .i64 (.var 23)), (.int .i64 (.var 24))], 27⟩]))))))
 (.ite (.cmp .lss (.var 17) (.lit 0))
 (.chk (.some 10)
 (.chk (.some 10)
 (.load 10 (.lit 0) [.sl] [⟨[(.sl 3 (.lit 0) (.var 4) (.var 5)), (.int .i64 (.var 6))], 25⟩, ⟨[(.int .i64 (.var 7)), (.int .i64 (.var 8))], 27⟩, ⟨[(.ptr 10 (.lit 0))], 88⟩, ⟨[(.int .i64 (.var 17))], 3⟩, ⟨[(.int .i64 (.var 18))], 3⟩, ⟨[(.int .i64 (.var 19)), (.int .i64 (.var 20))], 27⟩]
 (.ret (.tup [(.sl 22 (.lit 0) (.var 23) (.var 24)), (.int .i64 (.lit 0))]) [⟨[(.sl 3 (.lit 0) (.var 4) (.var 5)), (.int .i64 (.var 6))], 25⟩, ⟨[(.int .i64 (.var 7)), (.int .i64 (.var 8))], 27⟩, ⟨[(.ptr 10 (.lit 0))], 88⟩, ⟨[(.int .i64 (.var 17))], 3⟩, ⟨[(.int .i64 (.var 18))], 3⟩, ⟨[(.int .i64 (.var 19)), (.int .i64 (.var 20))], 27⟩]))))
 (.call false 53 [(.agg [(.int .i64 (.var 19)), (.int .i64 (.var 20))]), (.agg [(.int .i64 (.var 7)), (.int .i64 (.var 8))])] (.int .i64) [⟨[(.sl 3 (.lit 0) (.var 4) (.var 5)), (.int .i64 (.var 6))], 25⟩, ⟨[(.int .i64 (.var 7)), (.int .i64 (.var 8))], 27⟩, ⟨[(.ptr 10 (.lit 0))], 88⟩, ⟨[(.int .i64 (.var 17))], 3⟩, ⟨[(.int .i64 (.var 18))], 3⟩, ⟨[(.int .i64 (.var 19)), (.int .i64 (.var 20))], 27⟩]
 (.ite (.cmp .gtr (.var 22) (.lit 0))
 (.chk (.some 10)
 (.chk (.some 10)
 (.load 10 (.lit 0) [.sl] [⟨[(.sl 3 (.lit 0) (.var 4) (.var 5)), (.int .i64 (.var 6))], 25⟩, ⟨[(.int .i64 (.var 7)), (.int .i64 (.var 8))], 27⟩, ⟨[(.ptr 10 (.lit 0))], 88⟩, ⟨[(.int .i64 (.var 17))], 3⟩, ⟨[(.int .i64 (.var 18))], 3⟩, ⟨[(.int .i64 (.var 19)), (.int .i64 (.var 20))], 27⟩]
 (.ret (.tup [(.sl 23 (.lit 0) (.var 24) (.var 25)), (.int .i64 (.lit 0))]) [⟨[(.sl 3 (.lit 0) (.var 4) (.var 5)), (.int .i64 (.var 6))], 25⟩, ⟨[(.int .i64 (.var 7)), (.int .i64 (.var 8))], 27⟩, ⟨[(.ptr 10 (.lit 0))], 88⟩, ⟨[(.int .i64 (.var 17))], 3⟩, ⟨[(.int .i64 (.var 18))], 3⟩, ⟨[(.int .i64 (.var 19)), (.int .i64 (.var 20))], 27⟩]))))
 (.call false 61 [(.ptr 10 (.lit 0)), (.int .i64 (.var 17)), (.int .i64 (.var 18))] (.tup []) [⟨[(.sl 3 (.lit 0) (.var 4) (.var 5)), (.int .i64 (.var 6))], 25⟩, ⟨[(.int .i64 (.var 7)), (.int .i64 (.var 8))], 27⟩, ⟨[(.ptr 10 (.lit 0))], 88⟩, ⟨[(.int .i64 (.var 17))], 3⟩, ⟨[(.int .i64 (.var 18))], 3⟩, ⟨[(.int .i64 (.var 19)), (.int .i64 (.var 20))], 27⟩]
 (.again 0 3 [.sl, (.int .i64)] [(.sl 12 (.lit 0) (.var 13) (.var 14)), (.int .i64 (.var 15))] [⟨[(.sl 3 (.lit 0) (.var 4) (.var 5)), (.int .i64 (.var 6))], 25⟩, ⟨[(.int .i64 (.var 7)), (.int .i64 (.var 8))], 27⟩, ⟨[(.ptr 10 (.lit 0))], 88⟩, ⟨[(.int .i64 (.var 17))], 3⟩, ⟨[(.int .i64 (.var 18))], 3⟩, ⟨[(.int .i64 (.var 19)), (.int .i64 (.var 20))], 27⟩]))))))))))))))))))
theorem S_cognates_Average : FnIs Tryd.prog n_cognates_Average [.sl, (.agg [.sl, (.int .i64)]), (.agg [(.int .i64), (.int .i64)])] T_cognates_Average := ⟨Tryd.f19, [], 4000, Tryd.func19, by kernel_rfl⟩
abbrev n_cognates_Compare : FuncId := 22
def T_cognates_Compare : Tree :=
 (.alloc
 (.alloc
 (.call false 63 [(.sl 0 (.lit 0) (.var 1) (.var 2)), (.sl 3 (.lit 0) (.var 4) (.var 5))] (.int .i64) [⟨[(.int .i64 (.lit 0)), (.int .i64 (.lit 0))], 27⟩, ⟨[(.int .i64 (.lit 0)), (.int .i64 (.lit 0))], 27⟩]
 (.ite (.cmp .neq (.var 6) (.lit 0))
 (.ret (.tup [(.agg [(.int .i64 (.lit 0)), (.int .i64 (.lit 0))]), (.agg [(.int .i64 (.lit 0)), (.int .i64 (.lit 0))]), (.int .i64 (.var 6))]) [⟨[(.int .i64 (.lit 0)), (.int .i64 (.lit 0))], 27⟩, ⟨[(.int .i64 (.lit 0)), (.int .i64 (.lit 0))], 27⟩])
 (.call false 64 [(.sl 0 (.lit 0) (.var 1) (.var 2)), (.sl 3 (.lit 0) (.var 4) (.var 5))] (.agg [(.int .i64), .val, .val, .val]) [⟨[(.int .i64 (.lit 0)), (.int .i64 (.lit 0))], 27⟩, ⟨[(.int .i64 (.lit 0)), (.int .i64 (.lit 0))], 27⟩]
 (.alloc
 (.ext false ⟨(.range 109 (.tmp 0)), 0, [(.val 8)]⟩ .ptr [⟨[(.int .i64 (.lit 0)), (.int .i64 (.lit 0))], 27⟩, ⟨[(.int .i64 (.lit 0)), (.int .i64 (.lit 0))], 27⟩, ⟨[(.int .i64 (.var 7)), (.val 8), (.val 9), (.val 10)], 113⟩]
 (.loop 0 [(.int .i64)] [(.int .i64 (.lit 0))] [⟨[(.int .i64 (.lit 0)), (.int .i64 (.lit 0))], 27⟩, ⟨[(.int .i64 (.lit 0)), (.int .i64 (.lit 0))], 27⟩, ⟨[(.int .i64 (.var 7)), (.val 8), (.val 9), (.val 10)], 113⟩] [⟨[(.int .i64 (.lit 0)), (.int .i64 (.lit 0))], 27⟩, ⟨[(.int .i64 (.lit 0)), (.int .i64 (.lit 0))], 27⟩, ⟨[(.int .i64 (.var 7)), (.val 8), (.val 9), (.val 10)], 113⟩]
 (.nxt false ⟨(.next (.tmp 0) false), 0, [(.ptr 11 (.lit 0))]⟩ [(.agg [(.int .i64), (.int .i64)]), (.int .i64)] [⟨[(.int .i64 (.lit 0)), (.int .i64 (.lit 0))], 27⟩, ⟨[(.int .i64 (.lit 0)), (.int .i64 (.lit 0))], 27⟩, ⟨[(.int .i64 (.var 7)), (.val 8), (.val 9), (.val 10)], 113⟩]
 (.ext false ⟨(.entry (.tmp 0)), 0, [(.ptr 11 (.lit 0))]⟩ (.tup [(.agg [(.int .i64), (.int .i64)]), (.int .i64)]) [⟨[(.int .i64 (.lit 0)), (.int .i64 (.lit 0))], 27⟩, ⟨[(.int .i64 (.lit 0)), (.int .i64 (.lit 0))], 27⟩, ⟨[(.int .i64 (.var 7)), (.val 8), (.val 9), (.val 10)], 113⟩]
 (.call false 65 [(.int .i64 (.var 18))] (.int .i64) [⟨[(.int .i64 (.lit 0)), (.int .i64 (.lit 0))], 27⟩, ⟨[(.int .i64 (.lit 0)), (.int .i64 (.lit 0))], 27⟩, ⟨[(.int .i64 (.var 7)), (.val 8), (.val 9), (.val 10)], 113⟩]
 (.again 0 3 [(.int .i64)] [(.int .i64 (.bin .add .i64 (.var 12) (.var 19)))] [⟨[(.int .i64 (.lit 0)), (.int .i64 (.lit 0))], 27⟩, ⟨[(.int .i64 (.lit 0)), (.int .i64 (.lit 0))], 27⟩, ⟨[(.int .i64 (.var 7)), (.val 8), (.val 9), (.val 10)], 113⟩])))
 (.alloc
 (.loop 0 [(.int .i64), (.int .i64), (.int .i64), (.int .i64), (.int .i64)] [(.int .i64 (.lit 0)), (.int .i64 (.lit 0)), (.int .i64 (.lit 0)), (.int .i64 (.lit 0)), (.int .i64 (.lit 0))] [⟨[(.int .i64 (.lit 0)), (.int .i64 (.lit 0))], 27⟩, ⟨[(.int .i64 (.lit 0)), (.int .i64 (.lit 0))], 27⟩, ⟨[(.int .i64 (.var 7)), (.val 8), (.val 9), (.val 10)], 113⟩, ⟨[(.int .i64 (.lit 0)), (.int .i64 (.lit 0)), (.int .i64 (.lit 0)), (.int .i64 (.lit 0))], 117⟩] [⟨[(.int .i64 (.lit 0)), (.int .i64 (.lit 0))], 27⟩, ⟨[(.int .i64 (.lit 0)), (.int .i64 (.lit 0))], 27⟩, ⟨[(.int .i64 (.var 7)), (.val 8), (.val 9), (.val 10)], 113⟩, ⟨[(.int .i64 (.var 14)), (.int .i64 (.var 15)), (.int .i64 (.var 16)), (.int .i64 (.var 17))], 117⟩]
 (.ite (.cmp .lss (.var 13) (.lit 2))
 (.chk (.cmp .leq (.lit 0) (.var 13))
 (.chk (.cmp .lss (.var 13) (.lit 2))
 (.ite (.cmp .eql (.var 13) (.lit 0))
 (.ext false ⟨(.range 110 (.tmp 0)), 0, [(.val 9)]⟩ .ptr [⟨[(.int .i64 (.lit 0)), (.int .i64 (.lit 0))], 27⟩, ⟨[(.int .i64 (.lit 0)), (.int .i64 (.lit 0))], 27⟩, ⟨[(.int .i64 (.var 7)), (.val 8), (.val 9), (.val 10)], 113⟩, ⟨[(.int .i64 (.var 14)), (.int .i64 (.var 15)), (.int .i64 (.var 16)), (.int .i64 (.var 17))], 117⟩]
 (.loop 1 [(.int .i64)] [(.int .i64 (.lit 0))] [⟨[(.int .i64 (.lit 0)), (.int .i64 (.lit 0))], 27⟩, ⟨[(.int .i64 (.lit 0)), (.int .i64 (.lit 0))], 27⟩, ⟨[(.int .i64 (.var 7)), (.val 8), (.val 9), (.val 10)], 113⟩, ⟨[(.int .i64 (.var 14)), (.int .i64 (.var 15)), (.int .i64 (.var 16)), (.int .i64 (.var 17))], 117⟩] [⟨[(.int .i64 (.lit 0)), (.int .i64 (.lit 0))], 27⟩, ⟨[(.int .i64 (.lit 0)), (.int .i64 (.lit 0))], 27⟩, ⟨[(.int .i64 (.var 7)), (.val 8), (.val 9), (.val 10)], 113⟩, ⟨[(.int .i64 (.var 14)), (.int .i64 (.var 15)), (.int .i64 (.var 16)), (.int .i64 (.var 17))], 117⟩]
 (.nxt false ⟨(.next (.tmp 0) false), 0, [(.ptr 18 (.lit 0))]⟩ [(.int .i64), (.int .i64)] [⟨[(.int .i64 (.lit 0)), (.int .i64 (.lit 0))], 27⟩, ⟨[(.int .i64 (.lit 0)), (.int .i64 (.lit 0))], 27⟩, ⟨[(.int .i64 (.var 7)), (.val 8), (.val 9), (.val 10)], 113⟩, ⟨[(.int .i64 (.var 14)), (.int .i64 (.var 15)), (.int .i64 (.var 16)), (.int .i64 (.var 17))], 117⟩]
 (.ext false ⟨(.entry (.tmp 0)), 0, [(.ptr 18 (.lit 0))]⟩ (.tup [(.int .i64), (.int .i64)]) [⟨[(.int .i64 (.lit 0)), (.int .i64 (.lit 0))], 27⟩, ⟨[(.int .i64 (.lit 0)), (.int .i64 (.lit 0))], 27⟩, ⟨[(.int .i64 (.var 7)), (.val 8), (.val 9), (.val 10)], 113⟩, ⟨[(.int .i64 (.var 14)), (.int .i64 (.var 15)), (.int .i64 (.var 16)), (.int .i64 (.var 17))], 117⟩]
 (.call false 65 [(.int .i64 (.var 23))] (.int .i64) [⟨[(.int .i64 (.lit 0)), (.int .i64 (.lit 0))], 27⟩, ⟨[(.int .i64 (.lit 0)), (.int .i64 (.lit 0))], 27⟩, ⟨[(.int .i64 (.var 7)), (.val 8), (.val 9), (.val 10)], 113⟩, ⟨[(.int .i64 (.var 14)), (.int .i64 (.var 15)), (.int .i64 (.var 16)), (.int .i64 (.var 17))], 117⟩]
 (.again 1 4 [(.int .i64)] [(.int .i64 (.bin .add .i64 (.var 19) (.var 24)))] [⟨[(.int .i64 (.lit 0)), (.int .i64 (.lit 0))], 27⟩, ⟨[(.int .i64 (.lit 0)), (.int .i64 (.lit 0))], 27⟩, ⟨[(.int .i64 (.var 7)), (.val 8), (.val 9), (.val 10)], 113⟩, ⟨[(.int .i64 (.var 14)), (.int .i64 (.var 15)), (.int .i64 (.var 16)), (.int .i64 (.var 17))], 117⟩])))
 (.chk (.cmp .leq (.lit 0) (.var 13))
 (.chk (.cmp .lss (.var 13) (.lit 2))
 (.ite (.cmp .eql (.var 13) (.lit 0))
 (.ite (.cmp .gtr (.var 19) (.lit 0))
 (.call false 66 [(.int .i64 (.var 12)), (.int .i64 (.var 19))] (.agg [(.int .i64), (.int .i64)]) [⟨[(.int .i64 (.lit 0)), (.int .i64 (.lit 0))], 27⟩, ⟨[(.int .i64 (.lit 0)), (.int .i64 (.lit 0))], 27⟩, ⟨[(.int .i64 (.var 7)), (.val 8), (.val 9), (.val 10)], 113⟩, ⟨[(.int .i64 (.lit 1)), (.int .i64 (.lit 1)), (.int .i64 (.var 16)), (.int .i64 (.var 17))], 117⟩]
 (.chk (.cmp .leq (.lit 0) (.var 13))
 (.chk (.cmp .lss (.var 13) (.lit 2))
 (.ite (.cmp .eql (.var 13) (.lit 0))
 (.again 0 4 [(.int .i64), (.int .i64), (.int .i64), (.int .i64), (.int .i64)] [(.int .i64 (.bin .add .i64 (.var 13) (.lit 1))), (.int .i64 (.var 20)), (.int .i64 (.var 21)), (.int .i64 (.var 16)), (.int .i64 (.var 17))] [⟨[(.int .i64 (.lit 0)), (.int .i64 (.lit 0))], 27⟩, ⟨[(.int .i64 (.lit 0)), (.int .i64 (.lit 0))], 27⟩, ⟨[(.int .i64 (.var 7)), (.val 8), (.val 9), (.val 10)], 113⟩, ⟨[(.int .i64 (.var 20)), (.int .i64 (.var 21)), (.int .i64 (.var 16)), (.int .i64 (.var 17))], 117⟩])
 (.ite (.cmp .eql (.var 13) (.lit 1))
 (.again 0 4 [(.int .i64), (.int .i64), (.int .i64), (.int .i64), (.int .i64)] [(.int .i64 (.bin .add .i64 (.var 13) (.lit 1))), (.int .i64 (.lit 1)), (.int .i64 (.lit 1)), (.int .i64 (.var 20)), (.int .i64 (.var 21))] [⟨[(.int .i64 (.lit 0)), (.int .i64 (.lit 0))], 27⟩, ⟨[(.int .i64 (.lit 0)), (.int .i64 (.lit 0))], 27⟩, ⟨[(.int .i64 (.var 7)), (.val 8), (.val 9), (.val 10)], 113⟩, ⟨[(.int .i64 (.lit 1)), (.int .i64 (.lit 1)), (.int .i64 (.var 20)), (.int .i64 (.var 21))], 117⟩])
 (.bad "cases"))))))
 (.again 0 4 [(.int .i64), (.int .i64), (.int .i64), (.int .i64), (.int .i64)] [(.int .i64 (.bin .add .i64 (.var 13) (.lit 1))), (.int .i64 (.lit 1)), (.int .i64 (.lit 1)), (.int .i64 (.var 16)), (.int .i64 (.var 17))] [⟨[(.int .i64 (.lit 0)), (.int .i64 (.lit 0))], 27⟩, ⟨[(.int .i64 (.lit 0)), (.int .i64 (.lit 0))], 27⟩, ⟨[(.int .i64 (.var 7)), (.val 8), (.val 9), (.val 10)], 113⟩, ⟨[(.int .i64 (.lit 1)), (.int .i64 (.lit 1)), (.int .i64 (.var 16)), (.int .i64 (.var 17))], 117⟩]))
 (.ite (.cmp .eql (.var 13) (.lit 1))
 (.ite (.cmp .gtr (.var 19) (.lit 0))
 (.call false 66 [(.int .i64 (.var 12)), (.int .i64 (.var 19))] (.agg [(.int .i64), (.int .i64)]) [⟨[(.int .i64 (.lit 0)), (.int .i64 (.lit 0))], 27⟩, ⟨[(.int .i64 (.lit 0)), (.int .i64 (.lit 0))], 27⟩, ⟨[(.int .i64 (.var 7)), (.val 8), (.val 9), (.val 10)], 113⟩, ⟨[(.int .i64 (.var 14)), (.int .i64 (.var 15)), (.int .i64 (.lit 1)), (.int .i64 (.lit 1))], 117⟩]
 (.chk (.cmp .leq (.lit 0) (.var 13))
 (.chk (.cmp .lss (.var 13) (.lit 2))
 (.ite (.cmp .eql (.var 13) (.lit 0))
 (.again 0 4 [(.int .i64), (.int .i64), (.int .i64), (.int .i64), (.int .i64)] [(.int .i64 (.bin .add .i64 (.var 13) (.lit 1))), (.int .i64 (.var 20)), (.int .i64 (.var 21)), (.int .i64 (.lit 1)), (.int .i64 (.lit 1))] [⟨[(.int .i64 (.lit 0)), (.int .i64 (.lit 0))], 27⟩, ⟨[(.int .i64 (.lit 0)), (.int .i64 (.lit 0))], 27⟩, ⟨[(.int .i64 (.var 7)), (.val 8), (.val 9), (.val 10)], 113⟩, ⟨[(.int .i64 (.var 20)), (.int .i64 (.var 21)), (.int .i64 (.lit 1)), (.int .i64 (.lit 1))], 117⟩])
 (.ite (.cmp .eql (.var 13) (.lit 1))
 (.again 0 4 [(.int .i64), (.int .i64), (.int .i64), (.int .i64), (.int .i64)] [(.int .i64 (.bin .add .i64 (.var 13) (.lit 1))), (.int .i64 (.var 14)), (.int .i64 (.var 15)), (.int .i64 (.var 20)), (.int .i64 (.var 21))] [⟨[(.int .i64 (.lit 0)), (.int .i64 (.lit 0))], 27⟩, ⟨[(.int .i64 (.lit 0)), (.int .i64 (.lit 0))], 27⟩, ⟨[(.int .i64 (.var 7)), (.val 8), (.val 9), (.val 10)], 113⟩, ⟨[(.int .i64 (.var 14)), (.int .i64 (.var 15)), (.int .i64 (.var 20)), (.int .i64 (.var 21))], 117⟩])
 (.bad "cases"))))))
 (.again 0 4 [(.int .i64), (.int .i64), (.int .i64), (.int .i64), (.int .i64)] [(.int .i64 (.bin .add .i64 (.var 13) (.lit 1))), (.int .i64 (.var 14)), (.int .i64 (.var 15)), (.int .i64 (.lit 1)), (.int .i64 (.lit 1))] [⟨[(.int .i64 (.lit 0)), (.int .i64 (.lit 0))], 27⟩, ⟨[(.int .i64 (.lit 0)), (.int .i64 (.lit 0))], 27⟩, ⟨[(.int .i64 (.var 7)), (.val 8), (.val 9), (.val 10)], 113⟩, ⟨[(.int .i64 (.var 14)), (.int .i64 (.var 15)), (.int .i64 (.lit 1)), (.int .i64 (.lit 1))], 117⟩]))
 (.bad "cases"))))))))
 (.ite (.cmp .eql (.var 13) (.lit 1))
 (.ext false ⟨(.range 110 (.tmp 0)), 0, [(.val 10)]⟩ .ptr [⟨[(.int .i64 (.lit 0)), (.int .i64 (.lit 0))], 27⟩, ⟨[(.int .i64 (.lit 0)), (.int .i64 (.lit 0))], 27⟩, ⟨[(.int .i64 (.var 7)), (.val 8), (.val 9), (.val 10)], 113⟩, ⟨[(.int .i64 (.var 14)), (.int .i64 (.var 15)), (.int .i64 (.var 16)), (.int .i64 (.var 17))], 117⟩]
 (.loop 1 [(.int .i64)] [(.int .i64 (.lit 0))] [⟨[(.int .i64 (.lit 0)), (.int .i64 (.lit 0))], 27⟩, ⟨[(.int .i64 (.lit 0)), (.int .i64 (.lit 0))], 27⟩, ⟨[(.int .i64 (.var 7)), (.val 8), (.val 9), (.val 10)], 113⟩, ⟨[(.int .i64 (.var 14)), (.int .i64 (.var 15)), (.int .i64 (.var 16)), (.int .i64 (.var 17))], 117⟩] [⟨[(.int .i64 (.lit 0)), (.int .i64 (.lit 0))], 27⟩, ⟨[(.int .i64 (.lit 0)), (.int .i64 (.lit 0))], 27⟩, ⟨[(.int .i64 (.var 7)), (.val 8), (.val 9), (.val 10)], 113⟩, ⟨[(.int .i64 (.var 14)), (.int .i64 (.var 15)), (.int .i64 (.var 16)), (.int .i64 (.var 17))], 117⟩]
 (.nxt false ⟨(.next (.tmp 0) false), 0, [(.ptr 18 (.lit 0))]⟩ [(.int .i64), (.int .i64)] [⟨[(.int .i64 (.lit 0)), (.int .i64 (.lit 0))], 27⟩, ⟨[(.int .i64 (.lit 0)), (.int .i64 (.lit 0))], 27⟩, ⟨[(.int .i64 (.var 7)), (.val 8), (.val 9), (.val 10)], 113⟩, ⟨[(.int .i64 (.var 14)), (.int .i64 (.var 15)), (.int .i64 (.var 16)), (.int .i64 (.var 17))], 117⟩]
 (.ext false ⟨(.entry (.tmp 0)), 0, [(.ptr 18 (.lit 0))]⟩ (.tup [(.int .i64), (.int .i64)]) [⟨[(.int .i64 (.lit 0)), (.int .i64 (.lit 0))], 27⟩, ⟨[(.int .i64 (.lit 0)), (.int .i64 (.lit 0))], 27⟩, ⟨[(.int .i64 (.var 7)), (.val 8), (.val 9), (.val 10)], 113⟩, ⟨[(.int .i64 (.var 14)), (.int .i64 (.var 15)), (.int .i64 (.var 16)), (.int .i64 (.var 17))], 117⟩]
 (.call false 65 [(.int .i64 (.var 23))] (.int .i64) [⟨[(.int .i64 (.lit 0)), (.int .i64 (.lit 0))], 27⟩, ⟨[(.int .i64 (.lit 0)), (.int .i64 (.lit 0))], 27⟩, ⟨[(.int .i64 (.var 7)), (.val 8), (.val 9), (.val 10)], 113⟩, ⟨[(.int .i64 (.var 14)), (.int .i64 (.var 15)), (.int .i64 (.var 16)), (.int .i64 (.var 17))], 117⟩]
 (.again 1 4 [(.int .i64)] [(.int .i64 (.bin .add .i64 (.var 19) (.var 24)))] [⟨[(.int .i64 (.lit 0)), (.int .i64 (.lit 0))], 27⟩, ⟨[(.int .i64 (.lit 0)), (.int .i64 (.lit 0))], 27⟩, ⟨[(.int .i64 (.var 7)), (.val 8), (.val 9), (.val 10)], 113⟩, ⟨[(.int .i64 (.var 14)), (.int .i64 (.var 15)), (.int .i64 (.var 16)), (.int .i64 (.var 17))], 117⟩])))
 (.chk (.cmp .leq (.lit 0) (.var 13))
 (.chk (.cmp .lss (.var 13) (.lit 2))
 (.ite (.cmp .eql (.var 13) (.lit 0))
 (.ite (.cmp .gtr (.var 19) (.lit 0))
 (.call false 66 [(.int .i64 (.var 12)), (.int .i64 (.var 19))] (.agg [(.int .i64), (.int .i64)]) [⟨[(.int .i64 (.lit 0)), (.int .i64 (.lit 0))], 27⟩, ⟨[(.int .i64 (.lit 0)), (.int .i64 (.lit 0))], 27⟩, ⟨[(.int .i64 (.var 7)), (.val 8), (.val 9), (.val 10)], 113⟩, ⟨[(.int .i64 (.lit 1)), (.int .i64 (.lit 1)), (.int .i64 (.var 16)), (.int .i64 (.var 17))], 117⟩]
 (.chk (.cmp .leq (.lit 0) (.var 13))
 (.chk (.cmp .lss (.var 13) (.lit 2))
 (.ite (.cmp .eql (.var 13) (.lit 0))
 (.again 0 4 [(.int .i64), (.int .i64), (.int .i64), (.int .i64), (.int .i64)] [(.int .i64 (.bin .add .i64 (.var 13) (.lit 1))), (.int .i64 (.var 20)), (.int .i64 (.var 21)), (.int .i64 (.var 16)), (.int .i64 (.var 17))] [⟨[(.int .i64 (.lit 0)), (.int .i64 (.lit 0))], 27⟩, ⟨[(.int .i64 (.lit 0)), (.int .i64 (.lit 0))], 27⟩, ⟨[(.int .i64 (.var 7)), (.val 8), (.val 9), (.val 10)], 113⟩, ⟨[(.int .i64 (.var 20)), (.int .i64 (.var 21)), (.int .i64 (.var 16)), (.int .i64 (.var 17))], 117⟩])
 (.ite (.cmp .eql (.var 13) (.lit 1))
 (.again 0 4 [(.int .i64), (.int .i64), (.int .i64), (.int .i64), (.int .i64)] [(.int .i64 (.bin .add .i64 (.var 13) (.lit 1))), (.int .i64 (.lit 1)), (.int .i64 (.lit 1)), (.int .i64 (.var 20)), (.int .i64 (.var 21))] [⟨[(.int .i64 (.lit 0)), (.int .i64 (.lit 0))], 27⟩, ⟨[(.int .i64 (.lit 0)), (.int .i64 (.lit 0))], 27⟩, ⟨[(.int .i64 (.var 7)), (.val 8), (.val 9), (.val 10)], 113⟩, ⟨[(.int .i64 (.lit 1)), (.int .i64 (.lit 1)), (.int .i64 (.var 20)), (.int .i64 (.var 21))], 117⟩])
 (.bad "cases"))))))
 (.again 0 4 [(.int .i64), (.int .i64), (.int .i64), (.int .i64), (.int .i64)] [(.int .i64 (.bin .add .i64 (.var 13) (.lit 1))), (.int .i64 (.lit 1)), (.int .i64 (.lit 1)), (.int .i64 (.var 16)), (.int .i64 (.var 17))] [⟨[(.int .i64 (.lit 0)), (.int .i64 (.lit 0))], 27⟩, ⟨[(.int .i64 (.lit 0)), (.int .i64 (.lit 0))], 27⟩, ⟨[(.int .i64 (.var 7)), (.val 8), (.val 9), (.val 10)], 113⟩, ⟨[(.int .i64 (.lit 1)), (.int .i64 (.lit 1)), (.int .i64 (.var 16)), (.int .i64 (.var 17))], 117⟩]))
 (.ite (.cmp .eql (.var 13) (.lit 1))
 (.ite (.cmp .gtr (.var 19) (.lit 0))
 (.call false 66 [(.int .i64 (.var 12)), (.int .i64 (.var 19))] (.agg [(.int .i64), (.int .i64)]) [⟨[(.int .i64 (.lit 0)), (.int .i64 (.lit 0))], 27⟩, ⟨[(.int .i64 (.lit 0)), (.int .i64 (.lit 0))], 27⟩, ⟨[(.int .i64 (.var 7)), (.val 8), (.val 9), (.val 10)], 113⟩, ⟨[(.int .i64 (.var 14)), (.int .i64 (.var 15)), (.int .i64 (.lit 1)), (.int .i64 (.lit 1))], 117⟩]
 (.chk (.cmp .leq (.lit 0) (.var 13))
 (.chk (.cmp .lss (.var 13) (.lit 2))
 (.ite (.cmp .eql (.var 13) (.lit 0))
 (.again 0 4 [(.int .i64), (.int .i64), (.int .i64), (.int .i64), (.int .i64)] [(.int .i64 (.bin .add .i64 (.var 13) (.lit 1))), (.int .i64 (.var 20)), (.int .i64 (.var 21)), (.int .i64 (.lit 1)), (.int .i64 (.lit 1))] [⟨[(.int .i64 (.lit 0)), (.int .i64 (.lit 0))], 27⟩, ⟨[(.int .i64 (.lit 0)), (.int .i64 (.lit 0))], 27⟩, ⟨[(.int .i64 (.var 7)), (.val 8), (.val 9), (.val 10)], 113⟩, ⟨[(.int .i64 (.var 20)), (.int .i64 (.var 21)), (.int .i64 (.lit 1)), (.int .i64 (.lit 1))], 117⟩])
 (.ite (.cmp .eql (.var 13) (.lit 1))
 (.again 0 4 [(.int .i64), (.int .i64), (.int .i64), (.int .i64), (.int .i64)] [(.int .i64 (.bin .add .i64 (.var 13) (.lit 1))), (.int .i64 (.var 14)), (.int .i64 (.var 15)), (.int .i64 (.var 20)), (.int .i64 (.var 21))] [⟨[(.int .i64 (.lit 0)), (.int .i64 (.lit 0))], 27⟩, ⟨[(.int .i64 (.lit 0)), (.int .i64 (.lit 0))], 27⟩, ⟨[(.int .i64 (.var 7)), (.val 8), (.val 9), (.val 10)], 113⟩, ⟨[(.int .i64 (.var 14)), (.int .i64 (.var 15)), (.int .i64 (.var 20)), (.int .i64 (.var 21))], 117⟩])
 (.bad "cases"))))))
 (.again 0 4 [(.int .i64), (.int .i64), (.int .i64), (.int .i64), (.int .i64)] [(.int .i64 (.bin .add .i64 (.var 13) (.lit 1))), (.int .i64 (.var 14)), (.int .i64 (.var 15)), (.int .i64 (.lit 1)), (.int .i64 (.lit 1))] [⟨[(.int .i64 (.lit 0)), (.int .i64 (.lit 0))], 27⟩, ⟨[(.int .i64 (.lit 0)), (.int .i64 (.lit 0))], 27⟩, ⟨[(.int .i64 (.var 7)), (.val 8), (.val 9), (.val 10)], 113⟩, ⟨[(.int .i64 (.var 14)), (.int .i64 (.var 15)), (.int .i64 (.lit 1)), (.int .i64 (.lit 1))], 117⟩]))
 (.bad "cases"))))))))
 (.bad "cases")))))
 (.ret (.tup [(.agg [(.int .i64 (.var 14)), (.int .i64 (.var 15))]), (.agg [(.int .i64 (.var 16)), (.int .i64 (.var 17))]), (.int .i64 (.lit 0))]) [⟨[(.int .i64 (.var 14)), (.int .i64 (.var 15))], 27⟩, ⟨[(.int .i64 (.var 16)), (.int .i64 (.var 17))], 27⟩, ⟨[(.int .i64 (.var 7)), (.val 8), (.val 9), (.val 10)], 113⟩, ⟨[(.int .i64 (.var 14)), (.int .i64 (.var 15)), (.int .i64 (.var 16)), (.int .i64 (.var 17))], 117⟩])))))))))))))
theorem S_cognates_Compare : FnIs Tryd.prog n_cognates_Compare [.sl, .sl] T_cognates_Compare := ⟨Tryd.f22, [{ key := 999998, tmps := [(31, (.tup [(.agg [(.int .i64), (.int .i64)]), (.int .i64)])), (47, (.tup [(.int .i64), (.int .i64)]))], join := false }], 4000, Tryd.func22, by kernel_rfl⟩
abbrev n_cognates_Cubed : FuncId := 24
def T_cognates_Cubed : Tree :=
 (.alloc
 (.alloc
 (.call false 63 [(.sl 0 (.lit 0) (.var 1) (.var 2)), (.sl 3 (.lit 0) (.var 4) (.var 5))] (.int .i64) [⟨[(.int .i64 (.lit 0)), (.int .i64 (.lit 0))], 27⟩, ⟨[(.int .i64 (.lit 0)), (.int .i64 (.lit 0))], 27⟩]
 (.ite (.cmp .neq (.var 6) (.lit 0))
 (.ret (.tup [(.agg [(.int .i64 (.lit 0)), (.int .i64 (.lit 0))]), (.agg [(.int .i64 (.lit 0)), (.int .i64 (.lit 0))]), (.int .i64 (.var 6))]) [⟨[(.int .i64 (.lit 0)), (.int .i64 (.lit 0))], 27⟩, ⟨[(.int .i64 (.lit 0)), (.int .i64 (.lit 0))], 27⟩])
 (.call false 64 [(.sl 0 (.lit 0) (.var 1) (.var 2)), (.sl 3 (.lit 0) (.var 4) (.var 5))] (.agg [(.int .i64), .val, .val, .val]) [⟨[(.int .i64 (.lit 0)), (.int .i64 (.lit 0))], 27⟩, ⟨[(.int .i64 (.lit 0)), (.int .i64 (.lit 0))], 27⟩]
 (.alloc
 (.alloc
 (.ite (.cmp .eql (.var 7) (.lit 0))
 (.ret (.tup [(.agg [(.int .i64 (.lit 1)), (.int .i64 (.lit 1))]), (.agg [(.int .i64 (.lit 1)), (.int .i64 (.lit 1))]), (.int .i64 (.lit 0))]) [⟨[(.int .i64 (.lit 1)), (.int .i64 (.lit 1))], 27⟩, ⟨[(.int .i64 (.lit 1)), (.int .i64 (.lit 1))], 27⟩, ⟨[(.int .i64 (.var 7)), (.val 8), (.val 9), (.val 10)], 113⟩, ⟨[(.int .i64 (.lit 1)), (.int .i64 (.lit 1))], 27⟩])
 (.alloc
 (.loop 0 [(.int .i64), (.int .i64), (.int .i64), (.int .i64), (.int .i64)] [(.int .i64 (.lit 0)), (.int .i64 (.lit 0)), (.int .i64 (.lit 0)), (.int .i64 (.lit 0)), (.int .i64 (.lit 0))] [⟨[(.int .i64 (.lit 0)), (.int .i64 (.lit 0))], 27⟩, ⟨[(.int .i64 (.lit 0)), (.int .i64 (.lit 0))], 27⟩, ⟨[(.int .i64 (.var 7)), (.val 8), (.val 9), (.val 10)], 113⟩, ⟨[(.int .i64 (.lit 1)), (.int .i64 (.lit 1))], 27⟩, ⟨[(.int .i64 (.lit 0)), (.int .i64 (.lit 0)), (.int .i64 (.lit 0)), (.int .i64 (.lit 0))], 117⟩] [⟨[(.int .i64 (.lit 0)), (.int .i64 (.lit 0))], 27⟩, ⟨[(.int .i64 (.lit 0)), (.int .i64 (.lit 0))], 27⟩, ⟨[(.int .i64 (.var 7)), (.val 8), (.val 9), (.val 10)], 113⟩, ⟨[(.int .i64 (.lit 1)), (.int .i64 (.lit 1))], 27⟩, ⟨[(.int .i64 (.var 12)), (.int .i64 (.var 13)), (.int .i64 (.var 14)), (.int .i64 (.var 15))], 117⟩]
 (.ite (.cmp .lss (.var 11) (.lit 2))
 (.chk (.cmp .leq (.lit 0) (.var 11))
 (.chk (.cmp .lss (.var 11) (.lit 2))
 (.ite (.cmp .eql (.var 11) (.lit 0))
 (.allocb 2 (some 257)
 (.ext false ⟨(.range 109 (.tmp 0)), 0, [(.val 8)]⟩ .ptr [⟨[(.int .i64 (.lit 0)), (.int .i64 (.lit 0))], 27⟩, ⟨[(.int .i64 (.lit 0)), (.int .i64 (.lit 0))], 27⟩, ⟨[(.int .i64 (.var 7)), (.val 8), (.val 9), (.val 10)], 113⟩, ⟨[(.int .i64 (.lit 1)), (.int .i64 (.lit 1))], 27⟩, ⟨[(.int .i64 (.var 12)), (.int .i64 (.var 13)), (.int .i64 (.var 14)), (.int .i64 (.var 15))], 117⟩]
 (.loop 1 [] [] [⟨[(.int .i64 (.lit 0)), (.int .i64 (.lit 0))], 27⟩, ⟨[(.int .i64 (.lit 0)), (.int .i64 (.lit 0))], 27⟩, ⟨[(.int .i64 (.var 7)), (.val 8), (.val 9), (.val 10)], 113⟩, ⟨[(.int .i64 (.lit 1)), (.int .i64 (.lit 1))], 27⟩, ⟨[(.int .i64 (.var 12)), (.int .i64 (.var 13)), (.int .i64 (.var 14)), (.int .i64 (.var 15))], 117⟩] [⟨[(.int .i64 (.lit 0)), (.int .i64 (.lit 0))], 27⟩, ⟨[(.int .i64 (.lit 0)), (.int .i64 (.lit 0))], 27⟩, ⟨[(.int .i64 (.var 7)), (.val 8), (.val 9), (.val 10)], 113⟩, ⟨[(.int .i64 (.lit 1)), (.int .i64 (.lit 1))], 27⟩, ⟨[(.int .i64 (.var 12)), (.int .i64 (.var 13)), (.int .i64 (.var 14)), (.int .i64 (.var 15))], 117⟩]
 (.nxt false ⟨(.next (.tmp 0) false), 0, [(.ptr 17 (.lit 0))]⟩ [(.agg [(.int .i64), (.int .i64)]), (.int .i64)] [⟨[(.int .i64 (.lit 0)), (.int .i64 (.lit 0))], 27⟩, ⟨[(.int .i64 (.lit 0)), (.int .i64 (.lit 0))], 27⟩, ⟨[(.int .i64 (.var 7)), (.val 8), (.val 9), (.val 10)], 113⟩, ⟨[(.int .i64 (.lit 1)), (.int .i64 (.lit 1))], 27⟩, ⟨[(.int .i64 (.var 12)), (.int .i64 (.var 13)), (.int .i64 (.var 14)), (.int .i64 (.var 15))], 117⟩]
 (.ext false ⟨(.entry (.tmp 0)), 0, [(.ptr 17 (.lit 0))]⟩ (.tup [(.agg [(.int .i64), (.int .i64)]), (.int .i64)]) [⟨[(.int .i64 (.lit 0)), (.int .i64 (.lit 0))], 27⟩, ⟨[(.int .i64 (.lit 0)), (.int .i64 (.lit 0))], 27⟩, ⟨[(.int .i64 (.var 7)), (.val 8), (.val 9), (.val 10)], 113⟩, ⟨[(.int .i64 (.lit 1)), (.int .i64 (.lit 1))], 27⟩, ⟨[(.int .i64 (.var 12)), (.int .i64 (.var 13)), (.int .i64 (.var 14)), (.int .i64 (.var 15))], 117⟩]
 (.alloc
 (.chk (.cmp .leq (.lit 0) (.var 11))
 (.chk (.cmp .lss (.var 11) (.lit 2))
 (.ite (.cmp .eql (.var 11) (.lit 0))
 (.extp ⟨(.lookup 110 (.tmp 0) (.tmp 0) false), 2, [(.val 9), (.int .i64 (.var 21))]⟩ (.int .i64) [⟨[(.int .i64 (.lit 0)), (.int .i64 (.lit 0))], 27⟩, ⟨[(.int .i64 (.lit 0)), (.int .i64 (.lit 0))], 27⟩, ⟨[(.int .i64 (.var 7)), (.val 8), (.val 9), (.val 10)], 113⟩, ⟨[(.int .i64 (.lit 1)), (.int .i64 (.lit 1))], 27⟩, ⟨[(.int .i64 (.var 12)), (.int .i64 (.var 13)), (.int .i64 (.var 14)), (.int .i64 (.var 15))], 117⟩, ⟨[(.int .i64 (.var 21)), (.int .i64 (.var 22))], 115⟩]
 (.chk (.pick (.cmp .geq (.var 24) (.lit 0)) (.pick (.cmp .lss (.var 24) (.lit 257)) (.some 16) (.lit false)) (.lit false))
 (.load 16 (.off (.var 24) 1 (.lit 0)) [(.int .i64)] [⟨[(.int .i64 (.lit 0)), (.int .i64 (.lit 0))], 27⟩, ⟨[(.int .i64 (.lit 0)), (.int .i64 (.lit 0))], 27⟩, ⟨[(.int .i64 (.var 7)), (.val 8), (.val 9), (.val 10)], 113⟩, ⟨[(.int .i64 (.lit 1)), (.int .i64 (.lit 1))], 27⟩, ⟨[(.int .i64 (.var 12)), (.int .i64 (.var 13)), (.int .i64 (.var 14)), (.int .i64 (.var 15))], 117⟩, ⟨[(.int .i64 (.var 21)), (.int .i64 (.var 22))], 115⟩]
 (.chk (.pick (.cmp .geq (.var 24) (.lit 0)) (.pick (.cmp .lss (.var 24) (.lit 257)) (.some 16) (.lit false)) (.lit false))
 (.store false 16 (.off (.var 24) 1 (.lit 0)) [(.int .i64 (.bin .add .i64 (.var 25) (.bin .mul .i64 (.var 23) (.var 23))))] [⟨[(.int .i64 (.lit 0)), (.int .i64 (.lit 0))], 27⟩, ⟨[(.int .i64 (.lit 0)), (.int .i64 (.lit 0))], 27⟩, ⟨[(.int .i64 (.var 7)), (.val 8), (.val 9), (.val 10)], 113⟩, ⟨[(.int .i64 (.lit 1)), (.int .i64 (.lit 1))], 27⟩, ⟨[(.int .i64 (.var 12)), (.int .i64 (.var 13)), (.int .i64 (.var 14)), (.int .i64 (.var 15))], 117⟩, ⟨[(.int .i64 (.var 21)), (.int .i64 (.var 22))], 115⟩]
 (.again 1 5 [] [] [⟨[(.int .i64 (.lit 0)), (.int .i64 (.lit 0))], 27⟩, ⟨[(.int .i64 (.lit 0)), (.int .i64 (.lit 0))], 27⟩, ⟨[(.int .i64 (.var 7)), (.val 8), (.val 9), (.val 10)], 113⟩, ⟨[(.int .i64 (.lit 1)), (.int .i64 (.lit 1))], 27⟩, ⟨[(.int .i64 (.var 12)), (.int .i64 (.var 13)), (.int .i64 (.var 14)), (.int .i64 (.var 15))], 117⟩, ⟨[(.int .i64 (.var 21)), (.int .i64 (.var 22))], 115⟩]))))))
 (.ite (.cmp .eql (.var 11) (.lit 1))
 (.extp ⟨(.lookup 110 (.tmp 0) (.tmp 0) false), 2, [(.val 9), (.int .i64 (.var 22))]⟩ (.int .i64) [⟨[(.int .i64 (.lit 0)), (.int .i64 (.lit 0))], 27⟩, ⟨[(.int .i64 (.lit 0)), (.int .i64 (.lit 0))], 27⟩, ⟨[(.int .i64 (.var 7)), (.val 8), (.val 9), (.val 10)], 113⟩, ⟨[(.int .i64 (.lit 1)), (.int .i64 (.lit 1))], 27⟩, ⟨[(.int .i64 (.var 12)), (.int .i64 (.var 13)), (.int .i64 (.var 14)), (.int .i64 (.var 15))], 117⟩, ⟨[(.int .i64 (.var 21)), (.int .i64 (.var 22))], 115⟩]
 (.chk (.pick (.cmp .geq (.var 24) (.lit 0)) (.pick (.cmp .lss (.var 24) (.lit 257)) (.some 16) (.lit false)) (.lit false))
 (.load 16 (.off (.var 24) 1 (.lit 0)) [(.int .i64)] [⟨[(.int .i64 (.lit 0)), (.int .i64 (.lit 0))], 27⟩, ⟨[(.int .i64 (.lit 0)), (.int .i64 (.lit 0))], 27⟩, ⟨[(.int .i64 (.var 7)), (.val 8), (.val 9), (.val 10)], 113⟩, ⟨[(.int .i64 (.lit 1)), (.int .i64 (.lit 1))], 27⟩, ⟨[(.int .i64 (.var 12)), (.int .i64 (.var 13)), (.int .i64 (.var 14)), (.int .i64 (.var 15))], 117⟩, ⟨[(.int .i64 (.var 21)), (.int .i64 (.var 22))], 115⟩]
 (.chk (.pick (.cmp .geq (.var 24) (.lit 0)) (.pick (.cmp .lss (.var 24) (.lit 257)) (.some 16) (.lit false)) (.lit false))
 (.store false 16 (.off (.var 24) 1 (.lit 0)) [(.int .i64 (.bin .add .i64 (.var 25) (.bin .mul .i64 (.var 23) (.var 23))))] [⟨[(.int .i64 (.lit 0)), (.int .i64 (.lit 0))], 27⟩, ⟨[(.int .i64 (.lit 0)), (.int .i64 (.lit 0))], 27⟩, ⟨[(.int .i64 (.var 7)), (.val 8), (.val 9), (.val 10)], 113⟩, ⟨[(.int .i64 (.lit 1)), (.int .i64 (.lit 1))], 27⟩, ⟨[(.int .i64 (.var 12)), (.int .i64 (.var 13)), (.int .i64 (.var 14)), (.int .i64 (.var 15))], 117⟩, ⟨[(.int .i64 (.var 21)), (.int .i64 (.var 22))], 115⟩]
 (.again 1 5 [] [] [⟨[(.int .i64 (.lit 0)), (.int .i64 (.lit 0))], 27⟩, ⟨[(.int .i64 (.lit 0)), (.int .i64 (.lit 0))], 27⟩, ⟨[(.int .i64 (.var 7)), (.val 8), (.val 9), (.val 10)], 113⟩, ⟨[(.int .i64 (.lit 1)), (.int .i64 (.lit 1))], 27⟩, ⟨[(.int .i64 (.var 12)), (.int .i64 (.var 13)), (.int .i64 (.var 14)), (.int .i64 (.var 15))], 117⟩, ⟨[(.int .i64 (.var 21)), (.int .i64 (.var 22))], 115⟩]))))))
 (.bad "cases")))))))
 (.alloc
 (.loop 1 [(.int .i64), (.int .i64), (.int .i64)] [(.int .i64 (.lit 0)), (.int .i64 (.lit 0)), (.int .i64 (.lit 1))] [⟨[(.int .i64 (.lit 0)), (.int .i64 (.lit 0))], 27⟩, ⟨[(.int .i64 (.lit 0)), (.int .i64 (.lit 0))], 27⟩, ⟨[(.int .i64 (.var 7)), (.val 8), (.val 9), (.val 10)], 113⟩, ⟨[(.int .i64 (.lit 1)), (.int .i64 (.lit 1))], 27⟩, ⟨[(.int .i64 (.var 12)), (.int .i64 (.var 13)), (.int .i64 (.var 14)), (.int .i64 (.var 15))], 117⟩, ⟨[(.int .i64 (.lit 0)), (.int .i64 (.lit 1))], 27⟩] [⟨[(.int .i64 (.lit 0)), (.int .i64 (.lit 0))], 27⟩, ⟨[(.int .i64 (.lit 0)), (.int .i64 (.lit 0))], 27⟩, ⟨[(.int .i64 (.var 7)), (.val 8), (.val 9), (.val 10)], 113⟩, ⟨[(.int .i64 (.lit 1)), (.int .i64 (.lit 1))], 27⟩, ⟨[(.int .i64 (.var 12)), (.int .i64 (.var 13)), (.int .i64 (.var 14)), (.int .i64 (.var 15))], 117⟩, ⟨[(.int .i64 (.var 19)), (.int .i64 (.var 20))], 27⟩]
 (.ite (.cmp .lss (.var 18) (.lit 257))
 (.chk (.pick (.cmp .geq (.var 18) (.lit 0)) (.pick (.cmp .lss (.var 18) (.lit 257)) (.some 16) (.lit false)) (.lit false))
 (.load 16 (.off (.var 18) 1 (.lit 0)) [(.int .i64)] [⟨[(.int .i64 (.lit 0)), (.int .i64 (.lit 0))], 27⟩, ⟨[(.int .i64 (.lit 0)), (.int .i64 (.lit 0))], 27⟩, ⟨[(.int .i64 (.var 7)), (.val 8), (.val 9), (.val 10)], 113⟩, ⟨[(.int .i64 (.lit 1)), (.int .i64 (.lit 1))], 27⟩, ⟨[(.int .i64 (.var 12)), (.int .i64 (.var 13)), (.int .i64 (.var 14)), (.int .i64 (.var 15))], 117⟩, ⟨[(.int .i64 (.var 19)), (.int .i64 (.var 20))], 27⟩]
 (.ite (.cmp .gtr (.var 21) (.lit 0))
 (.call false 66 [(.int .i64 (.var 21)), (.int .i64 (.var 18))] (.agg [(.int .i64), (.int .i64)]) [⟨[(.int .i64 (.lit 0)), (.int .i64 (.lit 0))], 27⟩, ⟨[(.int .i64 (.lit 0)), (.int .i64 (.lit 0))], 27⟩, ⟨[(.int .i64 (.var 7)), (.val 8), (.val 9), (.val 10)], 113⟩, ⟨[(.int .i64 (.lit 1)), (.int .i64 (.lit 1))], 27⟩, ⟨[(.int .i64 (.var 12)), (.int .i64 (.var 13)), (.int .i64 (.var 14)), (.int .i64 (.var 15))], 117⟩, ⟨[(.int .i64 (.var 19)), (.int .i64 (.var 20))], 27⟩]
 (.call false 70 [(.agg [(.int .i64 (.var 19)), (.int .i64 (.var 20))]), (.agg [(.int .i64 (.var 22)), (.int .i64 (.var 23))])] (.agg [(.int .i64), (.int .i64)]) [⟨[(.int .i64 (.lit 0)), (.int .i64 (.lit 0))], 27⟩, ⟨[(.int .i64 (.lit 0)), (.int .i64 (.lit 0))], 27⟩, ⟨[(.int .i64 (.var 7)), (.val 8), (.val 9), (.val 10)], 113⟩, ⟨[(.int .i64 (.lit 1)), (.int .i64 (.lit 1))], 27⟩, ⟨[(.int .i64 (.var 12)), (.int .i64 (.var 13)), (.int .i64 (.var 14)), (.int .i64 (.var 15))], 117⟩, ⟨[(.int .i64 (.var 19)), (.int .i64 (.var 20))], 27⟩]
 (.again 1 6 [(.int .i64), (.int .i64), (.int .i64)] [(.int .i64 (.bin .add .i64 (.var 18) (.lit 1))), (.int .i64 (.var 24)), (.int .i64 (.var 25))] [⟨[(.int .i64 (.lit 0)), (.int .i64 (.lit 0))], 27⟩, ⟨[(.int .i64 (.lit 0)), (.int .i64 (.lit 0))], 27⟩, ⟨[(.int .i64 (.var 7)), (.val 8), (.val 9), (.val 10)], 113⟩, ⟨[(.int .i64 (.lit 1)), (.int .i64 (.lit 1))], 27⟩, ⟨[(.int .i64 (.var 12)), (.int .i64 (.var 13)), (.int .i64 (.var 14)), (.int .i64 (.var 15))], 117⟩, ⟨[(.int .i64 (.var 24)), (.int .i64 (.var 25))], 27⟩])))
 (.again 1 6 [(.int .i64), (.int .i64), (.int .i64)] [(.int .i64 (.bin .add .i64 (.var 18) (.lit 1))), (.int .i64 (.var 19)), (.int .i64 (.var 20))] [⟨[(.int .i64 (.lit 0)), (.int .i64 (.lit 0))], 27⟩, ⟨[(.int .i64 (.lit 0)), (.int .i64 (.lit 0))], 27⟩, ⟨[(.int .i64 (.var 7)), (.val 8), (.val 9), (.val 10)], 113⟩, ⟨[(.int .i64 (.lit 1)), (.int .i64 (.lit 1))], 27⟩, ⟨[(.int .i64 (.var 12)), (.int .i64 (.var 13)), (.int .i64 (.var 14)), (.int .i64 (.var 15))], 117⟩, ⟨[(.int .i64 (.var 19)), (.int .i64 (.var 20))], 27⟩]))))
 (.call false 66 [(.int .i64 (.var 19)), (.int .i64 (.bin .mul .i64 (.var 20) (.var 7)))] (.agg [(.int .i64), (.int .i64)]) [⟨[(.int .i64 (.lit 0)), (.int .i64 (.lit 0))], 27⟩, ⟨[(.int .i64 (.lit 0)), (.int .i64 (.lit 0))], 27⟩, ⟨[(.int .i64 (.var 7)), (.val 8), (.val 9), (.val 10)], 113⟩, ⟨[(.int .i64 (.lit 1)), (.int .i64 (.lit 1))], 27⟩, ⟨[(.int .i64 (.var 12)), (.int .i64 (.var 13)), (.int .i64 (.var 14)), (.int .i64 (.var 15))], 117⟩, ⟨[(.int .i64 (.var 19)), (.int .i64 (.var 20))], 27⟩]
 (.chk (.cmp .leq (.lit 0) (.var 11))
 (.chk (.cmp .lss (.var 11) (.lit 2))
 (.ite (.cmp .eql (.var 11) (.lit 0))
 (.again 0 5 [(.int .i64), (.int .i64), (.int .i64), (.int .i64), (.int .i64)] [(.int .i64 (.bin .add .i64 (.var 11) (.lit 1))), (.int .i64 (.var 21)), (.int .i64 (.var 22)), (.int .i64 (.var 14)), (.int .i64 (.var 15))] [⟨[(.int .i64 (.lit 0)), (.int .i64 (.lit 0))], 27⟩, ⟨[(.int .i64 (.lit 0)), (.int .i64 (.lit 0))], 27⟩, ⟨[(.int .i64 (.var 7)), (.val 8), (.val 9), (.val 10)], 113⟩, ⟨[(.int .i64 (.lit 1)), (.int .i64 (.lit 1))], 27⟩, ⟨[(.int .i64 (.var 21)), (.int .i64 (.var 22)), (.int .i64 (.var 14)), (.int .i64 (.var 15))], 117⟩, ⟨[(.int .i64 (.var 19)), (.int .i64 (.var 20))], 27⟩])
 (.ite (.cmp .eql (.var 11) (.lit 1))
 (.again 0 5 [(.int .i64), (.int .i64), (.int .i64), (.int .i64), (.int .i64)] [(.int .i64 (.bin .add .i64 (.var 11) (.lit 1))), (.int .i64 (.var 12)), (.int .i64 (.var 13)), (.int .i64 (.var 21)), (.int .i64 (.var 22))] [⟨[(.int .i64 (.lit 0)), (.int .i64 (.lit 0))], 27⟩, ⟨[(.int .i64 (.lit 0)), (.int .i64 (.lit 0))], 27⟩, ⟨[(.int .i64 (.var 7)), (.val 8), (.val 9), (.val 10)], 113⟩, ⟨[(.int .i64 (.lit 1)), (.int .i64 (.lit 1))], 27⟩, ⟨[(.int .i64 (.var 12)), (.int .i64 (.var 13)), (.int .i64 (.var 21)), (.int .i64 (.var 22))], 117⟩, ⟨[(.int .i64 (.var 19)), (.int .i64 (.var 20))], 27⟩])
 (.bad "cases")))))))))))))
 (.ite (.cmp .eql (.var 11) (.lit 1))
 (.allocb 2 (some 257)
 (.ext false ⟨(.range 109 (.tmp 0)), 0, [(.val 8)]⟩ .ptr [⟨[(.int .i64 (.lit 0)), (.int .i64 (.lit 0))], 27⟩, ⟨[(.int .i64 (.lit 0)), (.int .i64 (.lit 0))], 27⟩, ⟨[(.int .i64 (.var 7)), (.val 8), (.val 9), (.val 10)], 113⟩, ⟨[(.int .i64 (.lit 1)), (.int .i64 (.lit 1))], 27⟩, ⟨[(.int .i64 (.var 12)), (.int .i64 (.var 13)), (.int .i64 (.var 14)), (.int .i64 (.var 15))], 117⟩]
 (.loop 1 [] [] [⟨[(.int .i64 (.lit 0)), (.int .i64 (.lit 0))], 27⟩, ⟨[(.int .i64 (.lit 0)), (.int .i64 (.lit 0))], 27⟩, ⟨[(.int .i64 (.var 7)), (.val 8), (.val 9), (.val 10)], 113⟩, ⟨[(.int .i64 (.lit 1)), (.int .i64 (.lit 1))], 27⟩, ⟨[(.int .i64 (.var 12)), (.int .i64 (.var 13)), (.int .i64 (.var 14)), (.int .i64 (.var 15))], 117⟩] [⟨[(.int .i64 (.lit 0)), (.int .i64 (.lit 0))], 27⟩, ⟨[(.int .i64 (.lit 0)), (.int .i64 (.lit 0))], 27⟩, ⟨[(.int .i64 (.var 7)), (.val 8), (.val 9), (.val 10)], 113⟩, ⟨[(.int .i64 (.lit 1)), (.int .i64 (.lit 1))], 27⟩, ⟨[(.int .i64 (.var 12)), (.int .i64 (.var 13)), (.int .i64 (.var 14)), (.int .i64 (.var 15))], 117⟩]
 (.nxt false ⟨(.next (.tmp 0) false), 0, [(.ptr 17 (.lit 0))]⟩ [(.agg [(.int .i64), (.int .i64)]), (.int .i64)] [⟨[(.int .i64 (.lit 0)), (.int .i64 (.lit 0))], 27⟩, ⟨[(.int .i64 (.lit 0)), (.int .i64 (.lit 0))], 27⟩, ⟨[(.int .i64 (.var 7)), (.val 8), (.val 9), (.val 10)], 113⟩, ⟨[(.int .i64 (.lit 1)), (.int .i64 (.lit 1))], 27⟩, ⟨[(.int .i64 (.var 12)), (.int .i64 (.var 13)), (.int .i64 (.var 14)), (.int .i64 (.var 15))], 117⟩]
 (.ext false ⟨(.entry (.tmp 0)), 0, [(.ptr 17 (.lit 0))]⟩ (.tup [(.agg [(.int .i64), (.int .i64)]), (.int .i64)]) [⟨[(.int .i64 (.lit 0)), (.int .i64 (.lit 0))], 27⟩, ⟨[(.int .i64 (.lit 0)), (.int .i64 (.lit 0))], 27⟩, ⟨[(.int .i64 (.var 7)), (.val 8), (.val 9), (.val 10)], 113⟩, ⟨[(.int .i64 (.lit 1)), (.int .i64 (.lit 1))], 27⟩, ⟨[(.int .i64 (.var 12)), (.int .i64 (.var 13)), (.int .i64 (.var 14)), (.int .i64 (.var 15))], 117⟩]
 (.alloc
 (.chk (.cmp .leq (.lit 0) (.var 11))
 (.chk (.cmp .lss (.var 11) (.lit 2))
 (.ite (.cmp .eql (.var 11) (.lit 0))
 (.extp ⟨(.lookup 110 (.tmp 0) (.tmp 0) false), 2, [(.val 10), (.int .i64 (.var 21))]⟩ (.int .i64) [⟨[(.int .i64 (.lit 0)), (.int .i64 (.lit 0))], 27⟩, ⟨[(.int .i64 (.lit 0)), (.int .i64 (.lit 0))], 27⟩, ⟨[(.int .i64 (.var 7)), (.val 8), (.val 9), (.val 10)], 113⟩, ⟨[(.int .i64 (.lit 1)), (.int .i64 (.lit 1))], 27⟩, ⟨[(.int .i64 (.var 12)), (.int .i64 (.var 13)), (.int .i64 (.var 14)), (.int .i64 (.var 15))], 117⟩, ⟨[(.int .i64 (.var 21)), (.int .i64 (.var 22))], 115⟩]
 (.chk (.pick (.cmp .geq (.var 24) (.lit 0)) (.pick (.cmp .lss (.var 24) (.lit 257)) (.some 16) (.lit false)) (.lit false))
 (.load 16 (.off (.var 24) 1 (.lit 0)) [(.int .i64)] [⟨[(.int .i64 (.lit 0)), (.int .i64 (.lit 0))], 27⟩, ⟨[(.int .i64 (.lit 0)), (.int .i64 (.lit 0))], 27⟩, ⟨[(.int .i64 (.var 7)), (.val 8), (.val 9), (.val 10)], 113⟩, ⟨[(.int .i64 (.lit 1)), (.int .i64 (.lit 1))], 27⟩, ⟨[(.int .i64 (.var 12)), (.int .i64 (.var 13)), (.int .i64 (.var 14)), (.int .i64 (.var 15))], 117⟩, ⟨[(.int .i64 (.var 21)), (.int .i64 (.var 22))], 115⟩]
 (.chk (.pick (.cmp .geq (.var 24) (.lit 0)) (.pick (.cmp .lss (.var 24) (.lit 257)) (.some 16) (.lit false)) (.lit false))
 (.store false 16 (.off (.var 24) 1 (.lit 0)) [(.int .i64 (.bin .add .i64 (.var 25) (.bin .mul .i64 (.var 23) (.var 23))))] [⟨[(.int .i64 (.lit 0)), (.int .i64 (.lit 0))], 27⟩, ⟨[(.int .i64 (.lit 0)), (.int .i64 (.lit 0))], 27⟩, ⟨[(.int .i64 (.var 7)), (.val 8), (.val 9), (.val 10)], 113⟩, ⟨[(.int .i64 (.lit 1)), (.int .i64 (.lit 1))], 27⟩, ⟨[(.int .i64 (.var 12)), (.int .i64 (.var 13)), (.int .i64 (.var 14)), (.int .i64 (.var 15))], 117⟩, ⟨[(.int .i64 (.var 21)), (.int .i64 (.var 22))], 115⟩]
 (.again 1 5 [] [] [⟨[(.int .i64 (.lit 0)), (.int .i64 (.lit 0))], 27⟩, ⟨[(.int .i64 (.lit 0)), (.int .i64 (.lit 0))], 27⟩, ⟨[(.int .i64 (.var 7)), (.val 8), (.val 9), (.val 10)], 113⟩, ⟨[(.int .i64 (.lit 1)), (.int .i64 (.lit 1))], 27⟩, ⟨[(.int .i64 (.var 12)), (.int .i64 (.var 13)), (.int .i64 (.var 14)), (.int .i64 (.var 15))], 117⟩, ⟨[(.int .i64 (.var 21)), (.int .i64 (.var 22))], 115⟩]))))))
 (.ite (.cmp .eql (.var 11) (.lit 1))
 (.extp ⟨(.lookup 110 (.tmp 0) (.tmp 0) false), 2, [(.val 10), (.int .i64 (.var 22))]⟩ (.int .i64) [⟨[(.int .i64 (.lit 0)), (.int .i64 (.lit 0))], 27⟩, ⟨[(.int .i64 (.lit 0)), (.int .i64 (.lit 0))], 27⟩, ⟨[(.int .i64 (.var 7)), (.val 8), (.val 9), (.val 10)], 113⟩, ⟨[(.int .i64 (.lit 1)), (.int .i64 (.lit 1))], 27⟩, ⟨[(.int .i64 (.var 12)), (.int .i64 (.var 13)), (.int .i64 (.var 14)), (.int .i64 (.var 15))], 117⟩, ⟨[(.int .i64 (.var 21)), (.int .i64 (.var 22))], 115⟩]
 (.chk (.pick (.cmp .geq (.var 24) (.lit 0)) (.pick (.cmp .lss (.var 24) (.lit 257)) (.some 16) (.lit false)) (.lit false))
 (.load 16 (.off (.var 24) 1 (.lit 0)) [(.int .i64)] [⟨[(.int .i64 (.lit 0)), (.int .i64 (.lit 0))], 27⟩, ⟨[(.int .i64 (.lit 0)), (.int .i64 (.lit 0))], 27⟩, ⟨[(.int .i64 (.var 7)), (.val 8), (.val 9), (.val 10)], 113⟩, ⟨[(.int .i64 (.lit 1)), (.int .i64 (.lit 1))], 27⟩, ⟨[(.int .i64 (.var 12)), (.int .i64 (.var 13)), (.int .i64 (.var 14)), (.int .i64 (.var 15))], 117⟩, ⟨[(.int .i64 (.var 21)), (.int .i64 (.var 22))], 115⟩]
 (.chk (.pick (.cmp .geq (.var 24) (.lit 0)) (.pick (.cmp .lss (.var 24) (.lit 257)) (.some 16) (.lit false)) (.lit false))
 (.store false 16 (.off (.var 24) 1 (.lit 0)) [(.int .i64 (.bin .add .i64 (.var 25) (.bin .mul .i64 (.var 23) (.var 23))))] [⟨[(.int .i64 (.lit 0)), (.int .i64 (.lit 0))], 27⟩, ⟨[(.int .i64 (.lit 0)), (.int .i64 (.lit 0))], 27⟩, ⟨[(.int .i64 (.var 7)), (.val 8), (.val 9), (.val 10)], 113⟩, ⟨[(.int .i64 (.lit 1)), (.int .i64 (.lit 1))], 27⟩, ⟨[(.int .i64 (.var 12)), (.int .i64 (.var 13)), (.int .i64 (.var 14)), (.int .i64 (.var 15))], 117⟩, ⟨[(.int .i64 (.var 21)), (.int .i64 (.var 22))], 115⟩]
 (.again 1 5 [] [] [⟨[(.int .i64 (.lit 0)), (.int .i64 (.lit 0))], 27⟩, ⟨[(.int .i64 (.lit 0)), (.int .i64 (.lit 0))], 27⟩, ⟨[(.int .i64 (.var 7)), (.val 8), (.val 9), (.val 10)], 113⟩, ⟨[(.int .i64 (.lit 1)), (.int .i64 (.lit 1))], 27⟩, ⟨[(.int .i64 (.var 12)), (.int .i64 (.var 13)), (.int .i64 (.var 14)), (.int .i64 (.var 15))], 117⟩, ⟨[(.int .i64 (.var 21)), (.int .i64 (.var 22))], 115⟩]))))))
 (.bad "cases")))))))
 (.alloc
 (.loop 1 [(.int .i64), (.int .i64), (.int .i64)] [(.int .i64 (.lit 0)), (.int .i64 (.lit 0)), (.int .i64 (.lit 1))] [⟨[(.int .i64 (.lit 0)), (.int .i64 (.lit 0))], 27⟩, ⟨[(.int .i64 (.lit 0)), (.int .i64 (.lit 0))], 27⟩, ⟨[(.int .i64 (.var 7)), (.val 8), (.val 9), (.val 10)], 113⟩, ⟨[(.int .i64 (.lit 1)), (.int .i64 (.lit 1))], 27⟩, ⟨[(.int .i64 (.var 12)), (.int .i64 (.var 13)), (.int .i64 (.var 14)), (.int .i64 (.var 15))], 117⟩, ⟨[(.int .i64 (.lit 0)), (.int .i64 (.lit 1))], 27⟩] [⟨[(.int .i64 (.lit 0)), (.int .i64 (.lit 0))], 27⟩, ⟨[(.int .i64 (.lit 0)), (.int .i64 (.lit 0))], 27⟩, ⟨[(.int .i64 (.var 7)), (.val 8), (.val 9), (.val 10)], 113⟩, ⟨[(.int .i64 (.lit 1)), (.int .i64 (.lit 1))], 27⟩, ⟨[(.int .i64 (.var 12)), (.int .i64 (.var 13)), (.int .i64 (.var 14)), (.int .i64 (.var 15))], 117⟩, ⟨[(.int .i64 (.var 19)), (.int .i64 (.var 20))], 27⟩]
 (.ite (.cmp .lss (.var 18) (.lit 257))
 (.chk (.pick (.cmp .geq (.var 18) (.lit 0)) (.pick (.cmp .lss (.var 18) (.lit 257)) (.some 16) (.lit false)) (.lit false))
 (.load 16 (.off (.var 18) 1 (.lit 0)) [(.int .i64)] [⟨[(.int .i64 (.lit 0)), (.int .i64 (.lit 0))], 27⟩, ⟨[(.int .i64 (.lit 0)), (.int .i64 (.lit 0))], 27⟩, ⟨[(.int .i64 (.var 7)), (.val 8), (.val 9), (.val 10)], 113⟩, ⟨[(.int .i64 (.lit 1)), (.int .i64 (.lit 1))], 27⟩, ⟨[(.int .i64 (.var 12)), (.int .i64 (.var 13)), (.int .i64 (.var 14)), (.int .i64 (.var 15))], 117⟩, ⟨[(.int .i64 (.var 19)), (.int .i64 (.var 20))], 27⟩]
 (.ite (.cmp .gtr (.var 21) (.lit 0))
 (.call false 66 [(.int .i64 (.var 21)), (.int .i64 (.var 18))] (.agg [(.int .i64), (.int .i64)]) [⟨[(.int .i64 (.lit 0)), (.int .i64 (.lit 0))], 27⟩, ⟨[(.int .i64 (.lit 0)), (.int .i64 (.lit 0))], 27⟩, ⟨[(.int .i64 (.var 7)), (.val 8), (.val 9), (.val 10)], 113⟩, ⟨[(.int .i64 (.lit 1)), (.int .i64 (.lit 1))], 27⟩, ⟨[(.int .i64 (.var 12)), (.int .i64 (.var 13)), (.int .i64 (.var 14)), (.int .i64 (.var 15))], 117⟩, ⟨[(.int .i64 (.var 19)), (.int .i64 (.var 20))], 27⟩]
 (.call false 70 [(.agg [(.int .i64 (.var 19)), (.int .i64 (.var 20))]), (.agg [(.int .i64 (.var 22)), (.int .i64 (.var 23))])] (.agg [(.int .i64), (.int .i64)]) [⟨[(.int .i64 (.lit 0)), (.int .i64 (.lit 0))], 27⟩, ⟨[(.int .i64 (.lit 0)), (.int .i64 (.lit 0))], 27⟩, ⟨[(.int .i64 (.var 7)), (.val 8), (.val 9), (.val 10)], 113⟩, ⟨[(.int .i64 (.lit 1)), (.int .i64 (.lit 1))], 27⟩, ⟨[(.int .i64 (.var 12)), (.int .i64 (.var 13)), (.int .i64 (.var 14)), (.int .i64 (.var 15))], 117⟩, ⟨[(.int .i64 (.var 19)), (.int .i64 (.var 20))], 27⟩]
 (.again 1 6 [(.int .i64), (.int .i64), (.int .i64)] [(.int .i64 (.bin .add .i64 (.var 18) (.lit 1))), (.int .i64 (.var 24)), (.int .i64 (.var 25))] [⟨[(.int .i64 (.lit 0)), (.int .i64 (.lit 0))], 27⟩, ⟨[(.int .i64 (.lit 0)), (.int .i64 (.lit 0))], 27⟩, ⟨[(.int .i64 (.var 7)), (.val 8), (.val 9), (.val 10)], 113⟩, ⟨[(.int .i64 (.lit 1)), (.int .i64 (.lit 1))], 27⟩, ⟨[(.int .i64 (.var 12)), (.int .i64 (.var 13)), (.int .i64 (.var 14)), (.int .i64 (.var 15))], 117⟩, ⟨[(.int .i64 (.var 24)), (.int .i64 (.var 25))], 27⟩])))
 (.again 1 6 [(.int .i64), (.int .i64), (.int .i64)] [(.int .i64 (.bin .add .i64 (.var 18) (.lit 1))), (.int .i64 (.var 19)), (.int .i64 (.var 20))] [⟨[(.int .i64 (.lit 0)), (.int .i64 (.lit 0))], 27⟩, ⟨[(.int .i64 (.lit 0)), (.int .i64 (.lit 0))], 27⟩, ⟨[(.int .i64 (.var 7)), (.val 8), (.val 9), (.val 10)], 113⟩, ⟨[(.int .i64 (.lit 1)), (.int .i64 (.lit 1))], 27⟩, ⟨[(.int .i64 (.var 12)), (.int .i64 (.var 13)), (.int .i64 (.var 14)), (.int .i64 (.var 15))], 117⟩, ⟨[(.int .i64 (.var 19)), (.int .i64 (.var 20))], 27⟩]))))
 (.call false 66 [(.int .i64 (.var 19)), (.int .i64 (.bin .mul .i64 (.var 20) (.var 7)))] (.agg [(.int .i64), (.int .i64)]) [⟨[(.int .i64 (.lit 0)), (.int .i64 (.lit 0))], 27⟩, ⟨[(.int .i64 (.lit 0)), (.int .i64 (.lit 0))], 27⟩, ⟨[(.int .i64 (.var 7)), (.val 8), (.val 9), (.val 10)], 113⟩, ⟨[(.int .i64 (.lit 1)), (.int .i64 (.lit 1))], 27⟩, ⟨[(.int .i64 (.var 12)), (.int .i64 (.var 13)), (.int .i64 (.var 14)), (.int .i64 (.var 15))], 117⟩, ⟨[(.int .i64 (.var 19)), (.int .i64 (.var 20))], 27⟩]
 (.chk (.cmp .leq (.lit 0) (.var 11))
 (.chk (.cmp .lss (.var 11) (.lit 2))
 (.ite (.cmp .eql (.var 11) (.lit 0))
 (.again 0 5 [(.int .i64), (.int .i64), (.int .i64), (.int .i64), (.int .i64)] [(.int .i64 (.bin .add .i64 (.var 11) (.lit 1))), (.int .i64 (.var 21)), (.int .i64 (.var 22)), (.int .i64 (.var 14)), (.int .i64 (.var 15))] [⟨[(.int .i64 (.lit 0)), (.int .i64 (.lit 0))], 27⟩, ⟨[(.int .i64 (.lit 0)), (.int .i64 (.lit 0))], 27⟩, ⟨[(.int .i64 (.var 7)), (.val 8), (.val 9), (.val 10)], 113⟩, ⟨[(.int .i64 (.lit 1)), (.int .i64 (.lit 1))], 27⟩, ⟨[(.int .i64 (.var 21)), (.int .i64 (.var 22)), (.int .i64 (.var 14)), (.int .i64 (.var 15))], 117⟩, ⟨[(.int .i64 (.var 19)), (.int .i64 (.var 20))], 27⟩])
 (.ite (.cmp .eql (.var 11) (.lit 1))
 (.again 0 5 [(.int .i64), (.int .i64), (.int .i64), (.int .i64), (.int .i64)] [(.int .i64 (.bin .add .i64 (.var 11) (.lit 1))), (.int .i64 (.var 12)), (.int .i64 (.var 13)), (.int .i64 (.var 21)), (.int .i64 (.var 22))] [⟨[(.int .i64 (.lit 0)), (.int .i64 (.lit 0))], 27⟩, ⟨[(.int .i64 (.lit 0)), (.int .i64 (.lit 0))], 27⟩, ⟨[(.int .i64 (.var 7)), (.val 8), (.val 9), (.val 10)], 113⟩, ⟨[(.int .i64 (.lit 1)), (.int .i64 (.lit 1))], 27⟩, ⟨[(.int .i64 (.var 12)), (.int .i64 (.var 13)), (.int .i64 (.var 21)), (.int .i64 (.var 22))], 117⟩, ⟨[(.int .i64 (.var 19)), (.int .i64 (.var 20))], 27⟩])
 (.bad "cases")))))))))))))
 (.bad "cases")))))
 (.ret (.tup [(.agg [(.int .i64 (.var 12)), (.int .i64 (.var 13))]), (.agg [(.int .i64 (.var 14)), (.int .i64 (.var 15))]), (.int .i64 (.lit 0))]) [⟨[(.int .i64 (.var 12)), (.int .i64 (.var 13))], 27⟩, ⟨[(.int .i64 (.var 14)), (.int .i64 (.var 15))], 27⟩, ⟨[(.int .i64 (.var 7)), (.val 8), (.val 9), (.val 10)], 113⟩, ⟨[(.int .i64 (.lit 1)), (.int .i64 (.lit 1))], 27⟩, ⟨[(.int .i64 (.var 12)), (.int .i64 (.var 13)), (.int .i64 (.var 14)), (.int .i64 (.var 15))], 117⟩]))))))))))))
theorem S_cognates_Cubed : FnIs Tryd.prog n_cognates_Cubed [.sl, .sl] T_cognates_Cubed := ⟨Tryd.f24, [{ key := 999998, tmps := [(45, (.tup [(.agg [(.int .i64), (.int .i64)]), (.int .i64)]))], join := false }], 4000, Tryd.func24, by kernel_rfl⟩
abbrev n_slices_ContainsFunc___api_Form_api_Form_ : FuncId := 34
def T_slices_ContainsFunc___api_Form_api_Form_ : Tree :=
 (.call false 73 [(.sl 0 (.lit 0) (.var 1) (.var 2)), (.val 3)] (.int .i64) []
 (.ret (.bool (.cmp .geq (.var 4) (.lit 0))) []))
theorem S_slices_ContainsFunc___api_Form_api_Form_ : FnIs Tryd.prog n_slices_ContainsFunc___api_Form_api_Form_ [.sl, .val] T_slices_ContainsFunc___api_Form_api_Form_ := ⟨Tryd.f34, [], 4000, Tryd.func34, by kernel_rfl⟩
abbrev n_cognates_Shared : FuncId := 36
def T_cognates_Shared : Tree :=
 (.alloc
 (.chk (.cmp .geq (.var 1) (.lit 0))
 (.ite (.cmp .gtr (.var 1) (.lit 256))
 (.ret (.tup [(.agg [(.int .i64 (.lit 0)), (.int .i64 (.lit 0))]), (.int .i64 (.lit 12))]) [⟨[(.int .i64 (.lit 0)), (.int .i64 (.lit 0))], 27⟩])
 (.chk (.cmp .geq (.var 1) (.lit 0))
 (.loop 0 [(.int .i64), (.int .i64), (.int .i64), (.int .i64)] [(.int .i64 (.lit 0)), (.int .i64 (.lit 0)), (.int .i64 (.lit 0)), (.int .i64 (.lit 0))] [⟨[(.int .i64 (.lit 0)), (.int .i64 (.lit 0))], 27⟩] [⟨[(.int .i64 (.var 7)), (.int .i64 (.var 8))], 27⟩]
 (.ite (.cmp .lss (.var 6) (.var 1))
 (.chk (.pick (.cmp .geq (.var 6) (.lit 0)) (.pick (.cmp .lss (.var 6) (.var 1)) (.some 0) (.lit false)) (.lit false))
 (.load 0 (.off (.var 6) 1 (.lit 0)) [.sl] [⟨[(.int .i64 (.var 7)), (.int .i64 (.var 8))], 27⟩]
 (.chk (.cmp .geq (.var 10) (.lit 0))
 (.chk (.pick (.cmp .lss (.lit 0) (.var 1)) (.some 0) (.lit false))
 (.load 0 (.lit 0) [.sl] [⟨[(.int .i64 (.var 7)), (.int .i64 (.var 8))], 27⟩]
 (.chk (.cmp .geq (.var 13) (.lit 0))
 (.ite (.cmp .neq (.var 10) (.var 13))
 (.ret (.tup [(.agg [(.int .i64 (.lit 0)), (.int .i64 (.lit 0))]), (.int .i64 (.lit 2))]) [⟨[(.int .i64 (.lit 0)), (.int .i64 (.lit 0))], 27⟩])
 (.call false 74 [(.sl 9 (.lit 0) (.var 10) (.var 11)), (.cst (.func (.func 75) #[] #[]))] .bool [⟨[(.int .i64 (.var 7)), (.int .i64 (.var 8))], 27⟩]
 (.ite (.var 15)
 (.ret (.tup [(.agg [(.int .i64 (.lit 0)), (.int .i64 (.lit 0))]), (.int .i64 (.lit 2))]) [⟨[(.int .i64 (.lit 0)), (.int .i64 (.lit 0))], 27⟩])
 (.again 0 1 [(.int .i64), (.int .i64), (.int .i64), (.int .i64)] [(.int .i64 (.var 5)), (.int .i64 (.bin .add .i64 (.var 6) (.lit 1))), (.int .i64 (.var 7)), (.int .i64 (.var 8))] [⟨[(.int .i64 (.var 7)), (.int .i64 (.var 8))], 27⟩]))))))))))
 (.chk (.cmp .geq (.var 1) (.lit 0))
 (.ite (.pick (.cmp .eql (.var 1) (.lit 0)) (.lit true) (.cmp .lss (.mn (.var 3) (.var 4)) (.lit 0)))
 (.ret (.tup [(.agg [(.int .i64 (.lit 0)), (.int .i64 (.lit 0))]), (.int .i64 (.lit 3))]) [⟨[(.int .i64 (.lit 0)), (.int .i64 (.lit 0))], 27⟩])
 (.chk (.pick (.cmp .lss (.lit 0) (.var 1)) (.some 0) (.lit false))
 (.load 0 (.lit 0) [.sl] [⟨[(.int .i64 (.var 7)), (.int .i64 (.var 8))], 27⟩]
 (.chk (.cmp .geq (.var 10) (.lit 0))
 (.ite (.cmp .geq (.mx (.var 3) (.var 4)) (.var 10))
 (.ret (.tup [(.agg [(.int .i64 (.lit 0)), (.int .i64 (.lit 0))]), (.int .i64 (.lit 3))]) [⟨[(.int .i64 (.lit 0)), (.int .i64 (.lit 0))], 27⟩])
 (.chk (.cmp .geq (.var 1) (.lit 0))
 (.loop 0 [(.int .i64), (.int .i64), (.int .i64)] [(.int .i64 (.lit 0)), (.int .i64 (.lit 0)), (.int .i64 (.lit 0))] [⟨[(.int .i64 (.var 7)), (.int .i64 (.var 8))], 27⟩] [⟨[(.int .i64 (.var 7)), (.int .i64 (.var 8))], 27⟩]
 (.ite (.cmp .lss (.var 14) (.var 1))
 (.chk (.pick (.cmp .geq (.var 14) (.lit 0)) (.pick (.cmp .lss (.var 14) (.var 1)) (.some 0) (.lit false)) (.lit false))
 (.load 0 (.off (.var 14) 1 (.lit 0)) [.sl] [⟨[(.int .i64 (.var 7)), (.int .i64 (.var 8))], 27⟩]
 (.chk (.pick (.cmp .geq (.var 3) (.lit 0)) (.pick (.cmp .lss (.var 3) (.var 16)) (.some 15) (.lit false)) (.lit false))
 (.load 15 (.off (.var 3) 1 (.lit 0)) [(.int .i64)] [⟨[(.int .i64 (.var 7)), (.int .i64 (.var 8))], 27⟩]
 (.ite (.cmp .lss (.var 18) (.lit 0))
 (.again 0 1 [(.int .i64), (.int .i64), (.int .i64)] [(.int .i64 (.var 12)), (.int .i64 (.var 13)), (.int .i64 (.bin .add .i64 (.var 14) (.lit 1)))] [⟨[(.int .i64 (.var 7)), (.int .i64 (.var 8))], 27⟩])
 (.chk (.pick (.cmp .geq (.var 4) (.lit 0)) (.pick (.cmp .lss (.var 4) (.var 16)) (.some 15) (.lit false)) (.lit false))
 (.load 15 (.off (.var 4) 1 (.lit 0)) [(.int .i64)] [⟨[(.int .i64 (.var 7)), (.int .i64 (.var 8))], 27⟩]
 (.ite (.cmp .lss (.var 19) (.lit 0))
 (.again 0 1 [(.int .i64), (.int .i64), (.int .i64)] [(.int .i64 (.var 12)), (.int .i64 (.var 13)), (.int .i64 (.bin .add .i64 (.var 14) (.lit 1)))] [⟨[(.int .i64 (.var 7)), (.int .i64 (.var 8))], 27⟩])
 (.chk (.pick (.cmp .geq (.var 3) (.lit 0)) (.pick (.cmp .lss (.var 3) (.var 16)) (.some 15) (.lit false)) (.lit false))
 (.load 15 (.off (.var 3) 1 (.lit 0)) [(.int .i64)] [⟨[(.int .i64 (.var 7)), (.int .i64 (.var 8))], 27⟩]
 (.chk (.pick (.cmp .geq (.var 4) (.lit 0)) (.pick (.cmp .lss (.var 4) (.var 16)) (.some 15) (.lit false)) (.lit false))
 (.load 15 (.off (.var 4) 1 (.lit 0)) [(.int .i64)] [⟨[(.int .i64 (.var 7)), (.int .i64 (.var 8))], 27⟩]
 (.ite (.cmp .eql (.var 20) (.var 21))
 (.again 0 1 [(.int .i64), (.int .i64), (.int .i64)] [(.int .i64 (.bin .add .i64 (.var 12) (.lit 1))), (.int .i64 (.bin .add .i64 (.var 13) (.lit 1))), (.int .i64 (.bin .add .i64 (.var 14) (.lit 1)))] [⟨[(.int .i64 (.var 7)), (.int .i64 (.var 8))], 27⟩])
 (.again 0 1 [(.int .i64), (.int .i64), (.int .i64)] [(.int .i64 (.var 12)), (.int .i64 (.bin .add .i64 (.var 13) (.lit 1))), (.int .i64 (.bin .add .i64 (.var 14) (.lit 1)))] [⟨[(.int .i64 (.var 7)), (.int .i64 (.var 8))], 27⟩]))))))))))))))
 (.call false 66 [(.int .i64 (.var 12)), (.int .i64 (.mx (.var 13) (.lit 1)))] (.agg [(.int .i64), (.int .i64)]) [⟨[(.int .i64 (.var 7)), (.int .i64 (.var 8))], 27⟩]
 (.ret (.tup [(.agg [(.int .i64 (.var 15)), (.int .i64 (.var 16))]), (.int .i64 (.lit 0))]) [⟨[(.int .i64 (.var 15)), (.int .i64 (.var 16))], 27⟩])))))))))))))))))
theorem S_cognates_Shared : FnIs Tryd.prog n_cognates_Shared [.sl, (.int .i64), (.int .i64)] T_cognates_Shared := ⟨Tryd.f36, [], 4000, Tryd.func36, by kernel_rfl⟩
abbrev n_slices_Clone___int_int_ : FuncId := 39
def T_slices_Clone___int_int_ : Tree :=
 (.extp ⟨(.binOp .eql 30 (.tmp 0) (.const (.bool true)) 30), 4, [(.sl 0 (.lit 0) (.var 1) (.var 2)), (.cst (.slice none 0 0))]⟩ .bool []
 (.ite (.var 3)
 (.ret (.cst (.slice none 0 0)) [])
 (.alloc
 (.ext false ⟨(.call ⟨.builtin .append, #[(.tmp 0), (.tmp 0)], #[30, 30]⟩), 30, [(.slc 0 0 0 0), (.sl 0 (.lit 0) (.var 1) (.var 2))]⟩ .sl [⟨[], 3⟩]
 (.ret (.sl 4 (.lit 0) (.var 5) (.var 6)) [⟨[], 3⟩])))))
theorem S_slices_Clone___int_int_ : FnIs Tryd.prog n_slices_Clone___int_int_ [.sl] T_slices_Clone___int_int_ := ⟨Tryd.f39, [], 4000, Tryd.func39, by kernel_rfl⟩
abbrev n_cognates_check : FuncId := 50
def T_cognates_check : Tree :=
 (.alloc
 (.alloc
 (.call false 80 [(.agg [(.sl 3 (.lit 0) (.var 4) (.var 5)), (.int .i64 (.var 6))])] (.int .i64) [⟨[(.sl 3 (.lit 0) (.var 4) (.var 5)), (.int .i64 (.var 6))], 25⟩, ⟨[(.int .i64 (.var 7)), (.int .i64 (.var 8))], 27⟩]
 (.ite (.cmp .neq (.var 9) (.lit 0))
 (.ret (.int .i64 (.lit 2)) [⟨[(.sl 3 (.lit 0) (.var 4) (.var 5)), (.int .i64 (.var 6))], 25⟩, ⟨[(.int .i64 (.var 7)), (.int .i64 (.var 8))], 27⟩])
 (.chk (.cmp .geq (.var 1) (.lit 0))
 (.ite (.cmp .gtr (.var 1) (.lit 16))
 (.ret (.int .i64 (.lit 12)) [⟨[(.sl 3 (.lit 0) (.var 4) (.var 5)), (.int .i64 (.var 6))], 25⟩, ⟨[(.int .i64 (.var 7)), (.int .i64 (.var 8))], 27⟩])
 (.call false 83 [(.sl 0 (.lit 0) (.var 1) (.var 2))] .bool [⟨[(.sl 3 (.lit 0) (.var 4) (.var 5)), (.int .i64 (.var 6))], 25⟩, ⟨[(.int .i64 (.var 7)), (.int .i64 (.var 8))], 27⟩]
 (.ite (.var 10)
 (.ret (.int .i64 (.lit 2)) [⟨[(.sl 3 (.lit 0) (.var 4) (.var 5)), (.int .i64 (.var 6))], 25⟩, ⟨[(.int .i64 (.var 7)), (.int .i64 (.var 8))], 27⟩])
 (.call false 84 [(.sl 0 (.lit 0) (.var 1) (.var 2))] (.int .i64) [⟨[(.sl 3 (.lit 0) (.var 4) (.var 5)), (.int .i64 (.var 6))], 25⟩, ⟨[(.int .i64 (.var 7)), (.int .i64 (.var 8))], 27⟩]
 (.ite (.cmp .neq (.var 11) (.lit 0))
 (.ret (.int .i64 (.var 11)) [⟨[(.sl 3 (.lit 0) (.var 4) (.var 5)), (.int .i64 (.var 6))], 25⟩, ⟨[(.int .i64 (.var 7)), (.int .i64 (.var 8))], 27⟩])
 (.call false 85 [(.agg [(.int .i64 (.var 7)), (.int .i64 (.var 8))])] .bool [⟨[(.sl 3 (.lit 0) (.var 4) (.var 5)), (.int .i64 (.var 6))], 25⟩, ⟨[(.int .i64 (.var 7)), (.int .i64 (.var 8))], 27⟩]
 (.ite (.not (.var 12))
 (.ret (.int .i64 (.lit 2)) [⟨[(.sl 3 (.lit 0) (.var 4) (.var 5)), (.int .i64 (.var 6))], 25⟩, ⟨[(.int .i64 (.var 7)), (.int .i64 (.var 8))], 27⟩])
 (.ret (.int .i64 (.lit 0)) [⟨[(.sl 3 (.lit 0) (.var 4) (.var 5)), (.int .i64 (.var 6))], 25⟩, ⟨[(.int .i64 (.var 7)), (.int .i64 (.var 8))], 27⟩])))))))))))))
theorem S_cognates_check : FnIs Tryd.prog n_cognates_check [.sl, (.agg [.sl, (.int .i64)]), (.agg [(.int .i64), (.int .i64)])] T_cognates_check := ⟨Tryd.f50, [], 4000, Tryd.func50, by kernel_rfl⟩
abbrev n_cognates_apart : FuncId := 51
def T_cognates_apart : Tree :=
 (.alloc
 (.allocc 99 ([(.cst (.slice none 0 0))] ++ List.replicate 512 (.int .i64 (.lit 0)) ++ [(.int .i64 (.var 6))])
 (.chk (.cmp .geq (.var 1) (.lit 0))
 (.loop 0 [.ptr, (.int .i64), (.int .i64)] [(.cst (.pointer none)), (.int .i64 (.lit 0)), (.int .i64 (.lit 0))] [⟨[(.sl 3 (.lit 0) (.var 4) (.var 5)), (.int .i64 (.var 6))], 25⟩] [⟨[(.sl 3 (.lit 0) (.var 4) (.var 5)), (.int .i64 (.var 6))], 25⟩]
 (.ite (.cmp .lss (.var 10) (.var 1))
 (.chk (.pick (.cmp .geq (.var 10) (.lit 0)) (.pick (.cmp .lss (.var 10) (.var 1)) (.some 0) (.lit false)) (.lit false))
 (.load 0 (.off (.var 10) 2 (.lit 0)) [.bool, .sl] [⟨[(.sl 3 (.lit 0) (.var 4) (.var 5)), (.int .i64 (.var 6))], 25⟩]
 (.alloc
 (.ite (.not (.var 11))
 (.chk (.some 7)
 (.chk (.some 7)
 (.load 7 (.lit 0) [.sl] [⟨[(.sl 3 (.lit 0) (.var 4) (.var 5)), (.int .i64 (.var 6))], 25⟩, ⟨[(.bool (.var 11)), (.sl 12 (.lit 0) (.var 13) (.var 14))], 50⟩]
 (.alloc
 (.ext false ⟨(.call ⟨.builtin .append, #[(.tmp 0), (.tmp 0)], #[30, 30]⟩), 30, [(.sl 15 (.lit 0) (.var 16) (.var 17)), (.slc 2 0 1 1)]⟩ .sl [⟨[(.sl 3 (.lit 0) (.var 4) (.var 5)), (.int .i64 (.var 6))], 25⟩, ⟨[(.bool (.var 11)), (.sl 12 (.lit 0) (.var 13) (.var 14))], 50⟩, ⟨[(.int .i64 (.lit (-1)))], 3⟩]
 (.chk (.some 7)
 (.chk (.some 7)
 (.store false 7 (.lit 0) [(.sl 18 (.lit 0) (.var 19) (.var 20))] [⟨[(.sl 3 (.lit 0) (.var 4) (.var 5)), (.int .i64 (.var 6))], 25⟩, ⟨[(.bool (.var 11)), (.sl 12 (.lit 0) (.var 13) (.var 14))], 50⟩, ⟨[(.int .i64 (.lit (-1)))], 3⟩]
 (.again 0 1 [.ptr, (.int .i64), (.int .i64)] [(.ptr 8 (.lit 0)), (.int .i64 (.var 9)), (.int .i64 (.bin .add .i64 (.var 10) (.lit 1)))] [⟨[(.sl 3 (.lit 0) (.var 4) (.var 5)), (.int .i64 (.var 6))], 25⟩, ⟨[(.bool (.var 11)), (.sl 12 (.lit 0) (.var 13) (.var 14))], 50⟩, ⟨[(.int .i64 (.lit (-1)))], 3⟩])))))))))
 (.chk (.some 7)
 (.chk (.some 7)
 (.load 7 (.lit 0) [.sl] [⟨[(.sl 3 (.lit 0) (.var 4) (.var 5)), (.int .i64 (.var 6))], 25⟩, ⟨[(.bool (.var 11)), (.sl 12 (.lit 0) (.var 13) (.var 14))], 50⟩]
 (.alloc
 (.ext false ⟨(.call ⟨.builtin .append, #[(.tmp 0), (.tmp 0)], #[30, 30]⟩), 30, [(.sl 15 (.lit 0) (.var 16) (.var 17)), (.slc 2 0 1 1)]⟩ .sl [⟨[(.sl 3 (.lit 0) (.var 4) (.var 5)), (.int .i64 (.var 6))], 25⟩, ⟨[(.bool (.var 11)), (.sl 12 (.lit 0) (.var 13) (.var 14))], 50⟩, ⟨[(.int .i64 (.var 10))], 3⟩]
 (.chk (.some 7)
 (.chk (.some 7)
 (.store false 7 (.lit 0) [(.sl 18 (.lit 0) (.var 19) (.var 20))] [⟨[(.sl 3 (.lit 0) (.var 4) (.var 5)), (.int .i64 (.var 6))], 25⟩, ⟨[(.bool (.var 11)), (.sl 12 (.lit 0) (.var 13) (.var 14))], 50⟩, ⟨[(.int .i64 (.var 10))], 3⟩]
 (.chk (.pick (.cmp .leq (.lit 0) (.var 10)) (.cmp .leq (.var 10) (.var 2)) (.lit false))
 (.chk (.cmp .geq (.var 10) (.lit 0))
 (.loop 1 [.ptr, (.int .i64), (.int .i64)] [(.ptr 8 (.lit 0)), (.int .i64 (.var 9)), (.int .i64 (.lit 0))] [⟨[(.sl 3 (.lit 0) (.var 4) (.var 5)), (.int .i64 (.var 6))], 25⟩, ⟨[(.bool (.var 11)), (.sl 12 (.lit 0) (.var 13) (.var 14))], 50⟩, ⟨[(.int .i64 (.var 10))], 3⟩] [⟨[(.sl 3 (.lit 0) (.var 4) (.var 5)), (.int .i64 (.var 6))], 25⟩, ⟨[(.bool (.var 11)), (.sl 12 (.lit 0) (.var 13) (.var 14))], 50⟩, ⟨[(.int .i64 (.var 10))], 3⟩]
 (.ite (.cmp .lss (.var 23) (.var 10))
 (.chk (.pick (.cmp .geq (.ifeq (.var 2) (.lit 0) (.lit 0) (.lit 0)) (.lit 0)) (.pick (.cmp .geq (.var 23) (.lit 0)) (.pick (.cmp .lss (.var 23) (.var 10)) (.some 0) (.lit false)) (.lit false)) (.lit false))
 (.load 0 (.off (.var 23) 2 (.ifeq (.var 2) (.lit 0) (.lit 0) (.lit 0))) [.bool, .sl] [⟨[(.sl 3 (.lit 0) (.var 4) (.var 5)), (.int .i64 (.var 6))], 25⟩, ⟨[(.bool (.var 11)), (.sl 12 (.lit 0) (.var 13) (.var 14))], 50⟩, ⟨[(.int .i64 (.var 10))], 3⟩]
 (.alloc
 (.ite (.not (.var 24))
 (.again 1 3 [.ptr, (.int .i64), (.int .i64)] [(.ptr 21 (.lit 0)), (.int .i64 (.var 22)), (.int .i64 (.bin .add .i64 (.var 23) (.lit 1)))] [⟨[(.sl 3 (.lit 0) (.var 4) (.var 5)), (.int .i64 (.var 6))], 25⟩, ⟨[(.bool (.var 11)), (.sl 12 (.lit 0) (.var 13) (.var 14))], 50⟩, ⟨[(.int .i64 (.var 10))], 3⟩, ⟨[(.bool (.var 24)), (.sl 25 (.lit 0) (.var 26) (.var 27))], 50⟩])
 (.call false 72 [(.sl 12 (.lit 0) (.var 13) (.var 14)), (.sl 25 (.lit 0) (.var 26) (.var 27)), (.agg [(.sl 3 (.lit 0) (.var 4) (.var 5)), (.int .i64 (.var 6))])] (.tup [(.int .i64), (.int .i64)]) [⟨[(.sl 3 (.lit 0) (.var 4) (.var 5)), (.int .i64 (.var 6))], 25⟩, ⟨[(.bool (.var 11)), (.sl 12 (.lit 0) (.var 13) (.var 14))], 50⟩, ⟨[(.int .i64 (.var 10))], 3⟩, ⟨[(.bool (.var 24)), (.sl 25 (.lit 0) (.var 26) (.var 27))], 50⟩]
 (.ite (.cmp .neq (.var 29) (.lit 0))
 (.ret (.tup [(.cst (.pointer none)), (.int .i64 (.var 29))]) [⟨[(.sl 3 (.lit 0) (.var 4) (.var 5)), (.int .i64 (.var 6))], 25⟩, ⟨[(.bool (.var 11)), (.sl 12 (.lit 0) (.var 13) (.var 14))], 50⟩, ⟨[(.int .i64 (.var 10))], 3⟩, ⟨[(.bool (.var 24)), (.sl 25 (.lit 0) (.var 26) (.var 27))], 50⟩])
 (.chk (.cmp .geq (.var 13) (.lit 0))
 (.chk (.cmp .geq (.var 26) (.lit 0))
 (.alloc
 (.chk (.some 7)
 (.chk (.some 7)
 (.chk (.pick (.cmp .geq (.var 10) (.lit 0)) (.pick (.cmp .lss (.var 10) (.lit 16)) (.some 7) (.lit false)) (.lit false))
 (.chk (.pick (.cmp .geq (.off (.var 10) 32 (.lit 1)) (.lit 0)) (.pick (.cmp .geq (.var 23) (.lit 0)) (.pick (.cmp .lss (.var 23) (.lit 16)) (.some 7) (.lit false)) (.lit false)) (.lit false))
 (.chk (.some 7)
 (.chk (.some 7)
 (.chk (.pick (.cmp .geq (.var 23) (.lit 0)) (.pick (.cmp .lss (.var 23) (.lit 16)) (.some 7) (.lit false)) (.lit false))
 (.store false 7 (.off (.var 23) 2 (.off (.var 10) 32 (.lit 1))) [(.int .i64 (.var 28)), (.int .i64 (.bin .add .i64 (.var 13) (.var 26)))] [⟨[(.sl 3 (.lit 0) (.var 4) (.var 5)), (.int .i64 (.var 6))], 25⟩, ⟨[(.bool (.var 11)), (.sl 12 (.lit 0) (.var 13) (.var 14))], 50⟩, ⟨[(.int .i64 (.var 10))], 3⟩, ⟨[(.bool (.var 24)), (.sl 25 (.lit 0) (.var 26) (.var 27))], 50⟩, ⟨[(.int .i64 (.var 28)), (.int .i64 (.bin .add .i64 (.var 13) (.var 26)))], 95⟩]
 (.chk (.pick (.cmp .geq (.off (.var 23) 32 (.lit 1)) (.lit 0)) (.pick (.cmp .geq (.var 10) (.lit 0)) (.pick (.cmp .lss (.var 10) (.lit 16)) (.some 7) (.lit false)) (.lit false)) (.lit false))
 (.store false 7 (.off (.var 10) 2 (.off (.var 23) 32 (.lit 1))) [(.int .i64 (.var 28)), (.int .i64 (.bin .add .i64 (.var 13) (.var 26)))] [⟨[(.sl 3 (.lit 0) (.var 4) (.var 5)), (.int .i64 (.var 6))], 25⟩, ⟨[(.bool (.var 11)), (.sl 12 (.lit 0) (.var 13) (.var 14))], 50⟩, ⟨[(.int .i64 (.var 10))], 3⟩, ⟨[(.bool (.var 24)), (.sl 25 (.lit 0) (.var 26) (.var 27))], 50⟩, ⟨[(.int .i64 (.var 28)), (.int .i64 (.bin .add .i64 (.var 13) (.var 26)))], 95⟩]
 (.again 1 3 [.ptr, (.int .i64), (.int .i64)] [(.ptr 21 (.lit 0)), (.int .i64 (.var 22)), (.int .i64 (.bin .add .i64 (.var 23) (.lit 1)))] [⟨[(.sl 3 (.lit 0) (.var 4) (.var 5)), (.int .i64 (.var 6))], 25⟩, ⟨[(.bool (.var 11)), (.sl 12 (.lit 0) (.var 13) (.var 14))], 50⟩, ⟨[(.int .i64 (.var 10))], 3⟩, ⟨[(.bool (.var 24)), (.sl 25 (.lit 0) (.var 26) (.var 27))], 50⟩, ⟨[(.int .i64 (.var 28)), (.int .i64 (.bin .add .i64 (.var 13) (.var 26)))], 95⟩]))))))))))))))))))))
 (.again 0 1 [.ptr, (.int .i64), (.int .i64)] [(.ptr 21 (.lit 0)), (.int .i64 (.var 22)), (.int .i64 (.bin .add .i64 (.var 10) (.lit 1)))] [⟨[(.sl 3 (.lit 0) (.var 4) (.var 5)), (.int .i64 (.var 6))], 25⟩, ⟨[(.bool (.var 11)), (.sl 12 (.lit 0) (.var 13) (.var 14))], 50⟩, ⟨[(.int .i64 (.var 10))], 3⟩])))))))))))))))))
 (.ret (.tup [(.ptr 7 (.lit 0)), (.int .i64 (.lit 0))]) [⟨[(.sl 3 (.lit 0) (.var 4) (.var 5)), (.int .i64 (.var 6))], 25⟩]))))))
theorem S_cognates_apart : FnIs Tryd.prog n_cognates_apart [.sl, (.agg [.sl, (.int .i64)])] T_cognates_apart := ⟨Tryd.f51, [], 4000, Tryd.func51, by kernel_rfl⟩
abbrev n_cognates_Labels_1 : FuncId := 52
def T_cognates_Labels_1 : Tree :=
 (.load 2 (.lit 0) [.ptr] []
 (.load 3 (.lit 0) [(.int .i64), (.int .i64)] []
 (.call true 54 [(.ptr 4 (.lit 0)), (.int .i64 (.var 0)), (.int .i64 (.var 1))] (.agg [(.int .i64), (.int .i64)]) []
 (.call false 53 [(.agg [(.int .i64 (.var 7)), (.int .i64 (.var 8))]), (.agg [(.int .i64 (.var 5)), (.int .i64 (.var 6))])] (.int .i64) []
 (.ret (.bool (.cmp .leq (.var 9) (.lit 0))) [])))))
theorem S_cognates_Labels_1 : FnIs Tryd.prog n_cognates_Labels_1 [(.int .i64), (.int .i64), .ptr, .ptr] T_cognates_Labels_1 := ⟨Tryd.f52, [], 4000, Tryd.func52, by kernel_rfl⟩
abbrev n_cognates_compare : FuncId := 53
def T_cognates_compare : Tree :=
 (.alloc
 (.alloc
 (.call false 90 [(.int .u64 (.conv .u64 (.var 0))), (.int .u64 (.conv .u64 (.var 3)))] (.tup [(.int .u64), (.int .u64)]) [⟨[(.int .i64 (.var 0)), (.int .i64 (.var 1))], 27⟩, ⟨[(.int .i64 (.var 2)), (.int .i64 (.var 3))], 27⟩]
 (.call false 90 [(.int .u64 (.conv .u64 (.var 2))), (.int .u64 (.conv .u64 (.var 1)))] (.tup [(.int .u64), (.int .u64)]) [⟨[(.int .i64 (.var 0)), (.int .i64 (.var 1))], 27⟩, ⟨[(.int .i64 (.var 2)), (.int .i64 (.var 3))], 27⟩]
 (.ite (.cmp .eql (.var 4) (.var 6))
 (.ite (.cmp .lss (.var 4) (.var 6))
 (.ret (.int .i64 (.lit (-1))) [⟨[(.int .i64 (.var 0)), (.int .i64 (.var 1))], 27⟩, ⟨[(.int .i64 (.var 2)), (.int .i64 (.var 3))], 27⟩])
 (.ite (.cmp .lss (.var 5) (.var 7))
 (.ret (.int .i64 (.lit (-1))) [⟨[(.int .i64 (.var 0)), (.int .i64 (.var 1))], 27⟩, ⟨[(.int .i64 (.var 2)), (.int .i64 (.var 3))], 27⟩])
 (.ite (.pick (.cmp .eql (.var 4) (.var 6)) (.cmp .eql (.var 5) (.var 7)) (.lit false))
 (.ret (.int .i64 (.lit 0)) [⟨[(.int .i64 (.var 0)), (.int .i64 (.var 1))], 27⟩, ⟨[(.int .i64 (.var 2)), (.int .i64 (.var 3))], 27⟩])
 (.ret (.int .i64 (.lit 1)) [⟨[(.int .i64 (.var 0)), (.int .i64 (.var 1))], 27⟩, ⟨[(.int .i64 (.var 2)), (.int .i64 (.var 3))], 27⟩]))))
 (.ite (.pick (.cmp .lss (.var 4) (.var 6)) (.lit true) (.lit false))
 (.ret (.int .i64 (.lit (-1))) [⟨[(.int .i64 (.var 0)), (.int .i64 (.var 1))], 27⟩, ⟨[(.int .i64 (.var 2)), (.int .i64 (.var 3))], 27⟩])
 (.ite (.pick (.cmp .eql (.var 4) (.var 6)) (.cmp .eql (.var 5) (.var 7)) (.lit false))
 (.ret (.int .i64 (.lit 0)) [⟨[(.int .i64 (.var 0)), (.int .i64 (.var 1))], 27⟩, ⟨[(.int .i64 (.var 2)), (.int .i64 (.var 3))], 27⟩])
 (.ret (.int .i64 (.lit 1)) [⟨[(.int .i64 (.var 0)), (.int .i64 (.var 1))], 27⟩, ⟨[(.int .i64 (.var 2)), (.int .i64 (.var 3))], 27⟩]))))))))
theorem S_cognates_compare : FnIs Tryd.prog n_cognates_compare [(.agg [(.int .i64), (.int .i64)]), (.agg [(.int .i64), (.int .i64)])] T_cognates_compare := ⟨Tryd.f53, [], 4000, Tryd.func53, by kernel_rfl⟩
abbrev n___cognates_classes__ratio : FuncId := 54
def T___cognates_classes__ratio : Tree :=
 (.alloc
 (.chk (.some 0)
 (.chk (.some 0)
 (.chk (.pick (.cmp .geq (.var 1) (.lit 0)) (.pick (.cmp .lss (.var 1) (.lit 16)) (.some 0) (.lit false)) (.lit false))
 (.chk (.pick (.cmp .geq (.off (.var 1) 32 (.lit 1)) (.lit 0)) (.pick (.cmp .geq (.var 2) (.lit 0)) (.pick (.cmp .lss (.var 2) (.lit 16)) (.some 0) (.lit false)) (.lit false)) (.lit false))
 (.load 0 (.off (.var 2) 2 (.off (.var 1) 32 (.lit 1))) [(.int .i64), (.int .i64)] [⟨[(.int .i64 (.lit 0)), (.int .i64 (.lit 0))], 27⟩]
 (.alloc
 (.chk (.some 0)
 (.chk (.some 0)
 (.load 0 (.lit 513) [(.int .i64)] [⟨[(.int .i64 (.lit 0)), (.int .i64 (.lit 0))], 27⟩, ⟨[(.int .i64 (.var 3)), (.int .i64 (.var 4))], 95⟩]
 (.ite (.cmp .eql (.bin .mul .i64 (.var 5) (.var 4)) (.lit 0))
 (.ret (.agg [(.int .i64 (.lit 0)), (.int .i64 (.lit 1))]) [⟨[(.int .i64 (.lit 0)), (.int .i64 (.lit 1))], 27⟩, ⟨[(.int .i64 (.var 3)), (.int .i64 (.var 4))], 95⟩])
 (.chk (.some 0)
 (.chk (.some 0)
 (.load 0 (.lit 513) [(.int .i64)] [⟨[(.int .i64 (.lit 0)), (.int .i64 (.lit 0))], 27⟩, ⟨[(.int .i64 (.var 3)), (.int .i64 (.var 4))], 95⟩]
 (.ret (.agg [(.int .i64 (.var 3)), (.int .i64 (.bin .mul .i64 (.var 6) (.var 4)))]) [⟨[(.int .i64 (.var 3)), (.int .i64 (.bin .mul .i64 (.var 6) (.var 4)))], 27⟩, ⟨[(.int .i64 (.var 3)), (.int .i64 (.var 4))], 95⟩])))))))))))))))
theorem S___cognates_classes__ratio : FnIs Tryd.prog n___cognates_classes__ratio [.ptr, (.int .i64), (.int .i64)] T___cognates_classes__ratio := ⟨Tryd.f54, [], 4000, Tryd.func54, by kernel_rfl⟩
abbrev n___cognates_classes__pairs : FuncId := 55
def T___cognates_classes__pairs : Tree :=
 (.alloc
 (.ret (.fn (.func 91) [] [(.loc 0 0)]) [⟨[(.ptr 0 (.lit 0))], 88⟩]))
theorem S___cognates_classes__pairs : FnIs Tryd.prog n___cognates_classes__pairs [.ptr] T___cognates_classes__pairs := ⟨Tryd.f55, [], 4000, Tryd.func55, by kernel_rfl⟩
abbrev n___cognates_classes__join : FuncId := 61
def T___cognates_classes__join : Tree :=
 (.chk (.some 0)
 (.chk (.some 0)
 (.load 0 (.lit 0) [.sl] []
 (.chk (.cmp .geq (.var 4) (.lit 0))
 (.loop 0 [(.int .i64)] [(.int .i64 (.lit 0))] [] []
 (.ite (.cmp .lss (.var 6) (.var 4))
 (.chk (.pick (.cmp .geq (.var 6) (.lit 0)) (.pick (.cmp .lss (.var 6) (.var 4)) (.some 3) (.lit false)) (.lit false))
 (.load 3 (.off (.var 6) 1 (.lit 0)) [(.int .i64)] []
 (.ite (.cmp .eql (.var 7) (.var 2))
 (.chk (.some 0)
 (.chk (.some 0)
 (.load 0 (.lit 0) [.sl] []
 (.chk (.pick (.cmp .geq (.var 6) (.lit 0)) (.pick (.cmp .lss (.var 6) (.var 9)) (.some 8) (.lit false)) (.lit false))
 (.store false 8 (.off (.var 6) 1 (.lit 0)) [(.int .i64 (.var 1))] []
 (.again 0 0 [(.int .i64)] [(.int .i64 (.bin .add .i64 (.var 6) (.lit 1)))] []))))))
 (.again 0 0 [(.int .i64)] [(.int .i64 (.bin .add .i64 (.var 6) (.lit 1)))] []))))
 (.loop 0 [(.int .i64)] [(.int .i64 (.lit 0))] [] []
 (.ite (.cmp .lss (.var 7) (.lit 16))
 (.chk (.some 0)
 (.chk (.some 0)
 (.chk (.pick (.cmp .geq (.var 1) (.lit 0)) (.pick (.cmp .lss (.var 1) (.lit 16)) (.some 0) (.lit false)) (.lit false))
 (.chk (.pick (.cmp .geq (.off (.var 1) 32 (.lit 1)) (.lit 0)) (.pick (.cmp .geq (.var 7) (.lit 0)) (.pick (.cmp .lss (.var 7) (.lit 16)) (.some 0) (.lit false)) (.lit false)) (.lit false))
 (.chk (.pick (.cmp .geq (.off (.var 7) 2 (.off (.var 1) 32 (.lit 1))) (.lit 0)) (.some 0) (.lit false))
 (.load 0 (.off (.var 7) 2 (.off (.var 1) 32 (.lit 1))) [(.int .i64)] []
 (.chk (.some 0)
 (.chk (.some 0)
 (.chk (.pick (.cmp .geq (.var 2) (.lit 0)) (.pick (.cmp .lss (.var 2) (.lit 16)) (.some 0) (.lit false)) (.lit false))
 (.chk (.pick (.cmp .geq (.off (.var 2) 32 (.lit 1)) (.lit 0)) (.pick (.cmp .geq (.var 7) (.lit 0)) (.pick (.cmp .lss (.var 7) (.lit 16)) (.some 0) (.lit false)) (.lit false)) (.lit false))
 (.chk (.pick (.cmp .geq (.off (.var 7) 2 (.off (.var 2) 32 (.lit 1))) (.lit 0)) (.some 0) (.lit false))
 (.load 0 (.off (.var 7) 2 (.off (.var 2) 32 (.lit 1))) [(.int .i64)] []
 (.chk (.some 0)
 (.chk (.some 0)
 (.chk (.pick (.cmp .geq (.var 1) (.lit 0)) (.pick (.cmp .lss (.var 1) (.lit 16)) (.some 0) (.lit false)) (.lit false))
 (.chk (.pick (.cmp .geq (.off (.var 1) 32 (.lit 1)) (.lit 0)) (.pick (.cmp .geq (.var 7) (.lit 0)) (.pick (.cmp .lss (.var 7) (.lit 16)) (.some 0) (.lit false)) (.lit false)) (.lit false))
 (.chk (.pick (.cmp .geq (.off (.var 7) 2 (.off (.var 1) 32 (.lit 1))) (.lit 0)) (.some 0) (.lit false))
 (.store false 0 (.off (.var 7) 2 (.off (.var 1) 32 (.lit 1))) [(.int .i64 (.bin .add .i64 (.var 8) (.var 9)))] []
 (.chk (.some 0)
 (.chk (.some 0)
 (.chk (.pick (.cmp .geq (.var 1) (.lit 0)) (.pick (.cmp .lss (.var 1) (.lit 16)) (.some 0) (.lit false)) (.lit false))
 (.chk (.pick (.cmp .geq (.off (.var 1) 32 (.lit 1)) (.lit 0)) (.pick (.cmp .geq (.var 7) (.lit 0)) (.pick (.cmp .lss (.var 7) (.lit 16)) (.some 0) (.lit false)) (.lit false)) (.lit false))
 (.chk (.pick (.cmp .geq (.off (.var 7) 2 (.off (.var 1) 32 (.lit 1))) (.lit 0)) (.some 0) (.lit false))
 (.load 0 (.off (.lit 1) 1 (.off (.var 7) 2 (.off (.var 1) 32 (.lit 1)))) [(.int .i64)] []
 (.chk (.some 0)
 (.chk (.some 0)
 (.chk (.pick (.cmp .geq (.var 2) (.lit 0)) (.pick (.cmp .lss (.var 2) (.lit 16)) (.some 0) (.lit false)) (.lit false))
 (.chk (.pick (.cmp .geq (.off (.var 2) 32 (.lit 1)) (.lit 0)) (.pick (.cmp .geq (.var 7) (.lit 0)) (.pick (.cmp .lss (.var 7) (.lit 16)) (.some 0) (.lit false)) (.lit false)) (.lit false))
 (.chk (.pick (.cmp .geq (.off (.var 7) 2 (.off (.var 2) 32 (.lit 1))) (.lit 0)) (.some 0) (.lit false))
 (.load 0 (.off (.lit 1) 1 (.off (.var 7) 2 (.off (.var 2) 32 (.lit 1)))) [(.int .i64)] []
 (.chk (.some 0)
 (.chk (.some 0)
 (.chk (.pick (.cmp .geq (.var 1) (.lit 0)) (.pick (.cmp .lss (.var 1) (.lit 16)) (.some 0) (.lit false)) (.lit false))
 (.chk (.pick (.cmp .geq (.off (.var 1) 32 (.lit 1)) (.lit 0)) (.pick (.cmp .geq (.var 7) (.lit 0)) (.pick (.cmp .lss (.var 7) (.lit 16)) (.some 0) (.lit false)) (.lit false)) (.lit false))
 (.chk (.pick (.cmp .geq (.off (.var 7) 2 (.off (.var 1) 32 (.lit 1))) (.lit 0)) (.some 0) (.lit false))
 (.store false 0 (.off (.lit 1) 1 (.off (.var 7) 2 (.off (.var 1) 32 (.lit 1)))) [(.int .i64 (.bin .add .i64 (.var 10) (.var 11)))] []
 (.chk (.some 0)
 (.chk (.some 0)
 (.chk (.pick (.cmp .geq (.var 1) (.lit 0)) (.pick (.cmp .lss (.var 1) (.lit 16)) (.some 0) (.lit false)) (.lit false))
 (.chk (.pick (.cmp .geq (.off (.var 1) 32 (.lit 1)) (.lit 0)) (.pick (.cmp .geq (.var 7) (.lit 0)) (.pick (.cmp .lss (.var 7) (.lit 16)) (.some 0) (.lit false)) (.lit false)) (.lit false))
 (.load 0 (.off (.var 7) 2 (.off (.var 1) 32 (.lit 1))) [(.int .i64), (.int .i64)] []
 (.chk (.some 0)
 (.chk (.some 0)
 (.chk (.pick (.cmp .geq (.var 7) (.lit 0)) (.pick (.cmp .lss (.var 7) (.lit 16)) (.some 0) (.lit false)) (.lit false))
 (.chk (.pick (.cmp .geq (.off (.var 7) 32 (.lit 1)) (.lit 0)) (.pick (.cmp .geq (.var 1) (.lit 0)) (.pick (.cmp .lss (.var 1) (.lit 16)) (.some 0) (.lit false)) (.lit false)) (.lit false))
 (.store false 0 (.off (.var 1) 2 (.off (.var 7) 32 (.lit 1))) [(.int .i64 (.var 12)), (.int .i64 (.var 13))] []
 (.again 0 0 [(.int .i64)] [(.int .i64 (.bin .add .i64 (.var 7) (.lit 1)))] [])))))))))))))))))))))))))))))))))))))))))))))))
 (.ret (.tup []) [])))))))))
theorem S___cognates_classes__join : FnIs Tryd.prog n___cognates_classes__join [.ptr, (.int .i64), (.int .i64)] T___cognates_classes__join := ⟨Tryd.f61, [], 4000, Tryd.func61, by kernel_rfl⟩
abbrev n_cognates_wrong : FuncId := 63
def T_cognates_wrong : Tree :=
 (.chk (.cmp .geq (.var 1) (.lit 0))
 (.ite (.cmp .gtr (.var 1) (.lit 256))
 (.ret (.int .i64 (.lit 12)) [])
 (.chk (.cmp .geq (.var 4) (.lit 0))
 (.ite (.cmp .gtr (.var 4) (.lit 256))
 (.ret (.int .i64 (.lit 12)) [])
 (.chk (.cmp .geq (.var 1) (.lit 0))
 (.chk (.cmp .geq (.var 4) (.lit 0))
 (.ite (.cmp .neq (.var 1) (.var 4))
 (.ret (.int .i64 (.lit 2)) [])
 (.call false 74 [(.sl 0 (.lit 0) (.var 1) (.var 2)), (.cst (.func (.func 94) #[] #[]))] .bool []
 (.ite (.var 6)
 (.ret (.int .i64 (.lit 2)) [])
 (.call false 74 [(.sl 3 (.lit 0) (.var 4) (.var 5)), (.cst (.func (.func 94) #[] #[]))] .bool []
 (.ite (.var 7)
 (.ret (.int .i64 (.lit 2)) [])
 (.ret (.int .i64 (.lit 0)) []))))))))))))
theorem S_cognates_wrong : FnIs Tryd.prog n_cognates_wrong [.sl, .sl] T_cognates_wrong := ⟨Tryd.f63, [], 4000, Tryd.func63, by kernel_rfl⟩
abbrev n_cognates_counted : FuncId := 64
def T_cognates_counted : Tree :=
 (.alloc
 (.ext false ⟨(.makeMap 109 none), 109, []⟩ .val [⟨[(.int .i64 (.lit 0)), (.cst (.map none)), (.cst (.map none)), (.cst (.map none))], 113⟩]
 (.ext false ⟨(.makeMap 110 none), 110, []⟩ .val [⟨[(.int .i64 (.lit 0)), (.cst (.map none)), (.cst (.map none)), (.cst (.map none))], 113⟩]
 (.ext false ⟨(.makeMap 110 none), 110, []⟩ .val [⟨[(.int .i64 (.lit 0)), (.cst (.map none)), (.cst (.map none)), (.cst (.map none))], 113⟩]
 (.alloc
 (.chk (.cmp .geq (.var 1) (.lit 0))
 (.loop 0 [(.int .i64), (.int .i64), .val, .val, .val] [(.int .i64 (.lit 0)), (.int .i64 (.lit 0)), (.val 6), (.val 7), (.val 8)] [⟨[(.int .i64 (.lit 0)), (.cst (.map none)), (.cst (.map none)), (.cst (.map none))], 113⟩, ⟨[(.int .i64 (.lit 0)), (.val 6), (.val 7), (.val 8)], 113⟩] [⟨[(.int .i64 (.lit 0)), (.cst (.map none)), (.cst (.map none)), (.cst (.map none))], 113⟩, ⟨[(.int .i64 (.var 10)), (.val 11), (.val 12), (.val 13)], 113⟩]
 (.ite (.cmp .lss (.var 9) (.var 1))
 (.chk (.pick (.cmp .geq (.var 9) (.lit 0)) (.pick (.cmp .lss (.var 9) (.var 1)) (.some 0) (.lit false)) (.lit false))
 (.load 0 (.off (.var 9) 1 (.lit 0)) [(.int .i64)] [⟨[(.int .i64 (.lit 0)), (.cst (.map none)), (.cst (.map none)), (.cst (.map none))], 113⟩, ⟨[(.int .i64 (.var 10)), (.val 11), (.val 12), (.val 13)], 113⟩]
 (.ite (.cmp .lss (.var 14) (.lit 0))
 (.again 0 2 [(.int .i64), (.int .i64), .val, .val, .val] [(.int .i64 (.bin .add .i64 (.var 9) (.lit 1))), (.int .i64 (.var 10)), (.val 11), (.val 12), (.val 13)] [⟨[(.int .i64 (.lit 0)), (.cst (.map none)), (.cst (.map none)), (.cst (.map none))], 113⟩, ⟨[(.int .i64 (.var 10)), (.val 11), (.val 12), (.val 13)], 113⟩])
 (.chk (.pick (.cmp .geq (.var 9) (.lit 0)) (.pick (.cmp .lss (.var 9) (.var 4)) (.some 3) (.lit false)) (.lit false))
 (.load 3 (.off (.var 9) 1 (.lit 0)) [(.int .i64)] [⟨[(.int .i64 (.lit 0)), (.cst (.map none)), (.cst (.map none)), (.cst (.map none))], 113⟩, ⟨[(.int .i64 (.var 10)), (.val 11), (.val 12), (.val 13)], 113⟩]
 (.ite (.cmp .lss (.var 15) (.lit 0))
 (.again 0 2 [(.int .i64), (.int .i64), .val, .val, .val] [(.int .i64 (.bin .add .i64 (.var 9) (.lit 1))), (.int .i64 (.var 10)), (.val 11), (.val 12), (.val 13)] [⟨[(.int .i64 (.lit 0)), (.cst (.map none)), (.cst (.map none)), (.cst (.map none))], 113⟩, ⟨[(.int .i64 (.var 10)), (.val 11), (.val 12), (.val 13)], 113⟩])
 (.chk (.pick (.cmp .geq (.var 9) (.lit 0)) (.pick (.cmp .lss (.var 9) (.var 1)) (.some 0) (.lit false)) (.lit false))
 (.load 0 (.off (.var 9) 1 (.lit 0)) [(.int .i64)] [⟨[(.int .i64 (.lit 0)), (.cst (.map none)), (.cst (.map none)), (.cst (.map none))], 113⟩, ⟨[(.int .i64 (.bin .add .i64 (.var 10) (.lit 1))), (.val 11), (.val 12), (.val 13)], 113⟩]
 (.chk (.pick (.cmp .geq (.var 9) (.lit 0)) (.pick (.cmp .lss (.var 9) (.var 4)) (.some 3) (.lit false)) (.lit false))
 (.load 3 (.off (.var 9) 1 (.lit 0)) [(.int .i64)] [⟨[(.int .i64 (.lit 0)), (.cst (.map none)), (.cst (.map none)), (.cst (.map none))], 113⟩, ⟨[(.int .i64 (.bin .add .i64 (.var 10) (.lit 1))), (.val 11), (.val 12), (.val 13)], 113⟩]
 (.extp ⟨(.lookup 109 (.tmp 0) (.tmp 0) false), 2, [(.val 11), (.agg [(.int .i64 (.var 16)), (.int .i64 (.var 17))])]⟩ (.int .i64) [⟨[(.int .i64 (.lit 0)), (.cst (.map none)), (.cst (.map none)), (.cst (.map none))], 113⟩, ⟨[(.int .i64 (.bin .add .i64 (.var 10) (.lit 1))), (.val 11), (.val 12), (.val 13)], 113⟩]
 (.exk ⟨(.mapEntry 109 (.tmp 0) (.tmp 0)), 0, [(.val 11), (.agg [(.int .i64 (.var 16)), (.int .i64 (.var 17))])]⟩ (.tup [(.int .i64), (.int .i64)]) [⟨[(.int .i64 (.lit 0)), (.cst (.map none)), (.cst (.map none)), (.cst (.map none))], 113⟩, ⟨[(.int .i64 (.bin .add .i64 (.var 10) (.lit 1))), (.val 11), (.val 12), (.val 13)], 113⟩] ⟨(.lookup 109 (.tmp 0) (.tmp 0) false), 2, [(.val 11), (.agg [(.int .i64 (.var 16)), (.int .i64 (.var 17))])]⟩
 (.extu false ⟨(.entryStore 109 (.tmp 0) (.tmp 0) (.tmp 0)), 0, [(.val 11), (.int .i64 (.var 20)), (.int .i64 (.bin .add .i64 (.var 18) (.lit 1)))]⟩ [⟨[(.int .i64 (.lit 0)), (.cst (.map none)), (.cst (.map none)), (.cst (.map none))], 113⟩, ⟨[(.int .i64 (.bin .add .i64 (.var 10) (.lit 1))), (.val 11), (.val 12), (.val 13)], 113⟩]
 (.chk (.pick (.cmp .geq (.var 9) (.lit 0)) (.pick (.cmp .lss (.var 9) (.var 1)) (.some 0) (.lit false)) (.lit false))
 (.load 0 (.off (.var 9) 1 (.lit 0)) [(.int .i64)] [⟨[(.int .i64 (.lit 0)), (.cst (.map none)), (.cst (.map none)), (.cst (.map none))], 113⟩, ⟨[(.int .i64 (.bin .add .i64 (.var 10) (.lit 1))), (.val 11), (.val 12), (.val 13)], 113⟩]
 (.extp ⟨(.lookup 110 (.tmp 0) (.tmp 0) false), 2, [(.val 12), (.int .i64 (.var 21))]⟩ (.int .i64) [⟨[(.int .i64 (.lit 0)), (.cst (.map none)), (.cst (.map none)), (.cst (.map none))], 113⟩, ⟨[(.int .i64 (.bin .add .i64 (.var 10) (.lit 1))), (.val 11), (.val 12), (.val 13)], 113⟩]
 (.extu false ⟨(.mapUpdate 110 (.tmp 0) (.tmp 0) (.tmp 0)), 0, [(.val 12), (.int .i64 (.var 21)), (.int .i64 (.bin .add .i64 (.var 22) (.lit 1)))]⟩ [⟨[(.int .i64 (.lit 0)), (.cst (.map none)), (.cst (.map none)), (.cst (.map none))], 113⟩, ⟨[(.int .i64 (.bin .add .i64 (.var 10) (.lit 1))), (.val 11), (.val 12), (.val 13)], 113⟩]
 (.chk (.pick (.cmp .geq (.var 9) (.lit 0)) (.pick (.cmp .lss (.var 9) (.var 4)) (.some 3) (.lit false)) (.lit false))
 (.load 3 (.off (.var 9) 1 (.lit 0)) [(.int .i64)] [⟨[(.int .i64 (.lit 0)), (.cst (.map none)), (.cst (.map none)), (.cst (.map none))], 113⟩, ⟨[(.int .i64 (.bin .add .i64 (.var 10) (.lit 1))), (.val 11), (.val 12), (.val 13)], 113⟩]
 (.extp ⟨(.lookup 110 (.tmp 0) (.tmp 0) false), 2, [(.val 13), (.int .i64 (.var 23))]⟩ (.int .i64) [⟨[(.int .i64 (.lit 0)), (.cst (.map none)), (.cst (.map none)), (.cst (.map none))], 113⟩, ⟨[(.int .i64 (.bin .add .i64 (.var 10) (.lit 1))), (.val 11), (.val 12), (.val 13)], 113⟩]
 (.extu false ⟨(.mapUpdate 110 (.tmp 0) (.tmp 0) (.tmp 0)), 0, [(.val 13), (.int .i64 (.var 23)), (.int .i64 (.bin .add .i64 (.var 24) (.lit 1)))]⟩ [⟨[(.int .i64 (.lit 0)), (.cst (.map none)), (.cst (.map none)), (.cst (.map none))], 113⟩, ⟨[(.int .i64 (.bin .add .i64 (.var 10) (.lit 1))), (.val 11), (.val 12), (.val 13)], 113⟩]
 (.again 0 2 [(.int .i64), (.int .i64), .val, .val, .val] [(.int .i64 (.bin .add .i64 (.var 9) (.lit 1))), (.int .i64 (.bin .add .i64 (.var 10) (.lit 1))), (.val 11), (.val 12), (.val 13)] [⟨[(.int .i64 (.lit 0)), (.cst (.map none)), (.cst (.map none)), (.cst (.map none))], 113⟩, ⟨[(.int .i64 (.bin .add .i64 (.var 10) (.lit 1))), (.val 11), (.val 12), (.val 13)], 113⟩]))))))))))))))))))))))
 (.ret (.agg [(.int .i64 (.var 10)), (.val 11), (.val 12), (.val 13)]) [⟨[(.int .i64 (.var 10)), (.val 11), (.val 12), (.val 13)], 113⟩, ⟨[(.int .i64 (.var 10)), (.val 11), (.val 12), (.val 13)], 113⟩])))))))))
theorem S_cognates_counted : FnIs Tryd.prog n_cognates_counted [.sl, .sl] T_cognates_counted := ⟨Tryd.f64, [], 4000, Tryd.func64, by kernel_rfl⟩
abbrev n_cognates_pairs : FuncId := 65
def T_cognates_pairs : Tree :=
 (.ret (.int .i64 (.bin .quo .i64 (.bin .mul .i64 (.var 0) (.bin .sub .i64 (.var 0) (.lit 1))) (.lit 2))) [])
theorem S_cognates_pairs : FnIs Tryd.prog n_cognates_pairs [(.int .i64)] T_cognates_pairs := ⟨Tryd.f65, [], 4000, Tryd.func65, by kernel_rfl⟩
abbrev n_cognates_lowest : FuncId := 66
def T_cognates_lowest : Tree :=
 (.alloc
 (.loop 0 [(.int .i64), (.int .i64)] [(.int .i64 (.var 0)), (.int .i64 (.var 1))] [⟨[(.int .i64 (.lit 0)), (.int .i64 (.lit 0))], 27⟩] [⟨[(.int .i64 (.lit 0)), (.int .i64 (.lit 0))], 27⟩]
 (.ite (.cmp .neq (.var 3) (.lit 0))
 (.chk (.cmp .neq (.var 3) (.lit 0))
 (.again 0 1 [(.int .i64), (.int .i64)] [(.int .i64 (.var 3)), (.int .i64 (.bin .rem .i64 (.var 2) (.var 3)))] [⟨[(.int .i64 (.lit 0)), (.int .i64 (.lit 0))], 27⟩]))
 (.chk (.cmp .neq (.var 2) (.lit 0))
 (.chk (.cmp .neq (.var 2) (.lit 0))
 (.ret (.agg [(.int .i64 (.bin .quo .i64 (.var 0) (.var 2))), (.int .i64 (.bin .quo .i64 (.var 1) (.var 2)))]) [⟨[(.int .i64 (.bin .quo .i64 (.var 0) (.var 2))), (.int .i64 (.bin .quo .i64 (.var 1) (.var 2)))], 27⟩]))))))
theorem S_cognates_lowest : FnIs Tryd.prog n_cognates_lowest [(.int .i64), (.int .i64)] T_cognates_lowest := ⟨Tryd.f66, [], 4000, Tryd.func66, by kernel_rfl⟩
abbrev n_cognates_plus : FuncId := 70
def T_cognates_plus : Tree :=
 (.alloc
 (.alloc
 (.alloc
 (.call false 66 [(.int .i64 (.var 1)), (.int .i64 (.var 3))] (.agg [(.int .i64), (.int .i64)]) [⟨[(.int .i64 (.var 0)), (.int .i64 (.var 1))], 27⟩, ⟨[(.int .i64 (.var 2)), (.int .i64 (.var 3))], 27⟩, ⟨[(.int .i64 (.lit 0)), (.int .i64 (.lit 0))], 27⟩]
 (.alloc
 (.call false 66 [(.int .i64 (.bin .add .i64 (.bin .mul .i64 (.var 0) (.var 5)) (.bin .mul .i64 (.var 2) (.var 4)))), (.int .i64 (.bin .mul .i64 (.var 1) (.var 5)))] (.agg [(.int .i64), (.int .i64)]) [⟨[(.int .i64 (.var 0)), (.int .i64 (.var 1))], 27⟩, ⟨[(.int .i64 (.var 2)), (.int .i64 (.var 3))], 27⟩, ⟨[(.int .i64 (.lit 0)), (.int .i64 (.lit 0))], 27⟩, ⟨[(.int .i64 (.var 4)), (.int .i64 (.var 5))], 27⟩]
 (.ret (.agg [(.int .i64 (.var 6)), (.int .i64 (.var 7))]) [⟨[(.int .i64 (.var 0)), (.int .i64 (.var 1))], 27⟩, ⟨[(.int .i64 (.var 2)), (.int .i64 (.var 3))], 27⟩, ⟨[(.int .i64 (.var 6)), (.int .i64 (.var 7))], 27⟩, ⟨[(.int .i64 (.var 4)), (.int .i64 (.var 5))], 27⟩])))))))
theorem S_cognates_plus : FnIs Tryd.prog n_cognates_plus [(.agg [(.int .i64), (.int .i64)]), (.agg [(.int .i64), (.int .i64)])] T_cognates_plus := ⟨Tryd.f70, [], 4000, Tryd.func70, by kernel_rfl⟩
abbrev n_slices_IndexFunc___api_Form_api_Form_ : FuncId := 73
def T_slices_IndexFunc___api_Form_api_Form_ : Tree :=
 (.chk (.cmp .geq (.var 1) (.lit 0))
 (.loop 0 [(.int .i64), (.int .i64)] [(.int .i64 (.lit 0)), (.int .i64 (.lit 0))] [] []
 (.ite (.cmp .lss (.var 5) (.var 1))
 (.chk (.pick (.cmp .geq (.var 5) (.lit 0)) (.pick (.cmp .lss (.var 5) (.var 1)) (.some 0) (.lit false)) (.lit false))
 (.load 0 (.off (.var 5) 2 (.lit 0)) [.bool, .sl] []
 (.callv false (.val 3) [(.agg [(.bool (.var 6)), (.sl 7 (.lit 0) (.var 8) (.var 9))])] .bool []
 (.ite (.var 10)
 (.ret (.int .i64 (.var 5)) [])
 (.again 0 0 [(.int .i64), (.int .i64)] [(.int .i64 (.var 4)), (.int .i64 (.bin .add .i64 (.var 5) (.lit 1)))] [])))))
 (.ret (.int .i64 (.lit (-1))) []))))
theorem S_slices_IndexFunc___api_Form_api_Form_ : FnIs Tryd.prog n_slices_IndexFunc___api_Form_api_Form_ [.sl, .val] T_slices_IndexFunc___api_Form_api_Form_ := ⟨Tryd.f73, [], 4000, Tryd.func73, by kernel_rfl⟩
abbrev n_slices_ContainsFunc___int_int_ : FuncId := 74
def T_slices_ContainsFunc___int_int_ : Tree :=
 (.call false 98 [(.sl 0 (.lit 0) (.var 1) (.var 2)), (.val 3)] (.int .i64) []
 (.ret (.bool (.cmp .geq (.var 4) (.lit 0))) []))
theorem S_slices_ContainsFunc___int_int_ : FnIs Tryd.prog n_slices_ContainsFunc___int_int_ [.sl, .val] T_slices_ContainsFunc___int_int_ := ⟨Tryd.f74, [], 4000, Tryd.func74, by kernel_rfl⟩
abbrev n_cognates_Shared_1 : FuncId := 75
def T_cognates_Shared_1 : Tree :=
 (.ret (.bool (.cmp .lss (.var 0) (.lit (-1)))) [])
theorem S_cognates_Shared_1 : FnIs Tryd.prog n_cognates_Shared_1 [(.int .i64)] T_cognates_Shared_1 := ⟨Tryd.f75, [], 4000, Tryd.func75, by kernel_rfl⟩
abbrev n_cognates_hidden : FuncId := 83
def T_cognates_hidden : Tree :=
 (.call false 34 [(.sl 0 (.lit 0) (.var 1) (.var 2)), (.cst (.func (.func 102) #[] #[]))] .bool []
 (.ret (.bool (.var 3)) []))
theorem S_cognates_hidden : FnIs Tryd.prog n_cognates_hidden [.sl] T_cognates_hidden := ⟨Tryd.f83, [], 4000, Tryd.func83, by kernel_rfl⟩
abbrev n_cognates_words : FuncId := 84
def T_cognates_words : Tree :=
 (.chk (.cmp .geq (.var 1) (.lit 0))
 (.loop 0 [(.int .i64), (.int .i64)] [(.int .i64 (.lit 0)), (.int .i64 (.lit 0))] [] []
 (.ite (.cmp .lss (.var 4) (.var 1))
 (.chk (.pick (.cmp .geq (.var 4) (.lit 0)) (.pick (.cmp .lss (.var 4) (.var 1)) (.some 0) (.lit false)) (.lit false))
 (.load 0 (.off (.var 4) 2 (.lit 0)) [.bool, .sl] []
 (.alloc
 (.call false 103 [(.sl 6 (.lit 0) (.var 7) (.var 8))] (.int .i64) [⟨[(.bool (.var 5)), (.sl 6 (.lit 0) (.var 7) (.var 8))], 50⟩]
 (.ite (.cmp .neq (.var 9) (.lit 0))
 (.ret (.int .i64 (.var 9)) [⟨[(.bool (.var 5)), (.sl 6 (.lit 0) (.var 7) (.var 8))], 50⟩])
 (.again 0 0 [(.int .i64), (.int .i64)] [(.int .i64 (.var 3)), (.int .i64 (.bin .add .i64 (.var 4) (.lit 1)))] [⟨[(.bool (.var 5)), (.sl 6 (.lit 0) (.var 7) (.var 8))], 50⟩]))))))
 (.ret (.int .i64 (.lit 0)) []))))
theorem S_cognates_words : FnIs Tryd.prog n_cognates_words [.sl] T_cognates_words := ⟨Tryd.f84, [], 4000, Tryd.func84, by kernel_rfl⟩
abbrev n_cognates_isLimit : FuncId := 85
def T_cognates_isLimit : Tree :=
 (.alloc
 (.ret (.bool (.pick (.cmp .gtr (.var 1) (.lit 0)) (.cmp .geq (.var 0) (.lit 0)) (.lit false))) [⟨[(.int .i64 (.var 0)), (.int .i64 (.var 1))], 27⟩]))
theorem S_cognates_isLimit : FnIs Tryd.prog n_cognates_isLimit [(.agg [(.int .i64), (.int .i64)])] T_cognates_isLimit := ⟨Tryd.f85, [], 4000, Tryd.func85, by kernel_rfl⟩
abbrev n_math_bits_Mul64 : FuncId := 90
def T_math_bits_Mul64 : Tree :=
 (.ret (.tup [(.int .u64 (.bin .add .u64 (.bin .add .u64 (.bin .mul .u64 (.bin .shr .u64 (.var 0) (.lit 32)) (.bin .shr .u64 (.var 1) (.lit 32))) (.bin .shr .u64 (.bin .add .u64 (.bin .mul .u64 (.bin .shr .u64 (.var 0) (.lit 32)) (.bin .and .u64 (.var 1) (.lit 4294967295))) (.bin .shr .u64 (.bin .mul .u64 (.bin .and .u64 (.var 0) (.lit 4294967295)) (.bin .and .u64 (.var 1) (.lit 4294967295))) (.lit 32))) (.lit 32))) (.bin .shr .u64 (.bin .add .u64 (.bin .and .u64 (.bin .add .u64 (.bin .mul .u64 (.bin .shr .u64 (.var 0) (.lit 32)) (.bin .and .u64 (.var 1) (.lit 4294967295))) (.bin .shr .u64 (.bin .mul .u64 (.bin .and .u64 (.var 0) (.lit 4294967295)) (.bin .and .u64 (.var 1) (.lit 4294967295))) (.lit 32))) (.lit 4294967295)) (.bin .mul .u64 (.bin .and .u64 (.var 0) (.lit 4294967295)) (.bin .shr .u64 (.var 1) (.lit 32)))) (.lit 32)))), (.int .u64 (.bin .mul .u64 (.var 0) (.var 1)))]) [])
theorem S_math_bits_Mul64 : FnIs Tryd.prog n_math_bits_Mul64 [(.int .u64), (.int .u64)] T_math_bits_Mul64 := ⟨Tryd.f90, [], 4000, Tryd.func90, by kernel_rfl⟩
abbrev n___cognates_classes__pairs_1 : FuncId := 91
def T___cognates_classes__pairs_1 : Tree :=
 (.load 1 (.lit 0) [.ptr] []
 (.chk (.some 2)
 (.chk (.some 2)
 (.load 2 (.lit 0) [.sl] []
 (.chk (.cmp .geq (.var 4) (.lit 0))
 (.loop 0 [(.int .i64)] [(.int .i64 (.lit 0))] [] []
 (.ite (.cmp .lss (.var 6) (.var 4))
 (.chk (.pick (.cmp .geq (.var 6) (.lit 0)) (.pick (.cmp .lss (.var 6) (.var 4)) (.some 3) (.lit false)) (.lit false))
 (.load 3 (.off (.var 6) 1 (.lit 0)) [(.int .i64)] []
 (.loop 1 [(.int .i64)] [(.int .i64 (.bin .add .i64 (.var 6) (.lit 1)))] [] []
 (.load 1 (.lit 0) [.ptr] []
 (.chk (.some 9)
 (.chk (.some 9)
 (.load 9 (.lit 0) [.sl] []
 (.chk (.cmp .geq (.var 11) (.lit 0))
 (.ite (.pick (.cmp .lss (.var 8) (.var 11)) (.cmp .eql (.var 7) (.var 6)) (.lit false))
 (.load 1 (.lit 0) [.ptr] []
 (.chk (.some 13)
 (.chk (.some 13)
 (.load 13 (.lit 0) [.sl] []
 (.chk (.pick (.cmp .geq (.var 8) (.lit 0)) (.pick (.cmp .lss (.var 8) (.var 15)) (.some 14) (.lit false)) (.lit false))
 (.load 14 (.off (.var 8) 1 (.lit 0)) [(.int .i64)] []
 (.ite (.cmp .eql (.var 17) (.var 8))
 (.callv false (.val 0) [(.int .i64 (.var 6)), (.int .i64 (.var 8))] .bool []
 (.ite (.not (.var 18))
 (.ret (.tup []) [])
 (.again 1 0 [(.int .i64)] [(.int .i64 (.bin .add .i64 (.var 8) (.lit 1)))] [])))
 (.again 1 0 [(.int .i64)] [(.int .i64 (.bin .add .i64 (.var 8) (.lit 1)))] []))))))))
 (.again 0 0 [(.int .i64)] [(.int .i64 (.bin .add .i64 (.var 6) (.lit 1)))] []))))))))))
 (.ret (.tup []) []))))))))
theorem S___cognates_classes__pairs_1 : FnIs Tryd.prog n___cognates_classes__pairs_1 [.val, .ptr] T___cognates_classes__pairs_1 := ⟨Tryd.f91, [], 4000, Tryd.func91, by kernel_rfl⟩
abbrev n_cognates_wrong_1 : FuncId := 94
def T_cognates_wrong_1 : Tree :=
 (.ret (.bool (.cmp .lss (.var 0) (.lit (-1)))) [])
theorem S_cognates_wrong_1 : FnIs Tryd.prog n_cognates_wrong_1 [(.int .i64)] T_cognates_wrong_1 := ⟨Tryd.f94, [], 4000, Tryd.func94, by kernel_rfl⟩
abbrev n_slices_IndexFunc___int_int_ : FuncId := 98
def T_slices_IndexFunc___int_int_ : Tree :=
 (.chk (.cmp .geq (.var 1) (.lit 0))
 (.loop 0 [(.int .i64), (.int .i64)] [(.int .i64 (.lit 0)), (.int .i64 (.lit 0))] [] []
 (.ite (.cmp .lss (.var 5) (.var 1))
 (.chk (.pick (.cmp .geq (.var 5) (.lit 0)) (.pick (.cmp .lss (.var 5) (.var 1)) (.some 0) (.lit false)) (.lit false))
 (.load 0 (.off (.var 5) 1 (.lit 0)) [(.int .i64)] []
 (.callv false (.val 3) [(.int .i64 (.var 6))] .bool []
 (.ite (.var 7)
 (.ret (.int .i64 (.var 5)) [])
 (.again 0 0 [(.int .i64), (.int .i64)] [(.int .i64 (.var 4)), (.int .i64 (.bin .add .i64 (.var 5) (.lit 1)))] [])))))
 (.ret (.int .i64 (.lit (-1))) []))))
theorem S_slices_IndexFunc___int_int_ : FnIs Tryd.prog n_slices_IndexFunc___int_int_ [.sl, .val] T_slices_IndexFunc___int_int_ := ⟨Tryd.f98, [], 4000, Tryd.func98, by kernel_rfl⟩
abbrev n_cognates_hidden_1 : FuncId := 102
def T_cognates_hidden_1 : Tree :=
 (.alloc
 (.ite (.not (.var 0))
 (.chk (.cmp .geq (.var 2) (.lit 0))
 (.ret (.bool (.cmp .gtr (.var 2) (.lit 0))) [⟨[(.bool (.var 0)), (.sl 1 (.lit 0) (.var 2) (.var 3))], 50⟩]))
 (.ret (.bool (.lit false)) [⟨[(.bool (.var 0)), (.sl 1 (.lit 0) (.var 2) (.var 3))], 50⟩])))
theorem S_cognates_hidden_1 : FnIs Tryd.prog n_cognates_hidden_1 [(.agg [.bool, .sl])] T_cognates_hidden_1 := ⟨Tryd.f102, [], 4000, Tryd.func102, by kernel_rfl⟩
end Go.Proofs.YthabfpagilbplaaDoor
