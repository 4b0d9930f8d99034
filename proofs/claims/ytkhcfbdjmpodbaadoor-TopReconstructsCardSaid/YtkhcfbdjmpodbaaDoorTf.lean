/- The trees of this seat's functions, printed by a program of mine (SyGen), checked here by the kernel. -/
import Derived.Test.YtkhcfbdjmpodbaaDoorSyDef
import Derived.Test.YtkhcfbdjmpodbaaDoorProg
import Derived.KernelRfl
set_option maxRecDepth 100000
namespace Go.Proofs.YtkhcfbdjmpodbaaDoor
open Go Go.Sy
abbrev n_multi_Progressive : FuncId := 14
def T_multi_Progressive : Tree :=
 (.alloc
 (.alloc
 (.alloc
 (.call false 26 [(.slc 2 0 2 2)] (.int .i64) [⟨[(.sl 0 (.lit 0) (.var 1) (.var 2))], 57⟩, ⟨[(.sl 3 (.lit 0) (.var 4) (.var 5)), (.int .i64 (.var 6))], 28⟩, ⟨[(.fn (.func 27) [] [(.loc 1 0)]), (.fn (.func 28) [] [(.loc 0 0)])], 83⟩]
 (.ite (.cmp .neq (.var 7) (.lit 0))
 (.ret (.tup [(.cst (.slice none 0 0)), (.int .i64 (.var 7))]) [⟨[(.sl 0 (.lit 0) (.var 1) (.var 2))], 57⟩, ⟨[(.sl 3 (.lit 0) (.var 4) (.var 5)), (.int .i64 (.var 6))], 28⟩, ⟨[(.fn (.func 27) [] [(.loc 1 0)]), (.fn (.func 28) [] [(.loc 0 0)])], 83⟩])
 (.call false 30 [(.sl 0 (.lit 0) (.var 1) (.var 2)), (.agg [(.sl 3 (.lit 0) (.var 4) (.var 5)), (.int .i64 (.var 6))])] .val [⟨[(.sl 0 (.lit 0) (.var 1) (.var 2))], 57⟩, ⟨[(.sl 3 (.lit 0) (.var 4) (.var 5)), (.int .i64 (.var 6))], 28⟩, ⟨[(.fn (.func 27) [] [(.loc 1 0)]), (.fn (.func 28) [] [(.loc 0 0)])], 83⟩]
 (.chk (.cmp .geq (.var 1) (.lit 0))
 (.loop 0 [.sl, (.int .i64)] [(.cst (.slice none 0 0)), (.int .i64 (.lit 0))] [⟨[(.sl 0 (.lit 0) (.var 1) (.var 2))], 57⟩, ⟨[(.sl 3 (.lit 0) (.var 4) (.var 5)), (.int .i64 (.var 6))], 28⟩, ⟨[(.fn (.func 27) [] [(.loc 1 0)]), (.fn (.func 28) [] [(.loc 0 0)])], 83⟩] [⟨[(.sl 0 (.lit 0) (.var 1) (.var 2))], 57⟩, ⟨[(.sl 3 (.lit 0) (.var 4) (.var 5)), (.int .i64 (.var 6))], 28⟩, ⟨[(.fn (.func 27) [] [(.loc 1 0)]), (.fn (.func 28) [] [(.loc 0 0)])], 83⟩]
 (.ite (.cmp .lss (.var 12) (.var 1))
 (.chk (.pick (.cmp .leq (.lit 0) (.bin .add .i64 (.var 12) (.lit 1))) (.cmp .leq (.bin .add .i64 (.var 12) (.lit 1)) (.var 2)) (.lit false))
 (.call false 31 [(.sl 0 (.ifeq (.var 2) (.lit 0) (.lit 0) (.lit 0)) (.bin .add .i64 (.var 12) (.lit 1)) (.var 2)), (.sl 9 (.lit 0) (.var 10) (.var 11)), (.int .i64 (.var 12)), (.val 8)] .sl [⟨[(.sl 0 (.lit 0) (.var 1) (.var 2))], 57⟩, ⟨[(.sl 3 (.lit 0) (.var 4) (.var 5)), (.int .i64 (.var 6))], 28⟩, ⟨[(.fn (.func 27) [] [(.loc 1 0)]), (.fn (.func 28) [] [(.loc 0 0)])], 83⟩]
 (.again 0 3 [.sl, (.int .i64)] [(.sl 13 (.lit 0) (.var 14) (.var 15)), (.int .i64 (.bin .add .i64 (.var 12) (.lit 1)))] [⟨[(.sl 0 (.lit 0) (.var 1) (.var 2))], 57⟩, ⟨[(.sl 3 (.lit 0) (.var 4) (.var 5)), (.int .i64 (.var 6))], 28⟩, ⟨[(.fn (.func 27) [] [(.loc 1 0)]), (.fn (.func 28) [] [(.loc 0 0)])], 83⟩])))
 (.ret (.tup [(.sl 9 (.lit 0) (.var 10) (.var 11)), (.int .i64 (.lit 0))]) [⟨[(.sl 0 (.lit 0) (.var 1) (.var 2))], 57⟩, ⟨[(.sl 3 (.lit 0) (.var 4) (.var 5)), (.int .i64 (.var 6))], 28⟩, ⟨[(.fn (.func 27) [] [(.loc 1 0)]), (.fn (.func 28) [] [(.loc 0 0)])], 83⟩]))))))))))
theorem S_multi_Progressive : FnIs Tryd.prog n_multi_Progressive [.sl, (.agg [.sl, (.int .i64)])] T_multi_Progressive := ⟨Tryd.f14, [], 4000, Tryd.func14, by kernel_rfl⟩
abbrev n_multi_Progressive_1 : FuncId := 27
def T_multi_Progressive_1 : Tree :=
 (.load 0 (.lit 0) [.sl, (.int .i64)] []
 (.call false 12 [(.agg [(.sl 1 (.lit 0) (.var 2) (.var 3)), (.int .i64 (.var 4))])] (.int .i64) []
 (.ret (.int .i64 (.var 5)) [])))
theorem S_multi_Progressive_1 : FnIs Tryd.prog n_multi_Progressive_1 [.ptr] T_multi_Progressive_1 := ⟨Tryd.f27, [], 4000, Tryd.func27, by kernel_rfl⟩
abbrev n_multi_Progressive_2 : FuncId := 28
def T_multi_Progressive_2 : Tree :=
 (.load 0 (.lit 0) [.sl] []
 (.call false 29 [(.int .i64 (.lit 8)), (.sl 1 (.lit 0) (.var 2) (.var 3))] (.int .i64) []
 (.ret (.int .i64 (.var 4)) [])))
theorem S_multi_Progressive_2 : FnIs Tryd.prog n_multi_Progressive_2 [.ptr] T_multi_Progressive_2 := ⟨Tryd.f28, [], 4000, Tryd.func28, by kernel_rfl⟩
abbrev n_multi_insert : FuncId := 31
def T_multi_insert : Tree :=
 (.alloc
 (.alloc
 (.alloc
 (.chk (.cmp .geq (.var 4) (.lit 0))
 (.chk (.pick (.cmp .geq (.var 6) (.lit 0)) (.pick (.cmp .lss (.var 6) (.var 1)) (.some 0) (.lit false)) (.lit false))
 (.load 0 (.off (.var 6) 1 (.lit 0)) [.sl] [⟨[(.sl 0 (.lit 0) (.var 1) (.var 2))], 57⟩, ⟨[(.sl 3 (.lit 0) (.var 4) (.var 5))], 59⟩, ⟨[(.int .i64 (.var 6))], 3⟩]
 (.chk (.cmp .geq (.var 9) (.lit 0))
 (.makev 112 24 (.bin .add .i64 (.var 4) (.lit 1)) (.bin .add .i64 (.var 4) (.lit 1))
 (.loop 0 [(.int .i64)] [(.int .i64 (.var 4))] [⟨[(.sl 0 (.lit 0) (.var 1) (.var 2))], 57⟩, ⟨[(.sl 3 (.lit 0) (.var 4) (.var 5))], 59⟩, ⟨[(.int .i64 (.var 6))], 3⟩] [⟨[(.sl 0 (.lit 0) (.var 1) (.var 2))], 57⟩, ⟨[(.sl 3 (.lit 0) (.var 4) (.var 5))], 59⟩, ⟨[(.int .i64 (.var 6))], 3⟩]
 (.ite (.cmp .geq (.var 14) (.lit 0))
 (.makev 114 16 (.bin .add .i64 (.var 9) (.lit 1)) (.bin .add .i64 (.var 9) (.lit 1))
 (.chk (.pick (.cmp .geq (.var 14) (.lit 0)) (.pick (.cmp .lss (.var 14) (.var 12)) (.some 11) (.lit false)) (.lit false))
 (.store false 11 (.off (.var 14) 1 (.lit 0)) [(.sl 15 (.lit 0) (.var 16) (.var 17))] [⟨[(.sl 0 (.lit 0) (.var 1) (.var 2))], 57⟩, ⟨[(.sl 3 (.lit 0) (.var 4) (.var 5))], 59⟩, ⟨[(.int .i64 (.var 6))], 3⟩]
 (.loop 1 [(.int .i64)] [(.int .i64 (.var 9))] [⟨[(.sl 0 (.lit 0) (.var 1) (.var 2))], 57⟩, ⟨[(.sl 3 (.lit 0) (.var 4) (.var 5))], 59⟩, ⟨[(.int .i64 (.var 6))], 3⟩] [⟨[(.sl 0 (.lit 0) (.var 1) (.var 2))], 57⟩, ⟨[(.sl 3 (.lit 0) (.var 4) (.var 5))], 59⟩, ⟨[(.int .i64 (.var 6))], 3⟩]
 (.ite (.cmp .geq (.var 18) (.lit 0))
 (.alloc
 (.extp ⟨(.load 115 (.tmp 0)), 115, [(.cst (.pointer (some ⟨0, 0, none⟩)))]⟩ (.agg [(.int .i64), (.int .i64), .val, (.int .i64), (.int .i64), .val, (.int .i64), (.int .i64), .val]) [⟨[(.sl 0 (.lit 0) (.var 1) (.var 2))], 57⟩, ⟨[(.sl 3 (.lit 0) (.var 4) (.var 5))], 59⟩, ⟨[(.int .i64 (.var 6))], 3⟩, ⟨[(.int .i64 (.lit (-1))), (.int .i64 (.lit 0))], 114⟩]
 (.loop 2 [(.int .i64), (.int .i64), (.int .i64)] [(.int .i64 (.lit 0)), (.int .i64 (.lit (-1))), (.int .i64 (.lit 0))] [⟨[(.sl 0 (.lit 0) (.var 1) (.var 2))], 57⟩, ⟨[(.sl 3 (.lit 0) (.var 4) (.var 5))], 59⟩, ⟨[(.int .i64 (.var 6))], 3⟩, ⟨[(.int .i64 (.lit (-1))), (.int .i64 (.lit 0))], 114⟩] [⟨[(.sl 0 (.lit 0) (.var 1) (.var 2))], 57⟩, ⟨[(.sl 3 (.lit 0) (.var 4) (.var 5))], 59⟩, ⟨[(.int .i64 (.var 6))], 3⟩, ⟨[(.int .i64 (.var 29)), (.int .i64 (.var 30))], 114⟩]
 (.ite (.cmp .lss (.var 28) (.lit 3))
 (.join 3 [(.int .i64), (.int .i64)] [⟨[(.sl 0 (.lit 0) (.var 1) (.var 2))], 57⟩, ⟨[(.sl 3 (.lit 0) (.var 4) (.var 5))], 59⟩, ⟨[(.int .i64 (.var 6))], 3⟩, ⟨[(.int .i64 (.var 31)), (.int .i64 (.var 32))], 114⟩]
 (.chk (.cmp .leq (.lit 0) (.var 28))
 (.chk (.cmp .lss (.var 28) (.lit 3))
 (.ite (.cmp .eql (.var 28) (.lit 0))
 (.alloc
 (.join 4 [.bool] [⟨[(.sl 0 (.lit 0) (.var 1) (.var 2))], 57⟩, ⟨[(.sl 3 (.lit 0) (.var 4) (.var 5))], 59⟩, ⟨[(.int .i64 (.var 6))], 3⟩, ⟨[(.int .i64 (.var 29)), (.int .i64 (.var 30))], 114⟩, ⟨[(.int .i64 (.var 19)), (.int .i64 (.var 20)), (.val 21)], 110⟩]
 (.again 4 5 [.bool] [(.bool (.pick (.cmp .gtr (.bin .add .i64 (.var 14) (.var 19)) (.var 4)) (.lit true) (.cmp .gtr (.bin .add .i64 (.var 18) (.var 20)) (.var 9))))] [⟨[(.sl 0 (.lit 0) (.var 1) (.var 2))], 57⟩, ⟨[(.sl 3 (.lit 0) (.var 4) (.var 5))], 59⟩, ⟨[(.int .i64 (.var 6))], 3⟩, ⟨[(.int .i64 (.var 29)), (.int .i64 (.var 30))], 114⟩, ⟨[(.int .i64 (.var 19)), (.int .i64 (.var 20)), (.val 21)], 110⟩])
 (.ite (.var 31)
 (.again 3 4 [(.int .i64), (.int .i64)] [(.int .i64 (.var 29)), (.int .i64 (.var 30))] [⟨[(.sl 0 (.lit 0) (.var 1) (.var 2))], 57⟩, ⟨[(.sl 3 (.lit 0) (.var 4) (.var 5))], 59⟩, ⟨[(.int .i64 (.var 6))], 3⟩, ⟨[(.int .i64 (.var 29)), (.int .i64 (.var 30))], 114⟩, ⟨[(.int .i64 (.var 19)), (.int .i64 (.var 20)), (.val 21)], 110⟩])
 (.chk (.pick (.cmp .geq (.bin .add .i64 (.var 14) (.var 19)) (.lit 0)) (.pick (.cmp .lss (.bin .add .i64 (.var 14) (.var 19)) (.var 12)) (.some 11) (.lit false)) (.lit false))
 (.load 11 (.off (.bin .add .i64 (.var 14) (.var 19)) 1 (.lit 0)) [.sl] [⟨[(.sl 0 (.lit 0) (.var 1) (.var 2))], 57⟩, ⟨[(.sl 3 (.lit 0) (.var 4) (.var 5))], 59⟩, ⟨[(.int .i64 (.var 6))], 3⟩, ⟨[(.int .i64 (.var 29)), (.int .i64 (.var 30))], 114⟩, ⟨[(.int .i64 (.var 19)), (.int .i64 (.var 20)), (.val 21)], 110⟩]
 (.chk (.pick (.cmp .geq (.bin .add .i64 (.var 18) (.var 20)) (.lit 0)) (.pick (.cmp .lss (.bin .add .i64 (.var 18) (.var 20)) (.var 33)) (.some 32) (.lit false)) (.lit false))
 (.chk (.pick (.cmp .geq (.off (.bin .add .i64 (.var 18) (.var 20)) 2 (.lit 0)) (.lit 0)) (.some 32) (.lit false))
 (.load 32 (.off (.bin .add .i64 (.var 18) (.var 20)) 2 (.lit 0)) [(.int .i64)] [⟨[(.sl 0 (.lit 0) (.var 1) (.var 2))], 57⟩, ⟨[(.sl 3 (.lit 0) (.var 4) (.var 5))], 59⟩, ⟨[(.int .i64 (.var 6))], 3⟩, ⟨[(.int .i64 (.var 29)), (.int .i64 (.var 30))], 114⟩, ⟨[(.int .i64 (.var 19)), (.int .i64 (.var 20)), (.val 21)], 110⟩]
 (.call true 46 [(.int .i64 (.var 14)), (.int .i64 (.var 18)), (.agg [(.int .i64 (.var 19)), (.int .i64 (.var 20)), (.val 21)]), (.loc 0 0), (.loc 1 0), (.loc 2 0)] .sl [⟨[(.sl 0 (.lit 0) (.var 1) (.var 2))], 57⟩, ⟨[(.sl 3 (.lit 0) (.var 4) (.var 5))], 59⟩, ⟨[(.int .i64 (.var 6))], 3⟩, ⟨[(.int .i64 (.var 29)), (.int .i64 (.var 30))], 114⟩, ⟨[(.int .i64 (.var 19)), (.int .i64 (.var 20)), (.val 21)], 110⟩]
 (.callv true (.val 7) [(.sl 36 (.lit 0) (.var 37) (.var 38))] (.int .i64) [⟨[(.sl 0 (.lit 0) (.var 1) (.var 2))], 57⟩, ⟨[(.sl 3 (.lit 0) (.var 4) (.var 5))], 59⟩, ⟨[(.int .i64 (.var 6))], 3⟩, ⟨[(.int .i64 (.var 29)), (.int .i64 (.var 30))], 114⟩, ⟨[(.int .i64 (.var 19)), (.int .i64 (.var 20)), (.val 21)], 110⟩]
 (.join 4 [.bool] [⟨[(.sl 0 (.lit 0) (.var 1) (.var 2))], 57⟩, ⟨[(.sl 3 (.lit 0) (.var 4) (.var 5))], 59⟩, ⟨[(.int .i64 (.var 6))], 3⟩, ⟨[(.int .i64 (.var 29)), (.int .i64 (.var 30))], 114⟩, ⟨[(.int .i64 (.var 19)), (.int .i64 (.var 20)), (.val 21)], 110⟩]
 (.again 4 5 [.bool] [(.bool (.pick (.cmp .lss (.var 29) (.lit 0)) (.lit true) (.cmp .lss (.bin .add .i64 (.var 39) (.var 35)) (.var 29))))] [⟨[(.sl 0 (.lit 0) (.var 1) (.var 2))], 57⟩, ⟨[(.sl 3 (.lit 0) (.var 4) (.var 5))], 59⟩, ⟨[(.int .i64 (.var 6))], 3⟩, ⟨[(.int .i64 (.var 29)), (.int .i64 (.var 30))], 114⟩, ⟨[(.int .i64 (.var 19)), (.int .i64 (.var 20)), (.val 21)], 110⟩])
 (.join 4 [(.int .i64), (.int .i64)] [⟨[(.sl 0 (.lit 0) (.var 1) (.var 2))], 57⟩, ⟨[(.sl 3 (.lit 0) (.var 4) (.var 5))], 59⟩, ⟨[(.int .i64 (.var 6))], 3⟩, ⟨[(.int .i64 (.var 41)), (.int .i64 (.var 42))], 114⟩, ⟨[(.int .i64 (.var 19)), (.int .i64 (.var 20)), (.val 21)], 110⟩]
 (.ite (.var 40)
 (.again 4 5 [(.int .i64), (.int .i64)] [(.int .i64 (.bin .add .i64 (.var 39) (.var 35))), (.int .i64 (.var 28))] [⟨[(.sl 0 (.lit 0) (.var 1) (.var 2))], 57⟩, ⟨[(.sl 3 (.lit 0) (.var 4) (.var 5))], 59⟩, ⟨[(.int .i64 (.var 6))], 3⟩, ⟨[(.int .i64 (.bin .add .i64 (.var 39) (.var 35))), (.int .i64 (.var 28))], 114⟩, ⟨[(.int .i64 (.var 19)), (.int .i64 (.var 20)), (.val 21)], 110⟩])
 (.again 4 5 [(.int .i64), (.int .i64)] [(.int .i64 (.var 29)), (.int .i64 (.var 30))] [⟨[(.sl 0 (.lit 0) (.var 1) (.var 2))], 57⟩, ⟨[(.sl 3 (.lit 0) (.var 4) (.var 5))], 59⟩, ⟨[(.int .i64 (.var 6))], 3⟩, ⟨[(.int .i64 (.var 29)), (.int .i64 (.var 30))], 114⟩, ⟨[(.int .i64 (.var 19)), (.int .i64 (.var 20)), (.val 21)], 110⟩]))
 (.again 3 4 [(.int .i64), (.int .i64)] [(.int .i64 (.var 41)), (.int .i64 (.var 42))] [⟨[(.sl 0 (.lit 0) (.var 1) (.var 2))], 57⟩, ⟨[(.sl 3 (.lit 0) (.var 4) (.var 5))], 59⟩, ⟨[(.int .i64 (.var 6))], 3⟩, ⟨[(.int .i64 (.var 41)), (.int .i64 (.var 42))], 114⟩, ⟨[(.int .i64 (.var 19)), (.int .i64 (.var 20)), (.val 21)], 110⟩])))))))))))))
 (.ite (.cmp .eql (.var 28) (.lit 1))
 (.alloc
 (.join 4 [.bool] [⟨[(.sl 0 (.lit 0) (.var 1) (.var 2))], 57⟩, ⟨[(.sl 3 (.lit 0) (.var 4) (.var 5))], 59⟩, ⟨[(.int .i64 (.var 6))], 3⟩, ⟨[(.int .i64 (.var 29)), (.int .i64 (.var 30))], 114⟩, ⟨[(.int .i64 (.var 22)), (.int .i64 (.var 23)), (.val 24)], 110⟩]
 (.again 4 5 [.bool] [(.bool (.pick (.cmp .gtr (.bin .add .i64 (.var 14) (.var 22)) (.var 4)) (.lit true) (.cmp .gtr (.bin .add .i64 (.var 18) (.var 23)) (.var 9))))] [⟨[(.sl 0 (.lit 0) (.var 1) (.var 2))], 57⟩, ⟨[(.sl 3 (.lit 0) (.var 4) (.var 5))], 59⟩, ⟨[(.int .i64 (.var 6))], 3⟩, ⟨[(.int .i64 (.var 29)), (.int .i64 (.var 30))], 114⟩, ⟨[(.int .i64 (.var 22)), (.int .i64 (.var 23)), (.val 24)], 110⟩])
 (.ite (.var 31)
 (.again 3 4 [(.int .i64), (.int .i64)] [(.int .i64 (.var 29)), (.int .i64 (.var 30))] [⟨[(.sl 0 (.lit 0) (.var 1) (.var 2))], 57⟩, ⟨[(.sl 3 (.lit 0) (.var 4) (.var 5))], 59⟩, ⟨[(.int .i64 (.var 6))], 3⟩, ⟨[(.int .i64 (.var 29)), (.int .i64 (.var 30))], 114⟩, ⟨[(.int .i64 (.var 22)), (.int .i64 (.var 23)), (.val 24)], 110⟩])
 (.chk (.pick (.cmp .geq (.bin .add .i64 (.var 14) (.var 22)) (.lit 0)) (.pick (.cmp .lss (.bin .add .i64 (.var 14) (.var 22)) (.var 12)) (.some 11) (.lit false)) (.lit false))
 (.load 11 (.off (.bin .add .i64 (.var 14) (.var 22)) 1 (.lit 0)) [.sl] [⟨[(.sl 0 (.lit 0) (.var 1) (.var 2))], 57⟩, ⟨[(.sl 3 (.lit 0) (.var 4) (.var 5))], 59⟩, ⟨[(.int .i64 (.var 6))], 3⟩, ⟨[(.int .i64 (.var 29)), (.int .i64 (.var 30))], 114⟩, ⟨[(.int .i64 (.var 22)), (.int .i64 (.var 23)), (.val 24)], 110⟩]
 (.chk (.pick (.cmp .geq (.bin .add .i64 (.var 18) (.var 23)) (.lit 0)) (.pick (.cmp .lss (.bin .add .i64 (.var 18) (.var 23)) (.var 33)) (.some 32) (.lit false)) (.lit false))
 (.chk (.pick (.cmp .geq (.off (.bin .add .i64 (.var 18) (.var 23)) 2 (.lit 0)) (.lit 0)) (.some 32) (.lit false))
 (.load 32 (.off (.bin .add .i64 (.var 18) (.var 23)) 2 (.lit 0)) [(.int .i64)] [⟨[(.sl 0 (.lit 0) (.var 1) (.var 2))], 57⟩, ⟨[(.sl 3 (.lit 0) (.var 4) (.var 5))], 59⟩, ⟨[(.int .i64 (.var 6))], 3⟩, ⟨[(.int .i64 (.var 29)), (.int .i64 (.var 30))], 114⟩, ⟨[(.int .i64 (.var 22)), (.int .i64 (.var 23)), (.val 24)], 110⟩]
 (.call true 46 [(.int .i64 (.var 14)), (.int .i64 (.var 18)), (.agg [(.int .i64 (.var 22)), (.int .i64 (.var 23)), (.val 24)]), (.loc 0 0), (.loc 1 0), (.loc 2 0)] .sl [⟨[(.sl 0 (.lit 0) (.var 1) (.var 2))], 57⟩, ⟨[(.sl 3 (.lit 0) (.var 4) (.var 5))], 59⟩, ⟨[(.int .i64 (.var 6))], 3⟩, ⟨[(.int .i64 (.var 29)), (.int .i64 (.var 30))], 114⟩, ⟨[(.int .i64 (.var 22)), (.int .i64 (.var 23)), (.val 24)], 110⟩]
 (.callv true (.val 7) [(.sl 36 (.lit 0) (.var 37) (.var 38))] (.int .i64) [⟨[(.sl 0 (.lit 0) (.var 1) (.var 2))], 57⟩, ⟨[(.sl 3 (.lit 0) (.var 4) (.var 5))], 59⟩, ⟨[(.int .i64 (.var 6))], 3⟩, ⟨[(.int .i64 (.var 29)), (.int .i64 (.var 30))], 114⟩, ⟨[(.int .i64 (.var 22)), (.int .i64 (.var 23)), (.val 24)], 110⟩]
 (.join 4 [.bool] [⟨[(.sl 0 (.lit 0) (.var 1) (.var 2))], 57⟩, ⟨[(.sl 3 (.lit 0) (.var 4) (.var 5))], 59⟩, ⟨[(.int .i64 (.var 6))], 3⟩, ⟨[(.int .i64 (.var 29)), (.int .i64 (.var 30))], 114⟩, ⟨[(.int .i64 (.var 22)), (.int .i64 (.var 23)), (.val 24)], 110⟩]
 (.again 4 5 [.bool] [(.bool (.pick (.cmp .lss (.var 29) (.lit 0)) (.lit true) (.cmp .lss (.bin .add .i64 (.var 39) (.var 35)) (.var 29))))] [⟨[(.sl 0 (.lit 0) (.var 1) (.var 2))], 57⟩, ⟨[(.sl 3 (.lit 0) (.var 4) (.var 5))], 59⟩, ⟨[(.int .i64 (.var 6))], 3⟩, ⟨[(.int .i64 (.var 29)), (.int .i64 (.var 30))], 114⟩, ⟨[(.int .i64 (.var 22)), (.int .i64 (.var 23)), (.val 24)], 110⟩])
 (.join 4 [(.int .i64), (.int .i64)] [⟨[(.sl 0 (.lit 0) (.var 1) (.var 2))], 57⟩, ⟨[(.sl 3 (.lit 0) (.var 4) (.var 5))], 59⟩, ⟨[(.int .i64 (.var 6))], 3⟩, ⟨[(.int .i64 (.var 41)), (.int .i64 (.var 42))], 114⟩, ⟨[(.int .i64 (.var 22)), (.int .i64 (.var 23)), (.val 24)], 110⟩]
 (.ite (.var 40)
 (.again 4 5 [(.int .i64), (.int .i64)] [(.int .i64 (.bin .add .i64 (.var 39) (.var 35))), (.int .i64 (.var 28))] [⟨[(.sl 0 (.lit 0) (.var 1) (.var 2))], 57⟩, ⟨[(.sl 3 (.lit 0) (.var 4) (.var 5))], 59⟩, ⟨[(.int .i64 (.var 6))], 3⟩, ⟨[(.int .i64 (.bin .add .i64 (.var 39) (.var 35))), (.int .i64 (.var 28))], 114⟩, ⟨[(.int .i64 (.var 22)), (.int .i64 (.var 23)), (.val 24)], 110⟩])
 (.again 4 5 [(.int .i64), (.int .i64)] [(.int .i64 (.var 29)), (.int .i64 (.var 30))] [⟨[(.sl 0 (.lit 0) (.var 1) (.var 2))], 57⟩, ⟨[(.sl 3 (.lit 0) (.var 4) (.var 5))], 59⟩, ⟨[(.int .i64 (.var 6))], 3⟩, ⟨[(.int .i64 (.var 29)), (.int .i64 (.var 30))], 114⟩, ⟨[(.int .i64 (.var 22)), (.int .i64 (.var 23)), (.val 24)], 110⟩]))
 (.again 3 4 [(.int .i64), (.int .i64)] [(.int .i64 (.var 41)), (.int .i64 (.var 42))] [⟨[(.sl 0 (.lit 0) (.var 1) (.var 2))], 57⟩, ⟨[(.sl 3 (.lit 0) (.var 4) (.var 5))], 59⟩, ⟨[(.int .i64 (.var 6))], 3⟩, ⟨[(.int .i64 (.var 41)), (.int .i64 (.var 42))], 114⟩, ⟨[(.int .i64 (.var 22)), (.int .i64 (.var 23)), (.val 24)], 110⟩])))))))))))))
 (.ite (.cmp .eql (.var 28) (.lit 2))
 (.alloc
 (.join 4 [.bool] [⟨[(.sl 0 (.lit 0) (.var 1) (.var 2))], 57⟩, ⟨[(.sl 3 (.lit 0) (.var 4) (.var 5))], 59⟩, ⟨[(.int .i64 (.var 6))], 3⟩, ⟨[(.int .i64 (.var 29)), (.int .i64 (.var 30))], 114⟩, ⟨[(.int .i64 (.var 25)), (.int .i64 (.var 26)), (.val 27)], 110⟩]
 (.again 4 5 [.bool] [(.bool (.pick (.cmp .gtr (.bin .add .i64 (.var 14) (.var 25)) (.var 4)) (.lit true) (.cmp .gtr (.bin .add .i64 (.var 18) (.var 26)) (.var 9))))] [⟨[(.sl 0 (.lit 0) (.var 1) (.var 2))], 57⟩, ⟨[(.sl 3 (.lit 0) (.var 4) (.var 5))], 59⟩, ⟨[(.int .i64 (.var 6))], 3⟩, ⟨[(.int .i64 (.var 29)), (.int .i64 (.var 30))], 114⟩, ⟨[(.int .i64 (.var 25)), (.int .i64 (.var 26)), (.val 27)], 110⟩])
 (.ite (.var 31)
 (.again 3 4 [(.int .i64), (.int .i64)] [(.int .i64 (.var 29)), (.int .i64 (.var 30))] [⟨[(.sl 0 (.lit 0) (.var 1) (.var 2))], 57⟩, ⟨[(.sl 3 (.lit 0) (.var 4) (.var 5))], 59⟩, ⟨[(.int .i64 (.var 6))], 3⟩, ⟨[(.int .i64 (.var 29)), (.int .i64 (.var 30))], 114⟩, ⟨[(.int .i64 (.var 25)), (.int .i64 (.var 26)), (.val 27)], 110⟩])
 (.chk (.pick (.cmp .geq (.bin .add .i64 (.var 14) (.var 25)) (.lit 0)) (.pick (.cmp .lss (.bin .add .i64 (.var 14) (.var 25)) (.var 12)) (.some 11) (.lit false)) (.lit false))
 (.load 11 (.off (.bin .add .i64 (.var 14) (.var 25)) 1 (.lit 0)) [.sl] [⟨[(.sl 0 (.lit 0) (.var 1) (.var 2))], 57⟩, ⟨[(.sl 3 (.lit 0) (.var 4) (.var 5))], 59⟩, ⟨[(.int .i64 (.var 6))], 3⟩, ⟨[(.int .i64 (.var 29)), (.int .i64 (.var 30))], 114⟩, ⟨[(.int .i64 (.var 25)), (.int .i64 (.var 26)), (.val 27)], 110⟩]
 (.chk (.pick (.cmp .geq (.bin .add .i64 (.var 18) (.var 26)) (.lit 0)) (.pick (.cmp .lss (.bin .add .i64 (.var 18) (.var 26)) (.var 33)) (.some 32) (.lit false)) (.lit false))
 (.chk (.pick (.cmp .geq (.off (.bin .add .i64 (.var 18) (.var 26)) 2 (.lit 0)) (.lit 0)) (.some 32) (.lit false))
 (.load 32 (.off (.bin .add .i64 (.var 18) (.var 26)) 2 (.lit 0)) [(.int .i64)] [⟨[(.sl 0 (.lit 0) (.var 1) (.var 2))], 57⟩, ⟨[(.sl 3 (.lit 0) (.var 4) (.var 5))], 59⟩, ⟨[(.int .i64 (.var 6))], 3⟩, ⟨[(.int .i64 (.var 29)), (.int .i64 (.var 30))], 114⟩, ⟨[(.int .i64 (.var 25)), (.int .i64 (.var 26)), (.val 27)], 110⟩]
 (.call true 46 [(.int .i64 (.var 14)), (.int .i64 (.var 18)), (.agg [(.int .i64 (.var 25)), (.int .i64 (.var 26)), (.val 27)]), (.loc 0 0), (.loc 1 0), (.loc 2 0)] .sl [⟨[(.sl 0 (.lit 0) (.var 1) (.var 2))], 57⟩, ⟨[(.sl 3 (.lit 0) (.var 4) (.var 5))], 59⟩, ⟨[(.int .i64 (.var 6))], 3⟩, ⟨[(.int .i64 (.var 29)), (.int .i64 (.var 30))], 114⟩, ⟨[(.int .i64 (.var 25)), (.int .i64 (.var 26)), (.val 27)], 110⟩]
 (.callv true (.val 7) [(.sl 36 (.lit 0) (.var 37) (.var 38))] (.int .i64) [⟨[(.sl 0 (.lit 0) (.var 1) (.var 2))], 57⟩, ⟨[(.sl 3 (.lit 0) (.var 4) (.var 5))], 59⟩, ⟨[(.int .i64 (.var 6))], 3⟩, ⟨[(.int .i64 (.var 29)), (.int .i64 (.var 30))], 114⟩, ⟨[(.int .i64 (.var 25)), (.int .i64 (.var 26)), (.val 27)], 110⟩]
 (.join 4 [.bool] [⟨[(.sl 0 (.lit 0) (.var 1) (.var 2))], 57⟩, ⟨[(.sl 3 (.lit 0) (.var 4) (.var 5))], 59⟩, ⟨[(.int .i64 (.var 6))], 3⟩, ⟨[(.int .i64 (.var 29)), (.int .i64 (.var 30))], 114⟩, ⟨[(.int .i64 (.var 25)), (.int .i64 (.var 26)), (.val 27)], 110⟩]
 (.again 4 5 [.bool] [(.bool (.pick (.cmp .lss (.var 29) (.lit 0)) (.lit true) (.cmp .lss (.bin .add .i64 (.var 39) (.var 35)) (.var 29))))] [⟨[(.sl 0 (.lit 0) (.var 1) (.var 2))], 57⟩, ⟨[(.sl 3 (.lit 0) (.var 4) (.var 5))], 59⟩, ⟨[(.int .i64 (.var 6))], 3⟩, ⟨[(.int .i64 (.var 29)), (.int .i64 (.var 30))], 114⟩, ⟨[(.int .i64 (.var 25)), (.int .i64 (.var 26)), (.val 27)], 110⟩])
 (.join 4 [(.int .i64), (.int .i64)] [⟨[(.sl 0 (.lit 0) (.var 1) (.var 2))], 57⟩, ⟨[(.sl 3 (.lit 0) (.var 4) (.var 5))], 59⟩, ⟨[(.int .i64 (.var 6))], 3⟩, ⟨[(.int .i64 (.var 41)), (.int .i64 (.var 42))], 114⟩, ⟨[(.int .i64 (.var 25)), (.int .i64 (.var 26)), (.val 27)], 110⟩]
 (.ite (.var 40)
 (.again 4 5 [(.int .i64), (.int .i64)] [(.int .i64 (.bin .add .i64 (.var 39) (.var 35))), (.int .i64 (.var 28))] [⟨[(.sl 0 (.lit 0) (.var 1) (.var 2))], 57⟩, ⟨[(.sl 3 (.lit 0) (.var 4) (.var 5))], 59⟩, ⟨[(.int .i64 (.var 6))], 3⟩, ⟨[(.int .i64 (.bin .add .i64 (.var 39) (.var 35))), (.int .i64 (.var 28))], 114⟩, ⟨[(.int .i64 (.var 25)), (.int .i64 (.var 26)), (.val 27)], 110⟩])
 (.again 4 5 [(.int .i64), (.int .i64)] [(.int .i64 (.var 29)), (.int .i64 (.var 30))] [⟨[(.sl 0 (.lit 0) (.var 1) (.var 2))], 57⟩, ⟨[(.sl 3 (.lit 0) (.var 4) (.var 5))], 59⟩, ⟨[(.int .i64 (.var 6))], 3⟩, ⟨[(.int .i64 (.var 29)), (.int .i64 (.var 30))], 114⟩, ⟨[(.int .i64 (.var 25)), (.int .i64 (.var 26)), (.val 27)], 110⟩]))
 (.again 3 4 [(.int .i64), (.int .i64)] [(.int .i64 (.var 41)), (.int .i64 (.var 42))] [⟨[(.sl 0 (.lit 0) (.var 1) (.var 2))], 57⟩, ⟨[(.sl 3 (.lit 0) (.var 4) (.var 5))], 59⟩, ⟨[(.int .i64 (.var 6))], 3⟩, ⟨[(.int .i64 (.var 41)), (.int .i64 (.var 42))], 114⟩, ⟨[(.int .i64 (.var 25)), (.int .i64 (.var 26)), (.val 27)], 110⟩])))))))))))))
 (.bad "cases"))))))
 (.again 2 4 [(.int .i64), (.int .i64), (.int .i64)] [(.int .i64 (.bin .add .i64 (.var 28) (.lit 1))), (.int .i64 (.var 31)), (.int .i64 (.var 32))] [⟨[(.sl 0 (.lit 0) (.var 1) (.var 2))], 57⟩, ⟨[(.sl 3 (.lit 0) (.var 4) (.var 5))], 59⟩, ⟨[(.int .i64 (.var 6))], 3⟩, ⟨[(.int .i64 (.var 31)), (.int .i64 (.var 32))], 114⟩]))
 (.join 2 [(.int .i64), (.int .i64)] [⟨[(.sl 0 (.lit 0) (.var 1) (.var 2))], 57⟩, ⟨[(.sl 3 (.lit 0) (.var 4) (.var 5))], 59⟩, ⟨[(.int .i64 (.var 6))], 3⟩, ⟨[(.int .i64 (.var 31)), (.int .i64 (.var 32))], 114⟩]
 (.ite (.pick (.cmp .eql (.var 14) (.var 4)) (.cmp .eql (.var 18) (.var 9)) (.lit false))
 (.again 2 4 [(.int .i64), (.int .i64)] [(.int .i64 (.lit 0)), (.int .i64 (.var 30))] [⟨[(.sl 0 (.lit 0) (.var 1) (.var 2))], 57⟩, ⟨[(.sl 3 (.lit 0) (.var 4) (.var 5))], 59⟩, ⟨[(.int .i64 (.var 6))], 3⟩, ⟨[(.int .i64 (.lit 0)), (.int .i64 (.var 30))], 114⟩])
 (.again 2 4 [(.int .i64), (.int .i64)] [(.int .i64 (.var 29)), (.int .i64 (.var 30))] [⟨[(.sl 0 (.lit 0) (.var 1) (.var 2))], 57⟩, ⟨[(.sl 3 (.lit 0) (.var 4) (.var 5))], 59⟩, ⟨[(.int .i64 (.var 6))], 3⟩, ⟨[(.int .i64 (.var 29)), (.int .i64 (.var 30))], 114⟩]))
 (.chk (.pick (.cmp .geq (.var 14) (.lit 0)) (.pick (.cmp .lss (.var 14) (.var 12)) (.some 11) (.lit false)) (.lit false))
 (.load 11 (.off (.var 14) 1 (.lit 0)) [.sl] [⟨[(.sl 0 (.lit 0) (.var 1) (.var 2))], 57⟩, ⟨[(.sl 3 (.lit 0) (.var 4) (.var 5))], 59⟩, ⟨[(.int .i64 (.var 6))], 3⟩, ⟨[(.int .i64 (.var 31)), (.int .i64 (.var 32))], 114⟩]
 (.chk (.pick (.cmp .geq (.var 18) (.lit 0)) (.pick (.cmp .lss (.var 18) (.var 34)) (.some 33) (.lit false)) (.lit false))
 (.store false 33 (.off (.var 18) 2 (.lit 0)) [(.int .i64 (.var 31)), (.int .i64 (.var 32))] [⟨[(.sl 0 (.lit 0) (.var 1) (.var 2))], 57⟩, ⟨[(.sl 3 (.lit 0) (.var 4) (.var 5))], 59⟩, ⟨[(.int .i64 (.var 6))], 3⟩, ⟨[(.int .i64 (.var 31)), (.int .i64 (.var 32))], 114⟩]
 (.again 1 3 [(.int .i64)] [(.int .i64 (.bin .sub .i64 (.var 18) (.lit 1)))] [⟨[(.sl 0 (.lit 0) (.var 1) (.var 2))], 57⟩, ⟨[(.sl 3 (.lit 0) (.var 4) (.var 5))], 59⟩, ⟨[(.int .i64 (.var 6))], 3⟩, ⟨[(.int .i64 (.var 31)), (.int .i64 (.var 32))], 114⟩]))))))))))
 (.again 0 3 [(.int .i64)] [(.int .i64 (.bin .sub .i64 (.var 14) (.lit 1)))] [⟨[(.sl 0 (.lit 0) (.var 1) (.var 2))], 57⟩, ⟨[(.sl 3 (.lit 0) (.var 4) (.var 5))], 59⟩, ⟨[(.int .i64 (.var 6))], 3⟩]))))))
 (.loop 0 [.sl, (.int .i64), (.int .i64)] [(.cst (.slice none 0 0)), (.int .i64 (.lit 0)), (.int .i64 (.lit 0))] [⟨[(.sl 0 (.lit 0) (.var 1) (.var 2))], 57⟩, ⟨[(.sl 3 (.lit 0) (.var 4) (.var 5))], 59⟩, ⟨[(.int .i64 (.var 6))], 3⟩] [⟨[(.sl 0 (.lit 0) (.var 1) (.var 2))], 57⟩, ⟨[(.sl 3 (.lit 0) (.var 4) (.var 5))], 59⟩, ⟨[(.int .i64 (.var 6))], 3⟩]
 (.ite (.pick (.cmp .lss (.var 18) (.var 4)) (.lit true) (.cmp .lss (.var 19) (.var 9)))
 (.chk (.pick (.cmp .geq (.var 18) (.lit 0)) (.pick (.cmp .lss (.var 18) (.var 12)) (.some 11) (.lit false)) (.lit false))
 (.load 11 (.off (.var 18) 1 (.lit 0)) [.sl] [⟨[(.sl 0 (.lit 0) (.var 1) (.var 2))], 57⟩, ⟨[(.sl 3 (.lit 0) (.var 4) (.var 5))], 59⟩, ⟨[(.int .i64 (.var 6))], 3⟩]
 (.chk (.pick (.cmp .geq (.var 19) (.lit 0)) (.pick (.cmp .lss (.var 19) (.var 21)) (.some 20) (.lit false)) (.lit false))
 (.chk (.pick (.cmp .geq (.off (.var 19) 2 (.lit 0)) (.lit 0)) (.some 20) (.lit false))
 (.load 20 (.off (.lit 1) 1 (.off (.var 19) 2 (.lit 0))) [(.int .i64)] [⟨[(.sl 0 (.lit 0) (.var 1) (.var 2))], 57⟩, ⟨[(.sl 3 (.lit 0) (.var 4) (.var 5))], 59⟩, ⟨[(.int .i64 (.var 6))], 3⟩]
 (.extp ⟨(.indexAddr 115 (.tmp 0) (.tmp 0)), 0, [(.cst (.pointer (some ⟨0, 0, none⟩))), (.int .i64 (.var 23))]⟩ .ptr [⟨[(.sl 0 (.lit 0) (.var 1) (.var 2))], 57⟩, ⟨[(.sl 3 (.lit 0) (.var 4) (.var 5))], 59⟩, ⟨[(.int .i64 (.var 6))], 3⟩]
 (.load 24 (.lit 0) [(.int .i64), (.int .i64), .val] [⟨[(.sl 0 (.lit 0) (.var 1) (.var 2))], 57⟩, ⟨[(.sl 3 (.lit 0) (.var 4) (.var 5))], 59⟩, ⟨[(.int .i64 (.var 6))], 3⟩]
 (.alloc
 (.call false 46 [(.int .i64 (.var 18)), (.int .i64 (.var 19)), (.agg [(.int .i64 (.var 25)), (.int .i64 (.var 26)), (.val 27)]), (.loc 0 0), (.loc 1 0), (.loc 2 0)] .sl [⟨[(.sl 0 (.lit 0) (.var 1) (.var 2))], 57⟩, ⟨[(.sl 3 (.lit 0) (.var 4) (.var 5))], 59⟩, ⟨[(.int .i64 (.var 6))], 3⟩, ⟨[(.int .i64 (.var 25)), (.int .i64 (.var 26)), (.val 27)], 110⟩]
 (.alloc
 (.ext false ⟨(.call ⟨.builtin .append, #[(.tmp 0), (.tmp 0)], #[59, 59]⟩), 59, [(.sl 15 (.lit 0) (.var 16) (.var 17)), (.slc 4 0 1 1)]⟩ .sl [⟨[(.sl 0 (.lit 0) (.var 1) (.var 2))], 57⟩, ⟨[(.sl 3 (.lit 0) (.var 4) (.var 5))], 59⟩, ⟨[(.int .i64 (.var 6))], 3⟩, ⟨[(.int .i64 (.var 25)), (.int .i64 (.var 26)), (.val 27)], 110⟩, ⟨[(.sl 28 (.lit 0) (.var 29) (.var 30))], 29⟩]
 (.again 0 3 [.sl, (.int .i64), (.int .i64)] [(.sl 31 (.lit 0) (.var 32) (.var 33)), (.int .i64 (.bin .add .i64 (.var 18) (.var 25))), (.int .i64 (.bin .add .i64 (.var 19) (.var 26)))] [⟨[(.sl 0 (.lit 0) (.var 1) (.var 2))], 57⟩, ⟨[(.sl 3 (.lit 0) (.var 4) (.var 5))], 59⟩, ⟨[(.int .i64 (.var 6))], 3⟩, ⟨[(.int .i64 (.var 25)), (.int .i64 (.var 26)), (.val 27)], 110⟩, ⟨[(.sl 28 (.lit 0) (.var 29) (.var 30))], 29⟩]))))))))))))
 (.ret (.sl 15 (.lit 0) (.var 16) (.var 17)) [⟨[(.sl 0 (.lit 0) (.var 1) (.var 2))], 57⟩, ⟨[(.sl 3 (.lit 0) (.var 4) (.var 5))], 59⟩, ⟨[(.int .i64 (.var 6))], 3⟩])))))))))))))
theorem S_multi_insert : FnIs Tryd.prog n_multi_insert [.sl, .sl, (.int .i64), .val] T_multi_insert := ⟨Tryd.f31, [{ key := 100005, tmps := [], join := true, dead := 91343851992893871902282702935223435540077478016 }, { key := 200015, tmps := [(69, .bool)], join := true }, { key := 200017, tmps := [(100, .bool)], join := true }, { key := 18, tmps := [], join := true }, { key := 21, tmps := [], join := true }], 4000, Tryd.func31, by kernel_rfl⟩
abbrev n_multi_insert_1 : FuncId := 46
def T_multi_insert_1 : Tree :=
 (.alloc
 (.load 5 (.lit 0) [.sl] [⟨[(.int .i64 (.var 2)), (.int .i64 (.var 3)), (.val 4)], 110⟩]
 (.chk (.cmp .geq (.var 9) (.lit 0))
 (.makev 3 8 (.bin .sub .i64 (.var 9) (.lit 1)) (.bin .sub .i64 (.var 9) (.lit 1))
 (.join 0 [.sl] [⟨[(.int .i64 (.var 2)), (.int .i64 (.var 3)), (.val 4)], 110⟩]
 (.ite (.cmp .eql (.var 2) (.lit 1))
 (.load 6 (.lit 0) [.sl] [⟨[(.int .i64 (.var 2)), (.int .i64 (.var 3)), (.val 4)], 110⟩]
 (.chk (.pick (.cmp .geq (.var 0) (.lit 0)) (.pick (.cmp .lss (.var 0) (.var 15)) (.some 14) (.lit false)) (.lit false))
 (.load 14 (.off (.var 0) 1 (.lit 0)) [.sl] [⟨[(.int .i64 (.var 2)), (.int .i64 (.var 3)), (.val 4)], 110⟩]
 (.again 0 1 [.sl] [(.sl 17 (.lit 0) (.var 18) (.var 19))] [⟨[(.int .i64 (.var 2)), (.int .i64 (.var 3)), (.val 4)], 110⟩]))))
 (.again 0 1 [.sl] [(.sl 11 (.lit 0) (.var 12) (.var 13))] [⟨[(.int .i64 (.var 2)), (.int .i64 (.var 3)), (.val 4)], 110⟩]))
 (.load 7 (.lit 0) [(.int .i64)] [⟨[(.int .i64 (.var 2)), (.int .i64 (.var 3)), (.val 4)], 110⟩]
 (.callv false (.val 4) [(.sl 14 (.lit 0) (.var 15) (.var 16)), (.int .i64 (.var 17)), (.int .i64 (.var 1))] .sl [⟨[(.int .i64 (.var 2)), (.int .i64 (.var 3)), (.val 4)], 110⟩]
 (.ret (.sl 18 (.lit 0) (.var 19) (.var 20)) [⟨[(.int .i64 (.var 2)), (.int .i64 (.var 3)), (.val 4)], 110⟩]))))))))
theorem S_multi_insert_1 : FnIs Tryd.prog n_multi_insert_1 [(.int .i64), (.int .i64), (.agg [(.int .i64), (.int .i64), .val]), .ptr, .ptr, .ptr] T_multi_insert_1 := ⟨Tryd.f46, [{ key := 3, tmps := [], join := true, dead := 268302528 }], 4000, Tryd.func46, by kernel_rfl⟩
abbrev n_multi_steps_1 : FuncId := 96
def T_multi_steps_1 : Tree :=
 (.call false 98 [(.sl 0 (.lit 0) (.var 1) (.var 2))] .sl []
 (.alloc
 (.call false 97 [(.sl 5 (.lit 0) (.var 6) (.var 7)), (.int .i64 (.var 3)), (.slc 0 0 1 1)] .sl [⟨[(.int .i64 (.var 4))], 3⟩]
 (.ret (.sl 8 (.lit 0) (.var 9) (.var 10)) [⟨[(.int .i64 (.var 4))], 3⟩]))))
theorem S_multi_steps_1 : FnIs Tryd.prog n_multi_steps_1 [.sl, (.int .i64), (.int .i64)] T_multi_steps_1 := ⟨Tryd.f96, [], 4000, Tryd.func96, by kernel_rfl⟩
abbrev n_slices_Insert___int_int_ : FuncId := 97
def T_slices_Insert___int_int_ : Tree :=
 (.chk (.pick (.cmp .leq (.lit 0) (.var 3)) (.pick (.cmp .leq (.var 3) (.var 1)) (.cmp .leq (.var 1) (.var 2)) (.lit false)) (.lit false))
 (.chk (.cmp .geq (.var 5) (.lit 0))
 (.ite (.cmp .eql (.var 5) (.lit 0))
 (.ret (.sl 0 (.lit 0) (.var 1) (.var 2)) [])
 (.chk (.cmp .geq (.var 1) (.lit 0))
 (.ite (.cmp .eql (.var 3) (.var 1))
 (.ext false ⟨(.call ⟨.builtin .append, #[(.tmp 0), (.tmp 0)], #[29, 29]⟩), 29, [(.sl 0 (.lit 0) (.var 1) (.var 2)), (.sl 4 (.lit 0) (.var 5) (.var 6))]⟩ .sl []
 (.ret (.sl 7 (.lit 0) (.var 8) (.var 9)) []))
 (.ext false ⟨(.call ⟨.builtin .cap, #[(.tmp 0)], #[29]⟩), 3, [(.sl 0 (.lit 0) (.var 1) (.var 2))]⟩ (.int .i64) []
 (.ite (.cmp .gtr (.bin .add .i64 (.var 1) (.var 5)) (.var 7))
 (.chk (.pick (.cmp .leq (.lit 0) (.var 3)) (.cmp .leq (.var 3) (.var 2)) (.lit false))
 (.ext false ⟨(.call ⟨.builtin .append, #[(.tmp 0), (.tmp 0)], #[29, 3]⟩), 29, [(.sl 0 (.ifeq (.var 2) (.lit 0) (.lit 0) (.lit 0)) (.var 3) (.var 2)), (.int .i64 (.bin .sub .i64 (.bin .add .i64 (.var 1) (.var 5)) (.var 3)))]⟩ .sl []
 (.chk (.pick (.cmp .leq (.lit 0) (.var 3)) (.pick (.cmp .leq (.var 3) (.var 9)) (.cmp .leq (.var 9) (.var 10)) (.lit false)) (.lit false))
 (.ext false ⟨(.call ⟨.builtin .copy, #[(.tmp 0), (.tmp 0)], #[29, 29]⟩), 3, [(.sl 8 (.ifeq (.var 10) (.var 3) (.lit 0) (.off (.var 3) 1 (.lit 0))) (.dif (.var 9) (.var 3)) (.dif (.var 10) (.var 3))), (.sl 4 (.lit 0) (.var 5) (.var 6))]⟩ (.int .i64) []
 (.chk (.pick (.cmp .leq (.lit 0) (.bin .add .i64 (.var 3) (.var 5))) (.pick (.cmp .leq (.bin .add .i64 (.var 3) (.var 5)) (.var 9)) (.cmp .leq (.var 9) (.var 10)) (.lit false)) (.lit false))
 (.chk (.pick (.cmp .leq (.lit 0) (.var 3)) (.pick (.cmp .leq (.var 3) (.var 1)) (.cmp .leq (.var 1) (.var 2)) (.lit false)) (.lit false))
 (.ext false ⟨(.call ⟨.builtin .copy, #[(.tmp 0), (.tmp 0)], #[29, 29]⟩), 3, [(.sl 8 (.ifeq (.var 10) (.bin .add .i64 (.var 3) (.var 5)) (.lit 0) (.off (.bin .add .i64 (.var 3) (.var 5)) 1 (.lit 0))) (.dif (.var 9) (.bin .add .i64 (.var 3) (.var 5))) (.dif (.var 10) (.bin .add .i64 (.var 3) (.var 5)))), (.sl 0 (.ifeq (.var 2) (.var 3) (.lit 0) (.off (.var 3) 1 (.lit 0))) (.dif (.var 1) (.var 3)) (.dif (.var 2) (.var 3)))]⟩ (.int .i64) []
 (.ret (.sl 8 (.lit 0) (.var 9) (.var 10)) []))))))))
 (.chk (.pick (.cmp .leq (.lit 0) (.bin .add .i64 (.var 1) (.var 5))) (.cmp .leq (.bin .add .i64 (.var 1) (.var 5)) (.var 2)) (.lit false))
 (.chk (.pick (.cmp .geq (.ifeq (.var 2) (.lit 0) (.lit 0) (.lit 0)) (.lit 0)) (.pick (.cmp .leq (.lit 0) (.bin .add .i64 (.var 3) (.var 5))) (.pick (.cmp .leq (.bin .add .i64 (.var 3) (.var 5)) (.bin .add .i64 (.var 1) (.var 5))) (.cmp .leq (.bin .add .i64 (.var 1) (.var 5)) (.var 2)) (.lit false)) (.lit false)) (.lit false))
 (.ext false ⟨(.call ⟨.value (.func 102), #[], #[]⟩), 4, [(.cst (.func (.func 102) #[] #[])), (.sl 4 (.lit 0) (.var 5) (.var 6)), (.sl 0 (.ifeq (.var 2) (.bin .add .i64 (.var 3) (.var 5)) (.ifeq (.var 2) (.lit 0) (.lit 0) (.lit 0)) (.off (.bin .add .i64 (.var 3) (.var 5)) 1 (.ifeq (.var 2) (.lit 0) (.lit 0) (.lit 0)))) (.dif (.bin .add .i64 (.var 1) (.var 5)) (.bin .add .i64 (.var 3) (.var 5))) (.dif (.var 2) (.bin .add .i64 (.var 3) (.var 5))))]⟩ .bool []
 (.ite (.not (.var 8))
 (.chk (.pick (.cmp .geq (.ifeq (.var 2) (.lit 0) (.lit 0) (.lit 0)) (.lit 0)) (.pick (.cmp .leq (.lit 0) (.bin .add .i64 (.var 3) (.var 5))) (.pick (.cmp .leq (.bin .add .i64 (.var 3) (.var 5)) (.bin .add .i64 (.var 1) (.var 5))) (.cmp .leq (.bin .add .i64 (.var 1) (.var 5)) (.var 2)) (.lit false)) (.lit false)) (.lit false))
 (.chk (.pick (.cmp .geq (.ifeq (.var 2) (.lit 0) (.lit 0) (.lit 0)) (.lit 0)) (.pick (.cmp .leq (.lit 0) (.var 3)) (.pick (.cmp .leq (.var 3) (.bin .add .i64 (.var 1) (.var 5))) (.cmp .leq (.bin .add .i64 (.var 1) (.var 5)) (.var 2)) (.lit false)) (.lit false)) (.lit false))
 (.ext false ⟨(.call ⟨.builtin .copy, #[(.tmp 0), (.tmp 0)], #[29, 29]⟩), 3, [(.sl 0 (.ifeq (.var 2) (.bin .add .i64 (.var 3) (.var 5)) (.ifeq (.var 2) (.lit 0) (.lit 0) (.lit 0)) (.off (.bin .add .i64 (.var 3) (.var 5)) 1 (.ifeq (.var 2) (.lit 0) (.lit 0) (.lit 0)))) (.dif (.bin .add .i64 (.var 1) (.var 5)) (.bin .add .i64 (.var 3) (.var 5))) (.dif (.var 2) (.bin .add .i64 (.var 3) (.var 5)))), (.sl 0 (.ifeq (.var 2) (.var 3) (.ifeq (.var 2) (.lit 0) (.lit 0) (.lit 0)) (.off (.var 3) 1 (.ifeq (.var 2) (.lit 0) (.lit 0) (.lit 0)))) (.dif (.bin .add .i64 (.var 1) (.var 5)) (.var 3)) (.dif (.var 2) (.var 3)))]⟩ (.int .i64) []
 (.chk (.pick (.cmp .geq (.ifeq (.var 2) (.lit 0) (.lit 0) (.lit 0)) (.lit 0)) (.pick (.cmp .leq (.lit 0) (.var 3)) (.pick (.cmp .leq (.var 3) (.bin .add .i64 (.var 1) (.var 5))) (.cmp .leq (.bin .add .i64 (.var 1) (.var 5)) (.var 2)) (.lit false)) (.lit false)) (.lit false))
 (.ext false ⟨(.call ⟨.builtin .copy, #[(.tmp 0), (.tmp 0)], #[29, 29]⟩), 3, [(.sl 0 (.ifeq (.var 2) (.var 3) (.ifeq (.var 2) (.lit 0) (.lit 0) (.lit 0)) (.off (.var 3) 1 (.ifeq (.var 2) (.lit 0) (.lit 0) (.lit 0)))) (.dif (.bin .add .i64 (.var 1) (.var 5)) (.var 3)) (.dif (.var 2) (.var 3))), (.sl 4 (.lit 0) (.var 5) (.var 6))]⟩ (.int .i64) []
 (.ret (.sl 0 (.ifeq (.var 2) (.lit 0) (.lit 0) (.lit 0)) (.bin .add .i64 (.var 1) (.var 5)) (.var 2)) []))))))
 (.chk (.pick (.cmp .geq (.ifeq (.var 2) (.lit 0) (.lit 0) (.lit 0)) (.lit 0)) (.pick (.cmp .leq (.lit 0) (.var 1)) (.pick (.cmp .leq (.var 1) (.bin .add .i64 (.var 1) (.var 5))) (.cmp .leq (.bin .add .i64 (.var 1) (.var 5)) (.var 2)) (.lit false)) (.lit false)) (.lit false))
 (.ext false ⟨(.call ⟨.builtin .copy, #[(.tmp 0), (.tmp 0)], #[29, 29]⟩), 3, [(.sl 0 (.ifeq (.var 2) (.var 1) (.ifeq (.var 2) (.lit 0) (.lit 0) (.lit 0)) (.off (.var 1) 1 (.ifeq (.var 2) (.lit 0) (.lit 0) (.lit 0)))) (.dif (.bin .add .i64 (.var 1) (.var 5)) (.var 1)) (.dif (.var 2) (.var 1))), (.sl 4 (.lit 0) (.var 5) (.var 6))]⟩ (.int .i64) []
 (.chk (.pick (.cmp .geq (.ifeq (.var 2) (.lit 0) (.lit 0) (.lit 0)) (.lit 0)) (.pick (.cmp .leq (.lit 0) (.var 3)) (.pick (.cmp .leq (.var 3) (.bin .add .i64 (.var 1) (.var 5))) (.cmp .leq (.bin .add .i64 (.var 1) (.var 5)) (.var 2)) (.lit false)) (.lit false)) (.lit false))
 (.call false 103 [(.sl 0 (.ifeq (.var 2) (.var 3) (.ifeq (.var 2) (.lit 0) (.lit 0) (.lit 0)) (.off (.var 3) 1 (.ifeq (.var 2) (.lit 0) (.lit 0) (.lit 0)))) (.dif (.bin .add .i64 (.var 1) (.var 5)) (.var 3)) (.dif (.var 2) (.var 3))), (.int .i64 (.var 5))] (.tup []) []
 (.ret (.sl 0 (.ifeq (.var 2) (.lit 0) (.lit 0) (.lit 0)) (.bin .add .i64 (.var 1) (.var 5)) (.var 2)) []))))))))))))))))
theorem S_slices_Insert___int_int_ : FnIs Tryd.prog n_slices_Insert___int_int_ [.sl, (.int .i64), .sl] T_slices_Insert___int_int_ := ⟨Tryd.f97, [], 4000, Tryd.func97, by kernel_rfl⟩
abbrev n_multi_steps_2 : FuncId := 99
def T_multi_steps_2 : Tree :=
 (.call false 98 [(.sl 0 (.lit 0) (.var 1) (.var 2))] .sl []
 (.alloc
 (.call false 97 [(.sl 5 (.lit 0) (.var 6) (.var 7)), (.int .i64 (.var 3)), (.slc 0 0 1 1)] .sl [⟨[(.int .i64 (.lit (-1)))], 3⟩]
 (.ret (.sl 8 (.lit 0) (.var 9) (.var 10)) [⟨[(.int .i64 (.lit (-1)))], 3⟩]))))
theorem S_multi_steps_2 : FnIs Tryd.prog n_multi_steps_2 [.sl, (.int .i64), (.int .i64)] T_multi_steps_2 := ⟨Tryd.f99, [], 4000, Tryd.func99, by kernel_rfl⟩
abbrev n_multi_steps_3 : FuncId := 100
def T_multi_steps_3 : Tree :=
 (.alloc
 (.chk (.cmp .geq (.var 1) (.lit 0))
 (.call false 101 [(.slc 0 0 1 1), (.int .i64 (.bin .add .i64 (.var 1) (.lit 1)))] .sl [⟨[(.int .i64 (.lit (-1)))], 3⟩]
 (.chk (.pick (.cmp .geq (.var 3) (.lit 0)) (.pick (.cmp .lss (.var 3) (.var 6)) (.some 5) (.lit false)) (.lit false))
 (.store false 5 (.off (.var 3) 1 (.lit 0)) [(.int .i64 (.var 4))] [⟨[(.int .i64 (.lit (-1)))], 3⟩]
 (.ret (.sl 5 (.lit 0) (.var 6) (.var 7)) [⟨[(.int .i64 (.lit (-1)))], 3⟩]))))))
theorem S_multi_steps_3 : FnIs Tryd.prog n_multi_steps_3 [.sl, (.int .i64), (.int .i64)] T_multi_steps_3 := ⟨Tryd.f100, [], 4000, Tryd.func100, by kernel_rfl⟩
abbrev n_slices_Repeat___int_int_ : FuncId := 101
def T_slices_Repeat___int_int_ : Tree :=
 (.ite (.cmp .lss (.var 3) (.lit 0))
 (.bad "ext slices.go:516")
 (.chk (.cmp .geq (.var 1) (.lit 0))
 (.call false 104 [(.int .u64 (.conv .u64 (.var 1))), (.int .u64 (.conv .u64 (.var 3)))] (.tup [(.int .u64), (.int .u64)]) []
 (.ite (.pick (.cmp .gtr (.var 4) (.lit 0)) (.lit true) (.cmp .gtr (.var 5) (.lit 9223372036854775807)))
 (.bad "ext slices.go:522")
 (.makev 3 8 (.conv .i64 (.var 5)) (.conv .i64 (.var 5))
 (.ext false ⟨(.call ⟨.builtin .copy, #[(.tmp 0), (.tmp 0)], #[29, 29]⟩), 3, [(.sl 6 (.lit 0) (.var 7) (.var 8)), (.sl 0 (.lit 0) (.var 1) (.var 2))]⟩ (.int .i64) []
 (.loop 0 [(.int .i64)] [(.int .i64 (.var 9))] [] []
 (.chk (.cmp .geq (.var 7) (.lit 0))
 (.ite (.cmp .lss (.var 10) (.var 7))
 (.chk (.pick (.cmp .leq (.lit 0) (.var 10)) (.pick (.cmp .leq (.var 10) (.var 7)) (.cmp .leq (.var 7) (.var 8)) (.lit false)) (.lit false))
 (.chk (.pick (.cmp .leq (.lit 0) (.var 10)) (.cmp .leq (.var 10) (.var 8)) (.lit false))
 (.ext false ⟨(.call ⟨.builtin .copy, #[(.tmp 0), (.tmp 0)], #[29, 29]⟩), 3, [(.sl 6 (.ifeq (.var 8) (.var 10) (.lit 0) (.off (.var 10) 1 (.lit 0))) (.dif (.var 7) (.var 10)) (.dif (.var 8) (.var 10))), (.sl 6 (.ifeq (.var 8) (.lit 0) (.lit 0) (.lit 0)) (.var 10) (.var 8))]⟩ (.int .i64) []
 (.again 0 0 [(.int .i64)] [(.int .i64 (.bin .add .i64 (.var 10) (.var 11)))] []))))
 (.ret (.sl 6 (.lit 0) (.var 7) (.var 8)) []))))))))))
theorem S_slices_Repeat___int_int_ : FnIs Tryd.prog n_slices_Repeat___int_int_ [.sl, (.int .i64)] T_slices_Repeat___int_int_ := ⟨Tryd.f101, [], 4000, Tryd.func101, by kernel_rfl⟩
abbrev n_math_bits_Mul : FuncId := 104
def T_math_bits_Mul : Tree :=
 (.call false 107 [(.int .u64 (.var 0)), (.int .u64 (.var 1))] (.tup [(.int .u64), (.int .u64)]) []
 (.ret (.tup [(.int .u64 (.var 2)), (.int .u64 (.var 3))]) []))
theorem S_math_bits_Mul : FnIs Tryd.prog n_math_bits_Mul [(.int .u64), (.int .u64)] T_math_bits_Mul := ⟨Tryd.f104, [], 4000, Tryd.func104, by kernel_rfl⟩
abbrev n_math_bits_Mul64 : FuncId := 107
def T_math_bits_Mul64 : Tree :=
 (.ret (.tup [(.int .u64 (.bin .add .u64 (.bin .add .u64 (.bin .mul .u64 (.bin .shr .u64 (.var 0) (.lit 32)) (.bin .shr .u64 (.var 1) (.lit 32))) (.bin .shr .u64 (.bin .add .u64 (.bin .mul .u64 (.bin .shr .u64 (.var 0) (.lit 32)) (.bin .and .u64 (.var 1) (.lit 4294967295))) (.bin .shr .u64 (.bin .mul .u64 (.bin .and .u64 (.var 0) (.lit 4294967295)) (.bin .and .u64 (.var 1) (.lit 4294967295))) (.lit 32))) (.lit 32))) (.bin .shr .u64 (.bin .add .u64 (.bin .and .u64 (.bin .add .u64 (.bin .mul .u64 (.bin .shr .u64 (.var 0) (.lit 32)) (.bin .and .u64 (.var 1) (.lit 4294967295))) (.bin .shr .u64 (.bin .mul .u64 (.bin .and .u64 (.var 0) (.lit 4294967295)) (.bin .and .u64 (.var 1) (.lit 4294967295))) (.lit 32))) (.lit 4294967295)) (.bin .mul .u64 (.bin .and .u64 (.var 0) (.lit 4294967295)) (.bin .shr .u64 (.var 1) (.lit 32)))) (.lit 32)))), (.int .u64 (.bin .mul .u64 (.var 0) (.var 1)))]) [])
theorem S_math_bits_Mul64 : FnIs Tryd.prog n_math_bits_Mul64 [(.int .u64), (.int .u64)] T_math_bits_Mul64 := ⟨Tryd.f107, [], 4000, Tryd.func107, by kernel_rfl⟩
end Go.Proofs.YtkhcfbdjmpodbaaDoor
