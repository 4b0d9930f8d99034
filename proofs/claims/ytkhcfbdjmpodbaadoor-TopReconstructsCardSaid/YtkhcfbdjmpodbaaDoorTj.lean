/- The trees of this seat's functions, printed by a program of mine (SyGen), checked here by the kernel. -/
import Derived.Test.YtkhcfbdjmpodbaaDoorSyDef
import Derived.Test.YtkhcfbdjmpodbaaDoorProg
import Derived.KernelRfl
set_option maxRecDepth 100000
namespace Go.Proofs.YtkhcfbdjmpodbaaDoor
open Go Go.Sy
abbrev n_proto_Word : FuncId := 7
def T_proto_Word : Tree :=
 (.alloc
 (.call false 16 [(.sl 0 (.lit 0) (.var 1) (.var 2)), (.sl 6 (.lit 0) (.var 7) (.var 8)), (.agg [(.sl 9 (.lit 0) (.var 10) (.var 11)), (.int .i64 (.var 12))])] (.tup [.ptr, (.int .i64)]) [⟨[(.sl 9 (.lit 0) (.var 10) (.var 11)), (.int .i64 (.var 12))], 28⟩]
 (.ite (.cmp .neq (.var 14) (.lit 0))
 (.ret (.tup [(.cst (.slice none 0 0)), (.int .i64 (.lit 0)), (.int .i64 (.var 14))]) [⟨[(.sl 9 (.lit 0) (.var 10) (.var 11)), (.int .i64 (.var 12))], 28⟩])
 (.chk (.cmp .geq (.var 4) (.lit 0))
 (.ite (.cmp .gtr (.var 4) (.lit 64))
 (.ret (.tup [(.cst (.slice none 0 0)), (.int .i64 (.lit 0)), (.int .i64 (.lit 12))]) [⟨[(.sl 9 (.lit 0) (.var 10) (.var 11)), (.int .i64 (.var 12))], 28⟩])
 (.chk (.cmp .geq (.var 4) (.lit 0))
 (.loop 0 [.sl, (.int .i64), (.int .i64), .sl, (.int .i64), (.int .i64)] [(.cst (.slice none 0 0)), (.int .i64 (.lit 0)), (.int .i64 (.lit 0)), (.cst (.slice none 0 0)), (.int .i64 (.lit 0)), (.int .i64 (.lit 0))] [⟨[(.sl 9 (.lit 0) (.var 10) (.var 11)), (.int .i64 (.var 12))], 28⟩] [⟨[(.sl 9 (.lit 0) (.var 10) (.var 11)), (.int .i64 (.var 12))], 28⟩]
 (.ite (.cmp .lss (.var 24) (.var 4))
 (.chk (.pick (.cmp .geq (.var 24) (.lit 0)) (.pick (.cmp .lss (.var 24) (.var 4)) (.some 3) (.lit false)) (.lit false))
 (.load 3 (.off (.var 24) 1 (.lit 0)) [.sl] [⟨[(.sl 9 (.lit 0) (.var 10) (.var 11)), (.int .i64 (.var 12))], 28⟩]
 (.call false 17 [(.ptr 13 (.lit 0)), (.sl 25 (.lit 0) (.var 26) (.var 27))] (.tup [(.agg [(.int .i64), (.int .u32), (.int .u32)]), (.int .i64), (.int .i64)]) [⟨[(.sl 9 (.lit 0) (.var 10) (.var 11)), (.int .i64 (.var 12))], 28⟩]
 (.alloc
 (.ite (.cmp .neq (.var 32) (.lit 0))
 (.ret (.tup [(.cst (.slice none 0 0)), (.int .i64 (.lit 0)), (.int .i64 (.var 32))]) [⟨[(.sl 9 (.lit 0) (.var 10) (.var 11)), (.int .i64 (.var 12))], 28⟩, ⟨[(.int .i64 (.var 28)), (.int .u32 (.var 29)), (.int .u32 (.var 30))], 43⟩])
 (.join 1 [.sl] [⟨[(.sl 9 (.lit 0) (.var 10) (.var 11)), (.int .i64 (.var 12))], 28⟩, ⟨[(.int .i64 (.var 28)), (.int .u32 (.var 29)), (.int .u32 (.var 30))], 43⟩]
 (.ite (.cmp .eql (.var 28) (.lit 2))
 (.alloc
 (.ext false ⟨(.call ⟨.builtin .append, #[(.tmp 0), (.tmp 0)], #[37, 37]⟩), 37, [(.sl 20 (.lit 0) (.var 21) (.var 22)), (.slc 2 0 1 1)]⟩ .sl [⟨[(.sl 9 (.lit 0) (.var 10) (.var 11)), (.int .i64 (.var 12))], 28⟩, ⟨[(.int .i64 (.var 28)), (.int .u32 (.var 29)), (.int .u32 (.var 30))], 43⟩, ⟨[(.int .u32 (.var 29)), (.int .u32 (.var 30))], 41⟩]
 (.again 1 2 [.sl] [(.sl 33 (.lit 0) (.var 34) (.var 35))] [⟨[(.sl 9 (.lit 0) (.var 10) (.var 11)), (.int .i64 (.var 12))], 28⟩, ⟨[(.int .i64 (.var 28)), (.int .u32 (.var 29)), (.int .u32 (.var 30))], 43⟩, ⟨[(.int .u32 (.var 29)), (.int .u32 (.var 30))], 41⟩])))
 (.again 1 2 [.sl] [(.sl 20 (.lit 0) (.var 21) (.var 22))] [⟨[(.sl 9 (.lit 0) (.var 10) (.var 11)), (.int .i64 (.var 12))], 28⟩, ⟨[(.int .i64 (.var 28)), (.int .u32 (.var 29)), (.int .u32 (.var 30))], 43⟩]))
 (.again 0 1 [.sl, (.int .i64), (.int .i64), .sl, (.int .i64), (.int .i64)] [(.sl 15 (.lit 0) (.var 16) (.var 17)), (.int .i64 (.var 18)), (.int .i64 (.var 19)), (.sl 33 (.lit 0) (.var 34) (.var 35)), (.int .i64 (.bin .add .i64 (.var 23) (.var 31))), (.int .i64 (.bin .add .i64 (.var 24) (.lit 1)))] [⟨[(.sl 9 (.lit 0) (.var 10) (.var 11)), (.int .i64 (.var 12))], 28⟩, ⟨[(.int .i64 (.var 28)), (.int .u32 (.var 29)), (.int .u32 (.var 30))], 43⟩])))))))
 (.chk (.cmp .geq (.var 21) (.lit 0))
 (.ite (.cmp .gtr (.var 21) (.lit 32))
 (.ret (.tup [(.cst (.slice none 0 0)), (.int .i64 (.lit 0)), (.int .i64 (.lit 11))]) [⟨[(.sl 9 (.lit 0) (.var 10) (.var 11)), (.int .i64 (.var 12))], 28⟩])
 (.ret (.tup [(.sl 20 (.lit 0) (.var 21) (.var 22)), (.int .i64 (.var 23)), (.int .i64 (.lit 0))]) [⟨[(.sl 9 (.lit 0) (.var 10) (.var 11)), (.int .i64 (.var 12))], 28⟩])))))))))))
theorem S_proto_Word : FnIs Tryd.prog n_proto_Word [.sl, .sl, .sl, (.agg [.sl, (.int .i64)])] T_proto_Word := ⟨Tryd.f7, [{ key := 15, tmps := [], join := true, dead := 64561211587267952752 }], 4000, Tryd.func7, by kernel_rfl⟩
abbrev n_proto_Cost : FuncId := 8
def T_proto_Cost : Tree :=
 (.alloc
 (.call false 16 [(.sl 0 (.lit 0) (.var 1) (.var 2)), (.sl 6 (.lit 0) (.var 7) (.var 8)), (.agg [(.sl 9 (.lit 0) (.var 10) (.var 11)), (.int .i64 (.var 12))])] (.tup [.ptr, (.int .i64)]) [⟨[(.sl 9 (.lit 0) (.var 10) (.var 11)), (.int .i64 (.var 12))], 28⟩]
 (.ite (.cmp .neq (.var 14) (.lit 0))
 (.ret (.tup [(.int .i64 (.lit 0)), (.int .i64 (.var 14))]) [⟨[(.sl 9 (.lit 0) (.var 10) (.var 11)), (.int .i64 (.var 12))], 28⟩])
 (.chk (.cmp .geq (.var 4) (.lit 0))
 (.chk (.cmp .geq (.var 1) (.lit 0))
 (.ite (.cmp .neq (.var 4) (.var 1))
 (.ret (.tup [(.int .i64 (.lit 0)), (.int .i64 (.lit 2))]) [⟨[(.sl 9 (.lit 0) (.var 10) (.var 11)), (.int .i64 (.var 12))], 28⟩])
 (.call false 18 [(.sl 3 (.lit 0) (.var 4) (.var 5))] .bool [⟨[(.sl 9 (.lit 0) (.var 10) (.var 11)), (.int .i64 (.var 12))], 28⟩]
 (.ite (.not (.var 15))
 (.ret (.tup [(.int .i64 (.lit 0)), (.int .i64 (.lit 2))]) [⟨[(.sl 9 (.lit 0) (.var 10) (.var 11)), (.int .i64 (.var 12))], 28⟩])
 (.call false 19 [(.sl 3 (.lit 0) (.var 4) (.var 5)), (.agg [(.int .i64 (.lit 0)), (.int .u32 (.lit 0)), (.int .u32 (.lit 0))])] .bool [⟨[(.sl 9 (.lit 0) (.var 10) (.var 11)), (.int .i64 (.var 12))], 28⟩]
 (.ite (.var 16)
 (.ret (.tup [(.int .i64 (.lit 0)), (.int .i64 (.lit 2))]) [⟨[(.sl 9 (.lit 0) (.var 10) (.var 11)), (.int .i64 (.var 12))], 28⟩])
 (.call false 20 [(.ptr 13 (.lit 0)), (.sl 3 (.lit 0) (.var 4) (.var 5))] (.tup [.sl, .bool, (.int .i64)]) [⟨[(.sl 9 (.lit 0) (.var 10) (.var 11)), (.int .i64 (.var 12))], 28⟩]
 (.ite (.cmp .neq (.var 21) (.lit 0))
 (.ret (.tup [(.int .i64 (.lit 0)), (.int .i64 (.var 21))]) [⟨[(.sl 9 (.lit 0) (.var 10) (.var 11)), (.int .i64 (.var 12))], 28⟩])
 (.chk (.some 13)
 (.chk (.some 13)
 (.load 13 (.lit 3) [.sl] [⟨[(.sl 9 (.lit 0) (.var 10) (.var 11)), (.int .i64 (.var 12))], 28⟩]
 (.call false 21 [(.sl 0 (.lit 0) (.var 1) (.var 2)), (.sl 22 (.lit 0) (.var 23) (.var 24)), (.sl 17 (.lit 0) (.var 18) (.var 19))] (.tup [(.int .i64), (.int .i64)]) [⟨[(.sl 9 (.lit 0) (.var 10) (.var 11)), (.int .i64 (.var 12))], 28⟩]
 (.ret (.tup [(.int .i64 (.var 25)), (.int .i64 (.var 26))]) [⟨[(.sl 9 (.lit 0) (.var 10) (.var 11)), (.int .i64 (.var 12))], 28⟩])))))))))))))))))
theorem S_proto_Cost : FnIs Tryd.prog n_proto_Cost [.sl, .sl, .sl, (.agg [.sl, (.int .i64)])] T_proto_Cost := ⟨Tryd.f8, [], 4000, Tryd.func8, by kernel_rfl⟩
abbrev n_proto_begin : FuncId := 16
def T_proto_begin : Tree :=
 (.alloc
 (.call false 10 [(.sl 0 (.lit 0) (.var 1) (.var 2))] (.int .i64) [⟨[(.sl 6 (.lit 0) (.var 7) (.var 8)), (.int .i64 (.var 9))], 28⟩]
 (.ite (.cmp .neq (.var 10) (.lit 0))
 (.ret (.tup [(.cst (.pointer none)), (.int .i64 (.var 10))]) [⟨[(.sl 6 (.lit 0) (.var 7) (.var 8)), (.int .i64 (.var 9))], 28⟩])
 (.call false 33 [(.sl 3 (.lit 0) (.var 4) (.var 5)), (.agg [(.sl 6 (.lit 0) (.var 7) (.var 8)), (.int .i64 (.var 9))])] (.tup [.sl, (.int .i64)]) [⟨[(.sl 6 (.lit 0) (.var 7) (.var 8)), (.int .i64 (.var 9))], 28⟩]
 (.ite (.cmp .neq (.var 14) (.lit 0))
 (.ret (.tup [(.cst (.pointer none)), (.int .i64 (.var 14))]) [⟨[(.sl 6 (.lit 0) (.var 7) (.var 8)), (.int .i64 (.var 9))], 28⟩])
 (.ext false ⟨(.makeMap 74 none), 74, []⟩ .val [⟨[(.sl 6 (.lit 0) (.var 7) (.var 8)), (.int .i64 (.var 9))], 28⟩]
 (.alloc
 (.chk (.cmp .geq (.var 4) (.lit 0))
 (.loop 0 [(.int .i64)] [(.int .i64 (.lit 0))] [⟨[(.sl 6 (.lit 0) (.var 7) (.var 8)), (.int .i64 (.var 9))], 28⟩, ⟨[(.sl 0 (.lit 0) (.var 1) (.var 2)), (.sl 3 (.lit 0) (.var 4) (.var 5)), (.val 15), (.sl 11 (.lit 0) (.var 12) (.var 13))], 77⟩] [⟨[(.sl 6 (.lit 0) (.var 7) (.var 8)), (.int .i64 (.var 9))], 28⟩, ⟨[(.sl 0 (.lit 0) (.var 1) (.var 2)), (.sl 3 (.lit 0) (.var 4) (.var 5)), (.val 15), (.sl 11 (.lit 0) (.var 12) (.var 13))], 77⟩]
 (.ite (.cmp .lss (.var 16) (.var 4))
 (.chk (.pick (.cmp .geq (.var 16) (.lit 0)) (.pick (.cmp .lss (.var 16) (.var 4)) (.some 3) (.lit false)) (.lit false))
 (.load 3 (.off (.var 16) 2 (.lit 0)) [(.int .u32), (.int .u32)] [⟨[(.sl 6 (.lit 0) (.var 7) (.var 8)), (.int .i64 (.var 9))], 28⟩, ⟨[(.sl 0 (.lit 0) (.var 1) (.var 2)), (.sl 3 (.lit 0) (.var 4) (.var 5)), (.val 15), (.sl 11 (.lit 0) (.var 12) (.var 13))], 77⟩]
 (.alloc
 (.extu false ⟨(.mapUpdate 74 (.tmp 0) (.tmp 0) (.tmp 0)), 0, [(.val 15), (.agg [(.int .u32 (.var 17)), (.int .u32 (.var 18))]), (.int .i64 (.var 16))]⟩ [⟨[(.sl 6 (.lit 0) (.var 7) (.var 8)), (.int .i64 (.var 9))], 28⟩, ⟨[(.sl 0 (.lit 0) (.var 1) (.var 2)), (.sl 3 (.lit 0) (.var 4) (.var 5)), (.val 15), (.sl 11 (.lit 0) (.var 12) (.var 13))], 77⟩, ⟨[(.int .u32 (.var 17)), (.int .u32 (.var 18))], 41⟩]
 (.again 0 2 [(.int .i64)] [(.int .i64 (.bin .add .i64 (.var 16) (.lit 1)))] [⟨[(.sl 6 (.lit 0) (.var 7) (.var 8)), (.int .i64 (.var 9))], 28⟩, ⟨[(.sl 0 (.lit 0) (.var 1) (.var 2)), (.sl 3 (.lit 0) (.var 4) (.var 5)), (.val 15), (.sl 11 (.lit 0) (.var 12) (.var 13))], 77⟩, ⟨[(.int .u32 (.var 17)), (.int .u32 (.var 18))], 41⟩])))))
 (.ret (.tup [(.loc 1 0), (.int .i64 (.lit 0))]) [⟨[(.sl 6 (.lit 0) (.var 7) (.var 8)), (.int .i64 (.var 9))], 28⟩, ⟨[(.sl 0 (.lit 0) (.var 1) (.var 2)), (.sl 3 (.lit 0) (.var 4) (.var 5)), (.val 15), (.sl 11 (.lit 0) (.var 12) (.var 13))], 77⟩])))))))))))
theorem S_proto_begin : FnIs Tryd.prog n_proto_begin [.sl, .sl, (.agg [.sl, (.int .i64)])] T_proto_begin := ⟨Tryd.f16, [], 4000, Tryd.func16, by kernel_rfl⟩
abbrev n___proto_task__best : FuncId := 17
def T___proto_task__best : Tree :=
 (.alloc
 (.allocc 43 ([(.int .i64 (.lit 0)), (.int .u32 (.lit 0)), (.int .u32 (.lit 0))])
 (.allocc 2 ([(.int .i64 (.lit 0))])
 (.call false 34 [(.ptr 0 (.lit 0)), (.sl 1 (.lit 0) (.var 2) (.var 3)), (.fn (.func 35) [] [(.loc 0 0), (.ptr 4 (.lit 0)), (.ptr 5 (.lit 0))])] (.int .i64) [⟨[(.ptr 0 (.lit 0))], 64⟩]
 (.load 4 (.lit 0) [(.int .i64), (.int .u32), (.int .u32)] [⟨[(.ptr 0 (.lit 0))], 64⟩]
 (.load 5 (.lit 0) [(.int .i64)] [⟨[(.ptr 0 (.lit 0))], 64⟩]
 (.store true 4 (.lit 0) [(.int .i64 (.var 7)), (.int .u32 (.var 8)), (.int .u32 (.var 9))] [⟨[(.ptr 0 (.lit 0))], 64⟩]
 (.store false 5 (.lit 0) [(.int .i64 (.var 10))] [⟨[(.ptr 0 (.lit 0))], 64⟩]
 (.load 4 (.lit 0) [(.int .i64), (.int .u32), (.int .u32)] [⟨[(.ptr 0 (.lit 0))], 64⟩]
 (.load 5 (.lit 0) [(.int .i64)] [⟨[(.ptr 0 (.lit 0))], 64⟩]
 (.ret (.tup [(.agg [(.int .i64 (.var 11)), (.int .u32 (.var 12)), (.int .u32 (.var 13))]), (.int .i64 (.var 14)), (.int .i64 (.var 6))]) [⟨[(.ptr 0 (.lit 0))], 64⟩])))))))))))
theorem S___proto_task__best : FnIs Tryd.prog n___proto_task__best [.ptr, .sl] T___proto_task__best := ⟨Tryd.f17, [{ key := 999999, tmps := [], join := false, dead := 48 }], 4000, Tryd.func17, by kernel_rfl⟩
abbrev n_proto_valid : FuncId := 18
def T_proto_valid : Tree :=
 (.alloc
 (.call false 39 [(.slc 0 0 1 1)] (.tup [(.int .i64), (.int .i64)]) [⟨[(.sl 0 (.lit 0) (.var 1) (.var 2)), (.int .i64 (.lit 1))], 97⟩]
 (.ret (.bool (.cmp .eql (.var 4) (.lit 0))) [⟨[(.sl 0 (.lit 0) (.var 1) (.var 2)), (.int .i64 (.lit 1))], 97⟩])))
theorem S_proto_valid : FnIs Tryd.prog n_proto_valid [.sl] T_proto_valid := ⟨Tryd.f18, [], 4000, Tryd.func18, by kernel_rfl⟩
abbrev n_slices_Contains___api_Cell_api_Cell_ : FuncId := 19
def T_slices_Contains___api_Cell_api_Cell_ : Tree :=
 (.alloc
 (.call false 40 [(.sl 0 (.lit 0) (.var 1) (.var 2)), (.agg [(.int .i64 (.var 3)), (.int .u32 (.var 4)), (.int .u32 (.var 5))])] (.int .i64) [⟨[(.int .i64 (.var 3)), (.int .u32 (.var 4)), (.int .u32 (.var 5))], 43⟩]
 (.ret (.bool (.cmp .geq (.var 6) (.lit 0))) [⟨[(.int .i64 (.var 3)), (.int .u32 (.var 4)), (.int .u32 (.var 5))], 43⟩])))
theorem S_slices_Contains___api_Cell_api_Cell_ : FnIs Tryd.prog n_slices_Contains___api_Cell_api_Cell_ [.sl, (.agg [(.int .i64), (.int .u32), (.int .u32)])] T_slices_Contains___api_Cell_api_Cell_ := ⟨Tryd.f19, [], 4000, Tryd.func19, by kernel_rfl⟩
abbrev n___proto_task__states : FuncId := 20
def T___proto_task__states : Tree :=
 (.chk (.cmp .geq (.var 2) (.lit 0))
 (.loop 0 [.sl, .bool, (.int .i64), (.int .i64)] [(.cst (.slice none 0 0)), (.bool (.lit false)), (.int .i64 (.lit 0)), (.int .i64 (.lit 0))] [] []
 (.join 1 [] []
 (.ite (.cmp .lss (.var 9) (.var 2))
 (.again 1 0 [] [] [])
 (.ret (.tup [(.sl 4 (.lit 0) (.var 5) (.var 6)), (.bool (.var 7)), (.int .i64 (.lit 0))]) []))
 (.chk (.pick (.cmp .geq (.var 9) (.lit 0)) (.pick (.cmp .lss (.var 9) (.var 2)) (.some 1) (.lit false)) (.lit false))
 (.load 1 (.off (.var 9) 3 (.lit 0)) [(.int .i64), (.int .u32), (.int .u32)] []
 (.alloc
 (.join 1 [.sl, .bool, (.int .i64), (.int .i64)] [⟨[(.int .i64 (.var 10)), (.int .u32 (.var 11)), (.int .u32 (.var 12))], 43⟩]
 (.ite (.cmp .eql (.var 10) (.lit 0))
 (.again 1 1 [.sl, .bool, (.int .i64), (.int .i64)] [(.sl 4 (.lit 0) (.var 5) (.var 6)), (.bool (.var 7)), (.int .i64 (.var 8)), (.int .i64 (.lit (-1)))] [⟨[(.int .i64 (.var 10)), (.int .u32 (.var 11)), (.int .u32 (.var 12))], 43⟩])
 (.join 2 [.sl, .bool, (.int .i64), (.int .i64)] [⟨[(.int .i64 (.var 10)), (.int .u32 (.var 11)), (.int .u32 (.var 12))], 43⟩]
 (.ite (.cmp .eql (.var 10) (.lit 1))
 (.chk (.some 0)
 (.chk (.some 0)
 (.load 0 (.lit 1) [.sl] [⟨[(.int .i64 (.var 10)), (.int .u32 (.var 11)), (.int .u32 (.var 12))], 43⟩]
 (.chk (.cmp .geq (.var 14) (.lit 0))
 (.again 2 1 [.sl, .bool, (.int .i64), (.int .i64)] [(.sl 4 (.lit 0) (.var 5) (.var 6)), (.bool (.lit true)), (.int .i64 (.var 8)), (.int .i64 (.var 14))] [⟨[(.int .i64 (.var 10)), (.int .u32 (.var 11)), (.int .u32 (.var 12))], 43⟩])))))
 (.chk (.some 0)
 (.chk (.some 0)
 (.load 0 (.lit 2) [.val] [⟨[(.int .i64 (.var 10)), (.int .u32 (.var 11)), (.int .u32 (.var 12))], 43⟩]
 (.extp ⟨(.lookup 74 (.tmp 0) (.tmp 0) true), 100, [(.val 13), (.agg [(.int .u32 (.var 11)), (.int .u32 (.var 12))])]⟩ (.tup [(.int .i64), .bool]) [⟨[(.int .i64 (.var 10)), (.int .u32 (.var 11)), (.int .u32 (.var 12))], 43⟩]
 (.ite (.not (.var 15))
 (.ret (.tup [(.cst (.slice none 0 0)), (.bool (.lit false)), (.int .i64 (.lit 5))]) [⟨[(.int .i64 (.var 10)), (.int .u32 (.var 11)), (.int .u32 (.var 12))], 43⟩])
 (.again 2 1 [.sl, .bool, (.int .i64), (.int .i64)] [(.sl 4 (.lit 0) (.var 5) (.var 6)), (.bool (.lit true)), (.int .i64 (.var 8)), (.int .i64 (.var 14))] [⟨[(.int .i64 (.var 10)), (.int .u32 (.var 11)), (.int .u32 (.var 12))], 43⟩])))))))
 (.again 1 1 [.sl, .bool, (.int .i64), (.int .i64)] [(.sl 13 (.lit 0) (.var 14) (.var 15)), (.bool (.var 16)), (.int .i64 (.var 17)), (.int .i64 (.var 18))] [⟨[(.int .i64 (.var 10)), (.int .u32 (.var 11)), (.int .u32 (.var 12))], 43⟩])))
 (.alloc
 (.ext false ⟨(.call ⟨.builtin .append, #[(.tmp 0), (.tmp 0)], #[29, 29]⟩), 29, [(.sl 13 (.lit 0) (.var 14) (.var 15)), (.slc 1 0 1 1)]⟩ .sl [⟨[(.int .i64 (.var 10)), (.int .u32 (.var 11)), (.int .u32 (.var 12))], 43⟩, ⟨[(.int .i64 (.var 18))], 3⟩]
 (.again 0 0 [.sl, .bool, (.int .i64), (.int .i64)] [(.sl 19 (.lit 0) (.var 20) (.var 21)), (.bool (.var 16)), (.int .i64 (.var 17)), (.int .i64 (.bin .add .i64 (.var 9) (.lit 1)))] [⟨[(.int .i64 (.var 10)), (.int .u32 (.var 11)), (.int .u32 (.var 12))], 43⟩, ⟨[(.int .i64 (.var 18))], 3⟩]))))))))))
theorem S___proto_task__states : FnIs Tryd.prog n___proto_task__states [.ptr, .sl] T___proto_task__states := ⟨Tryd.f20, [{ key := 0, tmps := [], join := true, dead := 2251762769526924 }, { key := 11, tmps := [], join := true }], 4000, Tryd.func20, by kernel_rfl⟩
abbrev n_proto_Matrix : FuncId := 33
def T_proto_Matrix : Tree :=
 (.alloc
 (.chk (.cmp .geq (.var 1) (.lit 0))
 (.ite (.cmp .gtr (.var 1) (.lit 11))
 (.ret (.tup [(.cst (.slice none 0 0)), (.int .i64 (.lit 12))]) [⟨[(.sl 3 (.lit 0) (.var 4) (.var 5)), (.int .i64 (.var 6))], 28⟩])
 (.ite (.cmp .eql (.var 1) (.lit 0))
 (.ret (.tup [(.cst (.slice none 0 0)), (.int .i64 (.lit 5))]) [⟨[(.sl 3 (.lit 0) (.var 4) (.var 5)), (.int .i64 (.var 6))], 28⟩])
 (.chk (.cmp .geq (.var 1) (.lit 0))
 (.loop 0 [.sl, (.int .i64), (.int .i64)] [(.cst (.slice none 0 0)), (.int .i64 (.lit 0)), (.int .i64 (.lit 0))] [⟨[(.sl 3 (.lit 0) (.var 4) (.var 5)), (.int .i64 (.var 6))], 28⟩] [⟨[(.sl 3 (.lit 0) (.var 4) (.var 5)), (.int .i64 (.var 6))], 28⟩]
 (.ite (.cmp .lss (.var 11) (.var 1))
 (.chk (.pick (.cmp .geq (.var 11) (.lit 0)) (.pick (.cmp .lss (.var 11) (.var 1)) (.some 0) (.lit false)) (.lit false))
 (.load 0 (.off (.var 11) 2 (.lit 0)) [(.int .u32), (.int .u32)] [⟨[(.sl 3 (.lit 0) (.var 4) (.var 5)), (.int .i64 (.var 6))], 28⟩]
 (.alloc
 (.call false 49 [(.agg [(.int .u32 (.var 12)), (.int .u32 (.var 13))])] .bool [⟨[(.sl 3 (.lit 0) (.var 4) (.var 5)), (.int .i64 (.var 6))], 28⟩, ⟨[(.int .u32 (.var 12)), (.int .u32 (.var 13))], 41⟩]
 (.ite (.not (.var 14))
 (.ret (.tup [(.cst (.slice none 0 0)), (.int .i64 (.lit 14))]) [⟨[(.sl 3 (.lit 0) (.var 4) (.var 5)), (.int .i64 (.var 6))], 28⟩, ⟨[(.int .u32 (.var 12)), (.int .u32 (.var 13))], 41⟩])
 (.chk (.pick (.cmp .leq (.lit 0) (.var 11)) (.cmp .leq (.var 11) (.var 2)) (.lit false))
 (.call false 50 [(.sl 0 (.ifeq (.var 2) (.lit 0) (.lit 0) (.lit 0)) (.var 11) (.var 2)), (.agg [(.int .u32 (.var 12)), (.int .u32 (.var 13))])] .bool [⟨[(.sl 3 (.lit 0) (.var 4) (.var 5)), (.int .i64 (.var 6))], 28⟩, ⟨[(.int .u32 (.var 12)), (.int .u32 (.var 13))], 41⟩]
 (.ite (.var 15)
 (.ret (.tup [(.cst (.slice none 0 0)), (.int .i64 (.lit 6))]) [⟨[(.sl 3 (.lit 0) (.var 4) (.var 5)), (.int .i64 (.var 6))], 28⟩, ⟨[(.int .u32 (.var 12)), (.int .u32 (.var 13))], 41⟩])
 (.again 0 1 [.sl, (.int .i64), (.int .i64)] [(.sl 7 (.lit 0) (.var 8) (.var 9)), (.int .i64 (.var 10)), (.int .i64 (.bin .add .i64 (.var 11) (.lit 1)))] [⟨[(.sl 3 (.lit 0) (.var 4) (.var 5)), (.int .i64 (.var 6))], 28⟩, ⟨[(.int .u32 (.var 12)), (.int .u32 (.var 13))], 41⟩])))))))))
 (.call false 12 [(.agg [(.sl 3 (.lit 0) (.var 4) (.var 5)), (.int .i64 (.var 6))])] (.int .i64) [⟨[(.sl 3 (.lit 0) (.var 4) (.var 5)), (.int .i64 (.var 6))], 28⟩]
 (.ite (.cmp .neq (.var 12) (.lit 0))
 (.ret (.tup [(.cst (.slice none 0 0)), (.int .i64 (.lit 2))]) [⟨[(.sl 3 (.lit 0) (.var 4) (.var 5)), (.int .i64 (.var 6))], 28⟩])
 (.chk (.cmp .geq (.var 1) (.lit 0))
 (.makev 26 24 (.bin .add .i64 (.var 1) (.lit 1)) (.bin .add .i64 (.var 1) (.lit 1))
 (.chk (.cmp .geq (.var 14) (.lit 0))
 (.loop 0 [.sl, (.int .i64), (.int .i64)] [(.sl 7 (.lit 0) (.var 8) (.var 9)), (.int .i64 (.var 10)), (.int .i64 (.lit 0))] [⟨[(.sl 3 (.lit 0) (.var 4) (.var 5)), (.int .i64 (.var 6))], 28⟩] [⟨[(.sl 3 (.lit 0) (.var 4) (.var 5)), (.int .i64 (.var 6))], 28⟩]
 (.ite (.cmp .lss (.var 20) (.var 14))
 (.makev 2 8 (.bin .add .i64 (.var 1) (.lit 1)) (.bin .add .i64 (.var 1) (.lit 1))
 (.chk (.pick (.cmp .geq (.var 20) (.lit 0)) (.pick (.cmp .lss (.var 20) (.var 14)) (.some 13) (.lit false)) (.lit false))
 (.store false 13 (.off (.var 20) 1 (.lit 0)) [(.sl 21 (.lit 0) (.var 22) (.var 23))] [⟨[(.sl 3 (.lit 0) (.var 4) (.var 5)), (.int .i64 (.var 6))], 28⟩]
 (.loop 1 [.sl, (.int .i64), (.int .i64)] [(.sl 16 (.lit 0) (.var 17) (.var 18)), (.int .i64 (.var 19)), (.int .i64 (.lit 0))] [⟨[(.sl 3 (.lit 0) (.var 4) (.var 5)), (.int .i64 (.var 6))], 28⟩] [⟨[(.sl 3 (.lit 0) (.var 4) (.var 5)), (.int .i64 (.var 6))], 28⟩]
 (.ite (.cmp .lss (.var 28) (.var 20))
 (.join 2 [(.int .i64)] [⟨[(.sl 3 (.lit 0) (.var 4) (.var 5)), (.int .i64 (.var 6))], 28⟩]
 (.ite (.cmp .lss (.var 20) (.var 1))
 (.chk (.pick (.cmp .geq (.var 20) (.lit 0)) (.pick (.cmp .lss (.var 20) (.var 1)) (.some 0) (.lit false)) (.lit false))
 (.load 0 (.off (.var 20) 2 (.lit 0)) [(.int .u32), (.int .u32)] [⟨[(.sl 3 (.lit 0) (.var 4) (.var 5)), (.int .i64 (.var 6))], 28⟩]
 (.chk (.pick (.cmp .geq (.var 28) (.lit 0)) (.pick (.cmp .lss (.var 28) (.var 1)) (.some 0) (.lit false)) (.lit false))
 (.load 0 (.off (.var 28) 2 (.lit 0)) [(.int .u32), (.int .u32)] [⟨[(.sl 3 (.lit 0) (.var 4) (.var 5)), (.int .i64 (.var 6))], 28⟩]
 (.call false 45 [(.agg [(.int .u32 (.var 29)), (.int .u32 (.var 30))]), (.agg [(.int .u32 (.var 31)), (.int .u32 (.var 32))]), (.agg [(.sl 3 (.lit 0) (.var 4) (.var 5)), (.int .i64 (.var 6))])] (.tup [(.int .i64), (.int .i64)]) [⟨[(.sl 3 (.lit 0) (.var 4) (.var 5)), (.int .i64 (.var 6))], 28⟩]
 (.again 2 1 [(.int .i64)] [(.int .i64 (.var 33))] [⟨[(.sl 3 (.lit 0) (.var 4) (.var 5)), (.int .i64 (.var 6))], 28⟩]))))))
 (.again 2 1 [(.int .i64)] [(.int .i64 (.var 6))] [⟨[(.sl 3 (.lit 0) (.var 4) (.var 5)), (.int .i64 (.var 6))], 28⟩]))
 (.ite (.cmp .gtr (.var 29) (.lit 1073741824))
 (.ret (.tup [(.cst (.slice none 0 0)), (.int .i64 (.lit 7))]) [⟨[(.sl 3 (.lit 0) (.var 4) (.var 5)), (.int .i64 (.var 6))], 28⟩])
 (.chk (.pick (.cmp .geq (.var 20) (.lit 0)) (.pick (.cmp .lss (.var 20) (.var 14)) (.some 13) (.lit false)) (.lit false))
 (.load 13 (.off (.var 20) 1 (.lit 0)) [.sl] [⟨[(.sl 3 (.lit 0) (.var 4) (.var 5)), (.int .i64 (.var 6))], 28⟩]
 (.chk (.pick (.cmp .geq (.var 28) (.lit 0)) (.pick (.cmp .lss (.var 28) (.var 14)) (.some 13) (.lit false)) (.lit false))
 (.load 13 (.off (.var 28) 1 (.lit 0)) [.sl] [⟨[(.sl 3 (.lit 0) (.var 4) (.var 5)), (.int .i64 (.var 6))], 28⟩]
 (.chk (.pick (.cmp .geq (.var 28) (.lit 0)) (.pick (.cmp .lss (.var 28) (.var 31)) (.some 30) (.lit false)) (.lit false))
 (.store false 30 (.off (.var 28) 1 (.lit 0)) [(.int .i64 (.var 29))] [⟨[(.sl 3 (.lit 0) (.var 4) (.var 5)), (.int .i64 (.var 6))], 28⟩]
 (.chk (.pick (.cmp .geq (.var 20) (.lit 0)) (.pick (.cmp .lss (.var 20) (.var 34)) (.some 33) (.lit false)) (.lit false))
 (.store false 33 (.off (.var 20) 1 (.lit 0)) [(.int .i64 (.var 29))] [⟨[(.sl 3 (.lit 0) (.var 4) (.var 5)), (.int .i64 (.var 6))], 28⟩]
 (.again 1 1 [.sl, (.int .i64), (.int .i64)] [(.sl 24 (.lit 0) (.var 25) (.var 26)), (.int .i64 (.var 27)), (.int .i64 (.bin .add .i64 (.var 28) (.lit 1)))] [⟨[(.sl 3 (.lit 0) (.var 4) (.var 5)), (.int .i64 (.var 6))], 28⟩])))))))))))
 (.again 0 1 [.sl, (.int .i64), (.int .i64)] [(.sl 24 (.lit 0) (.var 25) (.var 26)), (.int .i64 (.var 27)), (.int .i64 (.bin .add .i64 (.var 20) (.lit 1)))] [⟨[(.sl 3 (.lit 0) (.var 4) (.var 5)), (.int .i64 (.var 6))], 28⟩]))))))
 (.ret (.tup [(.sl 13 (.lit 0) (.var 14) (.var 15)), (.int .i64 (.lit 0))]) [⟨[(.sl 3 (.lit 0) (.var 4) (.var 5)), (.int .i64 (.var 6))], 28⟩])))))))))))))))
theorem S_proto_Matrix : FnIs Tryd.prog n_proto_Matrix [.sl, (.agg [.sl, (.int .i64)])] T_proto_Matrix := ⟨Tryd.f33, [{ key := 27, tmps := [], join := true, dead := 316911441093334454948190404612 }], 4000, Tryd.func33, by kernel_rfl⟩
abbrev n___proto_task__on : FuncId := 34
def T___proto_task__on : Tree :=
 (.chk (.some 0)
 (.chk (.some 0)
 (.load 0 (.lit 0) [.sl] []
 (.call false 4 [(.sl 5 (.lit 0) (.var 6) (.var 7))] (.tup [.sl, (.int .i64)]) []
 (.chk (.cmp .geq (.var 2) (.lit 0))
 (.chk (.cmp .geq (.var 9) (.lit 0))
 (.ite (.cmp .neq (.var 2) (.var 9))
 (.ret (.int .i64 (.lit 2)) [])
 (.call false 18 [(.sl 1 (.lit 0) (.var 2) (.var 3))] .bool []
 (.ite (.not (.var 12))
 (.ret (.int .i64 (.lit 2)) [])
 (.call false 20 [(.ptr 0 (.lit 0)), (.sl 1 (.lit 0) (.var 2) (.var 3))] (.tup [.sl, .bool, (.int .i64)]) []
 (.ite (.pick (.cmp .neq (.var 17) (.lit 0)) (.lit true) (.not (.var 16)))
 (.ret (.int .i64 (.var 17)) [])
 (.callv false (.val 4) [(.sl 13 (.lit 0) (.var 14) (.var 15))] (.int .i64) []
 (.ret (.int .i64 (.var 18)) [])))))))))))))
theorem S___proto_task__on : FnIs Tryd.prog n___proto_task__on [.ptr, .sl, .val] T___proto_task__on := ⟨Tryd.f34, [], 4000, Tryd.func34, by kernel_rfl⟩
abbrev n___proto_task__best_1 : FuncId := 35
def T___proto_task__best_1 : Tree :=
 (.load 3 (.lit 0) [.ptr] []
 (.chk (.some 6)
 (.chk (.some 6)
 (.load 6 (.lit 0) [.sl] []
 (.load 3 (.lit 0) [.ptr] []
 (.chk (.some 10)
 (.chk (.some 10)
 (.load 10 (.lit 3) [.sl] []
 (.call false 36 [(.sl 7 (.lit 0) (.var 8) (.var 9)), (.sl 11 (.lit 0) (.var 12) (.var 13)), (.sl 0 (.lit 0) (.var 1) (.var 2))] (.tup [.sl, (.int .i64)]) []
 (.ite (.cmp .neq (.var 17) (.lit 0))
 (.ret (.int .i64 (.var 17)) [])
 (.load 3 (.lit 0) [.ptr] []
 (.chk (.pick (.cmp .lss (.lit 0) (.var 15)) (.some 14) (.lit false))
 (.load 14 (.lit 0) [(.int .i64)] []
 (.call false 37 [(.ptr 18 (.lit 0)), (.int .i64 (.var 19))] (.agg [(.int .i64), (.int .u32), (.int .u32)]) []
 (.store false 4 (.lit 0) [(.int .i64 (.var 20)), (.int .u32 (.var 21)), (.int .u32 (.var 22))] []
 (.load 3 (.lit 0) [.ptr] []
 (.chk (.some 23)
 (.chk (.some 23)
 (.load 23 (.lit 0) [.sl] []
 (.load 3 (.lit 0) [.ptr] []
 (.chk (.some 27)
 (.chk (.some 27)
 (.load 27 (.lit 3) [.sl] []
 (.call false 38 [(.sl 24 (.lit 0) (.var 25) (.var 26)), (.sl 28 (.lit 0) (.var 29) (.var 30)), (.sl 0 (.lit 0) (.var 1) (.var 2))] (.tup [(.int .i64), (.int .i64)]) []
 (.store false 5 (.lit 0) [(.int .i64 (.var 31))] []
 (.ret (.int .i64 (.var 32)) []))))))))))))))))))))))))))
theorem S___proto_task__best_1 : FnIs Tryd.prog n___proto_task__best_1 [.sl, .ptr, .ptr, .ptr] T___proto_task__best_1 := ⟨Tryd.f35, [], 4000, Tryd.func35, by kernel_rfl⟩
abbrev n___proto_task__cell : FuncId := 37
def T___proto_task__cell : Tree :=
 (.alloc
 (.chk (.some 0)
 (.chk (.some 0)
 (.load 0 (.lit 1) [.sl] [⟨[(.int .i64 (.lit 0)), (.int .u32 (.lit 0)), (.int .u32 (.lit 0))], 43⟩]
 (.chk (.cmp .geq (.var 3) (.lit 0))
 (.ite (.cmp .eql (.var 1) (.var 3))
 (.ret (.agg [(.int .i64 (.lit 1)), (.int .u32 (.lit 0)), (.int .u32 (.lit 0))]) [⟨[(.int .i64 (.lit 1)), (.int .u32 (.lit 0)), (.int .u32 (.lit 0))], 43⟩])
 (.chk (.some 0)
 (.chk (.some 0)
 (.load 0 (.lit 1) [.sl] [⟨[(.int .i64 (.lit 0)), (.int .u32 (.lit 0)), (.int .u32 (.lit 0))], 43⟩]
 (.chk (.pick (.cmp .geq (.var 1) (.lit 0)) (.pick (.cmp .lss (.var 1) (.var 6)) (.some 5) (.lit false)) (.lit false))
 (.load 5 (.off (.var 1) 2 (.lit 0)) [(.int .u32), (.int .u32)] [⟨[(.int .i64 (.lit 0)), (.int .u32 (.lit 0)), (.int .u32 (.lit 0))], 43⟩]
 (.ret (.agg [(.int .i64 (.lit 2)), (.int .u32 (.var 8)), (.int .u32 (.var 9))]) [⟨[(.int .i64 (.lit 2)), (.int .u32 (.var 8)), (.int .u32 (.var 9))], 43⟩]))))))))))))
theorem S___proto_task__cell : FnIs Tryd.prog n___proto_task__cell [.ptr, (.int .i64)] T___proto_task__cell := ⟨Tryd.f37, [], 4000, Tryd.func37, by kernel_rfl⟩
abbrev n_slices_Index___api_Cell_api_Cell_ : FuncId := 40
def T_slices_Index___api_Cell_api_Cell_ : Tree :=
 (.alloc
 (.chk (.cmp .geq (.var 1) (.lit 0))
 (.loop 0 [(.int .i64), (.int .i64)] [(.int .i64 (.lit 0)), (.int .i64 (.lit 0))] [⟨[(.int .i64 (.var 3)), (.int .u32 (.var 4)), (.int .u32 (.var 5))], 43⟩] [⟨[(.int .i64 (.var 3)), (.int .u32 (.var 4)), (.int .u32 (.var 5))], 43⟩]
 (.ite (.cmp .lss (.var 7) (.var 1))
 (.chk (.pick (.cmp .geq (.var 7) (.lit 0)) (.pick (.cmp .lss (.var 7) (.var 1)) (.some 0) (.lit false)) (.lit false))
 (.load 0 (.off (.var 7) 3 (.lit 0)) [(.int .i64), (.int .u32), (.int .u32)] [⟨[(.int .i64 (.var 3)), (.int .u32 (.var 4)), (.int .u32 (.var 5))], 43⟩]
 (.ite (.pick (.cmp .eql (.var 3) (.var 8)) (.pick (.cmp .eql (.var 4) (.var 9)) (.cmp .eql (.var 5) (.var 10)) (.lit false)) (.lit false))
 (.ret (.int .i64 (.var 7)) [⟨[(.int .i64 (.var 3)), (.int .u32 (.var 4)), (.int .u32 (.var 5))], 43⟩])
 (.again 0 1 [(.int .i64), (.int .i64)] [(.int .i64 (.var 6)), (.int .i64 (.bin .add .i64 (.var 7) (.lit 1)))] [⟨[(.int .i64 (.var 3)), (.int .u32 (.var 4)), (.int .u32 (.var 5))], 43⟩]))))
 (.ret (.int .i64 (.lit (-1))) [⟨[(.int .i64 (.var 3)), (.int .u32 (.var 4)), (.int .u32 (.var 5))], 43⟩])))))
theorem S_slices_Index___api_Cell_api_Cell_ : FnIs Tryd.prog n_slices_Index___api_Cell_api_Cell_ [.sl, (.agg [(.int .i64), (.int .u32), (.int .u32)])] T_slices_Index___api_Cell_api_Cell_ := ⟨Tryd.f40, [], 4000, Tryd.func40, by kernel_rfl⟩
abbrev n_slices_Contains___api_Sound_api_Sound_ : FuncId := 50
def T_slices_Contains___api_Sound_api_Sound_ : Tree :=
 (.alloc
 (.call false 58 [(.sl 0 (.lit 0) (.var 1) (.var 2)), (.agg [(.int .u32 (.var 3)), (.int .u32 (.var 4))])] (.int .i64) [⟨[(.int .u32 (.var 3)), (.int .u32 (.var 4))], 41⟩]
 (.ret (.bool (.cmp .geq (.var 5) (.lit 0))) [⟨[(.int .u32 (.var 3)), (.int .u32 (.var 4))], 41⟩])))
theorem S_slices_Contains___api_Sound_api_Sound_ : FnIs Tryd.prog n_slices_Contains___api_Sound_api_Sound_ [.sl, (.agg [(.int .u32), (.int .u32)])] T_slices_Contains___api_Sound_api_Sound_ := ⟨Tryd.f50, [], 4000, Tryd.func50, by kernel_rfl⟩
abbrev n_slices_Index___api_Sound_api_Sound_ : FuncId := 58
def T_slices_Index___api_Sound_api_Sound_ : Tree :=
 (.alloc
 (.chk (.cmp .geq (.var 1) (.lit 0))
 (.loop 0 [(.int .i64), (.int .i64)] [(.int .i64 (.lit 0)), (.int .i64 (.lit 0))] [⟨[(.int .u32 (.var 3)), (.int .u32 (.var 4))], 41⟩] [⟨[(.int .u32 (.var 3)), (.int .u32 (.var 4))], 41⟩]
 (.ite (.cmp .lss (.var 6) (.var 1))
 (.chk (.pick (.cmp .geq (.var 6) (.lit 0)) (.pick (.cmp .lss (.var 6) (.var 1)) (.some 0) (.lit false)) (.lit false))
 (.load 0 (.off (.var 6) 2 (.lit 0)) [(.int .u32), (.int .u32)] [⟨[(.int .u32 (.var 3)), (.int .u32 (.var 4))], 41⟩]
 (.ite (.pick (.cmp .eql (.var 3) (.var 7)) (.cmp .eql (.var 4) (.var 8)) (.lit false))
 (.ret (.int .i64 (.var 6)) [⟨[(.int .u32 (.var 3)), (.int .u32 (.var 4))], 41⟩])
 (.again 0 1 [(.int .i64), (.int .i64)] [(.int .i64 (.var 5)), (.int .i64 (.bin .add .i64 (.var 6) (.lit 1)))] [⟨[(.int .u32 (.var 3)), (.int .u32 (.var 4))], 41⟩]))))
 (.ret (.int .i64 (.lit (-1))) [⟨[(.int .u32 (.var 3)), (.int .u32 (.var 4))], 41⟩])))))
theorem S_slices_Index___api_Sound_api_Sound_ : FnIs Tryd.prog n_slices_Index___api_Sound_api_Sound_ [.sl, (.agg [(.int .u32), (.int .u32)])] T_slices_Index___api_Sound_api_Sound_ := ⟨Tryd.f58, [], 4000, Tryd.func58, by kernel_rfl⟩
end Go.Proofs.YtkhcfbdjmpodbaaDoor
