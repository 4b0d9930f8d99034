/- The trees of this seat's functions, printed by a program of mine (SyGen), checked here by the kernel. -/
import Derived.Test.YtpbbnmjkbfbelaaGreatDoorSyDef
import Derived.Test.YtpbbnmjkbfbelaaGreatDoorProg
import Derived.KernelRfl
set_option maxRecDepth 100000
namespace Go.Proofs.YtpbbnmjkbfbelaaGreatDoor
open Go Go.Sy
abbrev n_law30_few : FuncId := 4
def T_law30_few : Tree :=
 (.chk (.cmp .geq (.var 1) (.lit 0))
 (.ite (.cmp .gtr (.var 1) (.lit 12))
 (.chk (.cmp .geq (.var 1) (.lit 0))
 (.ite (.cmp .leq (.var 1) (.lit 256))
 (.ret (.bool (.lit false)) [])
 (.chk (.cmp .geq (.var 1) (.lit 0))
 (.ite (.cmp .gtr (.var 1) (.lit 400))
 (.ret (.bool (.lit false)) [])
 (.loop 0 [.bool, (.int .i64)] [(.bool (.lit false)), (.int .i64 (.lit 0))] [] []
 (.chk (.cmp .geq (.var 1) (.lit 0))
 (.ite (.cmp .lss (.var 4) (.var 1))
 (.join 1 [.bool] []
 (.chk (.pick (.cmp .geq (.var 4) (.lit 0)) (.pick (.cmp .lss (.var 4) (.var 1)) (.some 0) (.lit false)) (.lit false))
 (.chk (.pick (.cmp .geq (.off (.var 4) 2 (.lit 0)) (.lit 0)) (.some 0) (.lit false))
 (.load 0 (.off (.var 4) 2 (.lit 0)) [.sl] []
 (.chk (.cmp .geq (.var 6) (.lit 0))
 (.ite (.cmp .gtr (.var 6) (.lit 100))
 (.again 1 0 [.bool] [(.bool (.lit true))] [])
 (.chk (.pick (.cmp .geq (.var 4) (.lit 0)) (.pick (.cmp .lss (.var 4) (.var 1)) (.some 0) (.lit false)) (.lit false))
 (.chk (.pick (.cmp .geq (.off (.var 4) 2 (.lit 0)) (.lit 0)) (.some 0) (.lit false))
 (.load 0 (.off (.lit 1) 1 (.off (.var 4) 2 (.lit 0))) [.sl] []
 (.chk (.cmp .geq (.var 9) (.lit 0))
 (.again 1 0 [.bool] [(.bool (.cmp .gtr (.var 9) (.lit 100)))] []))))))))))
 (.ite (.var 5)
 (.ret (.bool (.lit false)) [])
 (.again 0 0 [.bool, (.int .i64)] [(.bool (.var 3)), (.int .i64 (.bin .add .i64 (.var 4) (.lit 1)))] [])))
 (.ret (.bool (.lit true)) []))))))))
 (.chk (.cmp .geq (.var 1) (.lit 0))
 (.ite (.cmp .gtr (.var 1) (.lit 400))
 (.ret (.bool (.lit false)) [])
 (.loop 0 [.bool, (.int .i64)] [(.bool (.lit false)), (.int .i64 (.lit 0))] [] []
 (.chk (.cmp .geq (.var 1) (.lit 0))
 (.ite (.cmp .lss (.var 4) (.var 1))
 (.join 1 [.bool] []
 (.chk (.pick (.cmp .geq (.var 4) (.lit 0)) (.pick (.cmp .lss (.var 4) (.var 1)) (.some 0) (.lit false)) (.lit false))
 (.chk (.pick (.cmp .geq (.off (.var 4) 2 (.lit 0)) (.lit 0)) (.some 0) (.lit false))
 (.load 0 (.off (.var 4) 2 (.lit 0)) [.sl] []
 (.chk (.cmp .geq (.var 6) (.lit 0))
 (.ite (.cmp .gtr (.var 6) (.lit 100))
 (.again 1 0 [.bool] [(.bool (.lit true))] [])
 (.chk (.pick (.cmp .geq (.var 4) (.lit 0)) (.pick (.cmp .lss (.var 4) (.var 1)) (.some 0) (.lit false)) (.lit false))
 (.chk (.pick (.cmp .geq (.off (.var 4) 2 (.lit 0)) (.lit 0)) (.some 0) (.lit false))
 (.load 0 (.off (.lit 1) 1 (.off (.var 4) 2 (.lit 0))) [.sl] []
 (.chk (.cmp .geq (.var 9) (.lit 0))
 (.again 1 0 [.bool] [(.bool (.cmp .gtr (.var 9) (.lit 100)))] []))))))))))
 (.ite (.var 5)
 (.ret (.bool (.lit false)) [])
 (.again 0 0 [.bool, (.int .i64)] [(.bool (.var 3)), (.int .i64 (.bin .add .i64 (.var 4) (.lit 1)))] [])))
 (.ret (.bool (.lit true)) []))))))))
theorem S_law30_few : FnIs Tryz.prog n_law30_few [.sl] T_law30_few := ⟨Tryz.f4, [{ key := 200006, tmps := [(38, .bool)], join := true, dead := 274876792818 }], 4000, Tryz.func4, by kernel_rfl⟩
abbrev n_law30_works : FuncId := 5
def T_law30_works : Tree :=
 (.call false 9 [(.cst (.string ⟨#[112, 97, 116]⟩))] .sl []
 (.call false 9 [(.cst (.string ⟨#[112, 105]⟩))] .sl []
 (.call false 9 [(.cst (.string ⟨#[116, 97, 116]⟩))] .sl []
 (.call false 8 [(.sl 0 (.lit 0) (.var 1) (.var 2)), (.sl 3 (.lit 0) (.var 4) (.var 5)), (.sl 6 (.lit 0) (.var 7) (.var 8))] (.tup [.sl, .bool, (.int .i64)]) []
 (.call false 9 [(.cst (.string ⟨#[112, 97]⟩))] .sl []
 (.call false 9 [(.cst (.string ⟨#[97, 112, 97]⟩))] .sl []
 (.call false 9 [(.cst (.string ⟨#[116, 97]⟩))] .sl []
 (.call false 10 [(.sl 14 (.lit 0) (.var 15) (.var 16)), (.sl 17 (.lit 0) (.var 18) (.var 19)), (.sl 20 (.lit 0) (.var 21) (.var 22))] (.tup [.sl, .bool, (.int .i64)]) []
 (.call false 12 [(.cst (.string ⟨#[112, 97]⟩)), (.cst (.string ⟨#[112, 105]⟩))] (.agg [.sl, .sl]) []
 (.call false 12 [(.cst (.string ⟨#[116, 97]⟩)), (.cst (.string ⟨#[116, 97, 116]⟩))] (.agg [.sl, .sl]) []
 (.alloc
 (.call false 9 [(.cst (.string ⟨#[97, 112]⟩))] .sl [⟨[(.sl 28 (.lit 0) (.var 29) (.var 30)), (.sl 31 (.lit 0) (.var 32) (.var 33)), (.sl 34 (.lit 0) (.var 35) (.var 36)), (.sl 37 (.lit 0) (.var 38) (.var 39))], 36⟩]
 (.call false 9 [(.cst (.string ⟨#[97, 112, 116]⟩))] .sl [⟨[(.sl 28 (.lit 0) (.var 29) (.var 30)), (.sl 31 (.lit 0) (.var 32) (.var 33)), (.sl 34 (.lit 0) (.var 35) (.var 36)), (.sl 37 (.lit 0) (.var 38) (.var 39))], 36⟩]
 (.call false 11 [(.slc 0 0 2 2), (.sl 40 (.lit 0) (.var 41) (.var 42)), (.sl 43 (.lit 0) (.var 44) (.var 45))] (.tup [(.int .i64), .bool, (.int .i64)]) [⟨[(.sl 28 (.lit 0) (.var 29) (.var 30)), (.sl 31 (.lit 0) (.var 32) (.var 33)), (.sl 34 (.lit 0) (.var 35) (.var 36)), (.sl 37 (.lit 0) (.var 38) (.var 39))], 36⟩]
 (.call false 12 [(.cst (.string ⟨#[112, 97]⟩)), (.cst (.string ⟨#[112, 97, 116]⟩))] (.agg [.sl, .sl]) [⟨[(.sl 28 (.lit 0) (.var 29) (.var 30)), (.sl 31 (.lit 0) (.var 32) (.var 33)), (.sl 34 (.lit 0) (.var 35) (.var 36)), (.sl 37 (.lit 0) (.var 38) (.var 39))], 36⟩]
 (.call false 12 [(.cst (.string ⟨#[116, 97]⟩)), (.cst (.string ⟨#[116, 97, 116]⟩))] (.agg [.sl, .sl]) [⟨[(.sl 28 (.lit 0) (.var 29) (.var 30)), (.sl 31 (.lit 0) (.var 32) (.var 33)), (.sl 34 (.lit 0) (.var 35) (.var 36)), (.sl 37 (.lit 0) (.var 38) (.var 39))], 36⟩]
 (.call false 12 [(.cst (.string ⟨#[116, 105]⟩)), (.cst (.string ⟨#[105]⟩))] (.agg [.sl, .sl]) [⟨[(.sl 28 (.lit 0) (.var 29) (.var 30)), (.sl 31 (.lit 0) (.var 32) (.var 33)), (.sl 34 (.lit 0) (.var 35) (.var 36)), (.sl 37 (.lit 0) (.var 38) (.var 39))], 36⟩]
 (.alloc
 (.call false 9 [(.cst (.string ⟨#[112, 105]⟩))] .sl [⟨[(.sl 28 (.lit 0) (.var 29) (.var 30)), (.sl 31 (.lit 0) (.var 32) (.var 33)), (.sl 34 (.lit 0) (.var 35) (.var 36)), (.sl 37 (.lit 0) (.var 38) (.var 39))], 36⟩, ⟨[(.sl 49 (.lit 0) (.var 50) (.var 51)), (.sl 52 (.lit 0) (.var 53) (.var 54)), (.sl 55 (.lit 0) (.var 56) (.var 57)), (.sl 58 (.lit 0) (.var 59) (.var 60)), (.sl 61 (.lit 0) (.var 62) (.var 63)), (.sl 64 (.lit 0) (.var 65) (.var 66))], 36⟩]
 (.call false 13 [(.slc 1 0 3 3), (.sl 67 (.lit 0) (.var 68) (.var 69))] (.tup [.sl, (.int .i64), (.int .i64)]) [⟨[(.sl 28 (.lit 0) (.var 29) (.var 30)), (.sl 31 (.lit 0) (.var 32) (.var 33)), (.sl 34 (.lit 0) (.var 35) (.var 36)), (.sl 37 (.lit 0) (.var 38) (.var 39))], 36⟩, ⟨[(.sl 49 (.lit 0) (.var 50) (.var 51)), (.sl 52 (.lit 0) (.var 53) (.var 54)), (.sl 55 (.lit 0) (.var 56) (.var 57)), (.sl 58 (.lit 0) (.var 59) (.var 60)), (.sl 61 (.lit 0) (.var 62) (.var 63)), (.sl 64 (.lit 0) (.var 65) (.var 66))], 36⟩]
 (.alloc
 (.call false 15 [(.slc 2 0 2 2)] .sl [⟨[(.sl 28 (.lit 0) (.var 29) (.var 30)), (.sl 31 (.lit 0) (.var 32) (.var 33)), (.sl 34 (.lit 0) (.var 35) (.var 36)), (.sl 37 (.lit 0) (.var 38) (.var 39))], 36⟩, ⟨[(.sl 49 (.lit 0) (.var 50) (.var 51)), (.sl 52 (.lit 0) (.var 53) (.var 54)), (.sl 55 (.lit 0) (.var 56) (.var 57)), (.sl 58 (.lit 0) (.var 59) (.var 60)), (.sl 61 (.lit 0) (.var 62) (.var 63)), (.sl 64 (.lit 0) (.var 65) (.var 66))], 36⟩, ⟨[(.cst (.string ⟨#[112, 97, 116]⟩)), (.cst (.string ⟨#[112, 97, 116, 97]⟩))], 9⟩]
 (.alloc
 (.call false 15 [(.slc 3 0 2 2)] .sl [⟨[(.sl 28 (.lit 0) (.var 29) (.var 30)), (.sl 31 (.lit 0) (.var 32) (.var 33)), (.sl 34 (.lit 0) (.var 35) (.var 36)), (.sl 37 (.lit 0) (.var 38) (.var 39))], 36⟩, ⟨[(.sl 49 (.lit 0) (.var 50) (.var 51)), (.sl 52 (.lit 0) (.var 53) (.var 54)), (.sl 55 (.lit 0) (.var 56) (.var 57)), (.sl 58 (.lit 0) (.var 59) (.var 60)), (.sl 61 (.lit 0) (.var 62) (.var 63)), (.sl 64 (.lit 0) (.var 65) (.var 66))], 36⟩, ⟨[(.cst (.string ⟨#[112, 97, 116]⟩)), (.cst (.string ⟨#[112, 97, 116, 97]⟩))], 9⟩, ⟨[(.cst (.string ⟨#[116, 105, 116]⟩)), (.cst (.string ⟨#[116, 117, 116, 97]⟩))], 9⟩]
 (.alloc
 (.call false 14 [(.slc 4 0 2 2), (.int .i64 (.lit 1)), (.int .i64 (.lit 0))] (.tup [.sl, (.int .i64)]) [⟨[(.sl 28 (.lit 0) (.var 29) (.var 30)), (.sl 31 (.lit 0) (.var 32) (.var 33)), (.sl 34 (.lit 0) (.var 35) (.var 36)), (.sl 37 (.lit 0) (.var 38) (.var 39))], 36⟩, ⟨[(.sl 49 (.lit 0) (.var 50) (.var 51)), (.sl 52 (.lit 0) (.var 53) (.var 54)), (.sl 55 (.lit 0) (.var 56) (.var 57)), (.sl 58 (.lit 0) (.var 59) (.var 60)), (.sl 61 (.lit 0) (.var 62) (.var 63)), (.sl 64 (.lit 0) (.var 65) (.var 66))], 36⟩, ⟨[(.cst (.string ⟨#[112, 97, 116]⟩)), (.cst (.string ⟨#[112, 97, 116, 97]⟩))], 9⟩, ⟨[(.cst (.string ⟨#[116, 105, 116]⟩)), (.cst (.string ⟨#[116, 117, 116, 97]⟩))], 9⟩, ⟨[(.sl 75 (.lit 0) (.var 76) (.var 77)), (.sl 78 (.lit 0) (.var 79) (.var 80))], 49⟩]
 (.ite (.pick (.pick (.pick (.pick (.pick (.pick (.pick (.cmp .eql (.var 13) (.lit 0)) (.cmp .eql (.var 27) (.lit 0)) (.lit false)) (.cmp .eql (.var 48) (.lit 0)) (.lit false)) (.cmp .eql (.var 74) (.lit 0)) (.lit false)) (.cmp .eql (.var 84) (.lit 0)) (.lit false)) (.var 12) (.lit false)) (.var 26) (.lit false)) (.var 47) (.lit false))
 (.call false 9 [(.cst (.string ⟨#[116, 105]⟩))] .sl [⟨[(.sl 28 (.lit 0) (.var 29) (.var 30)), (.sl 31 (.lit 0) (.var 32) (.var 33)), (.sl 34 (.lit 0) (.var 35) (.var 36)), (.sl 37 (.lit 0) (.var 38) (.var 39))], 36⟩, ⟨[(.sl 49 (.lit 0) (.var 50) (.var 51)), (.sl 52 (.lit 0) (.var 53) (.var 54)), (.sl 55 (.lit 0) (.var 56) (.var 57)), (.sl 58 (.lit 0) (.var 59) (.var 60)), (.sl 61 (.lit 0) (.var 62) (.var 63)), (.sl 64 (.lit 0) (.var 65) (.var 66))], 36⟩, ⟨[(.cst (.string ⟨#[112, 97, 116]⟩)), (.cst (.string ⟨#[112, 97, 116, 97]⟩))], 9⟩, ⟨[(.cst (.string ⟨#[116, 105, 116]⟩)), (.cst (.string ⟨#[116, 117, 116, 97]⟩))], 9⟩, ⟨[(.sl 75 (.lit 0) (.var 76) (.var 77)), (.sl 78 (.lit 0) (.var 79) (.var 80))], 49⟩]
 (.call false 16 [(.sl 9 (.lit 0) (.var 10) (.var 11)), (.sl 85 (.lit 0) (.var 86) (.var 87))] .bool [⟨[(.sl 28 (.lit 0) (.var 29) (.var 30)), (.sl 31 (.lit 0) (.var 32) (.var 33)), (.sl 34 (.lit 0) (.var 35) (.var 36)), (.sl 37 (.lit 0) (.var 38) (.var 39))], 36⟩, ⟨[(.sl 49 (.lit 0) (.var 50) (.var 51)), (.sl 52 (.lit 0) (.var 53) (.var 54)), (.sl 55 (.lit 0) (.var 56) (.var 57)), (.sl 58 (.lit 0) (.var 59) (.var 60)), (.sl 61 (.lit 0) (.var 62) (.var 63)), (.sl 64 (.lit 0) (.var 65) (.var 66))], 36⟩, ⟨[(.cst (.string ⟨#[112, 97, 116]⟩)), (.cst (.string ⟨#[112, 97, 116, 97]⟩))], 9⟩, ⟨[(.cst (.string ⟨#[116, 105, 116]⟩)), (.cst (.string ⟨#[116, 117, 116, 97]⟩))], 9⟩, ⟨[(.sl 75 (.lit 0) (.var 76) (.var 77)), (.sl 78 (.lit 0) (.var 79) (.var 80))], 49⟩]
 (.ite (.var 88)
 (.call false 9 [(.cst (.string ⟨#[97, 116, 97]⟩))] .sl [⟨[(.sl 28 (.lit 0) (.var 29) (.var 30)), (.sl 31 (.lit 0) (.var 32) (.var 33)), (.sl 34 (.lit 0) (.var 35) (.var 36)), (.sl 37 (.lit 0) (.var 38) (.var 39))], 36⟩, ⟨[(.sl 49 (.lit 0) (.var 50) (.var 51)), (.sl 52 (.lit 0) (.var 53) (.var 54)), (.sl 55 (.lit 0) (.var 56) (.var 57)), (.sl 58 (.lit 0) (.var 59) (.var 60)), (.sl 61 (.lit 0) (.var 62) (.var 63)), (.sl 64 (.lit 0) (.var 65) (.var 66))], 36⟩, ⟨[(.cst (.string ⟨#[112, 97, 116]⟩)), (.cst (.string ⟨#[112, 97, 116, 97]⟩))], 9⟩, ⟨[(.cst (.string ⟨#[116, 105, 116]⟩)), (.cst (.string ⟨#[116, 117, 116, 97]⟩))], 9⟩, ⟨[(.sl 75 (.lit 0) (.var 76) (.var 77)), (.sl 78 (.lit 0) (.var 79) (.var 80))], 49⟩]
 (.call false 16 [(.sl 23 (.lit 0) (.var 24) (.var 25)), (.sl 89 (.lit 0) (.var 90) (.var 91))] .bool [⟨[(.sl 28 (.lit 0) (.var 29) (.var 30)), (.sl 31 (.lit 0) (.var 32) (.var 33)), (.sl 34 (.lit 0) (.var 35) (.var 36)), (.sl 37 (.lit 0) (.var 38) (.var 39))], 36⟩, ⟨[(.sl 49 (.lit 0) (.var 50) (.var 51)), (.sl 52 (.lit 0) (.var 53) (.var 54)), (.sl 55 (.lit 0) (.var 56) (.var 57)), (.sl 58 (.lit 0) (.var 59) (.var 60)), (.sl 61 (.lit 0) (.var 62) (.var 63)), (.sl 64 (.lit 0) (.var 65) (.var 66))], 36⟩, ⟨[(.cst (.string ⟨#[112, 97, 116]⟩)), (.cst (.string ⟨#[112, 97, 116, 97]⟩))], 9⟩, ⟨[(.cst (.string ⟨#[116, 105, 116]⟩)), (.cst (.string ⟨#[116, 117, 116, 97]⟩))], 9⟩, ⟨[(.sl 75 (.lit 0) (.var 76) (.var 77)), (.sl 78 (.lit 0) (.var 79) (.var 80))], 49⟩]
 (.ite (.pick (.var 92) (.cmp .eql (.var 46) (.lit 1)) (.lit false))
 (.call false 9 [(.cst (.string ⟨#[112, 105, 116]⟩))] .sl [⟨[(.sl 28 (.lit 0) (.var 29) (.var 30)), (.sl 31 (.lit 0) (.var 32) (.var 33)), (.sl 34 (.lit 0) (.var 35) (.var 36)), (.sl 37 (.lit 0) (.var 38) (.var 39))], 36⟩, ⟨[(.sl 49 (.lit 0) (.var 50) (.var 51)), (.sl 52 (.lit 0) (.var 53) (.var 54)), (.sl 55 (.lit 0) (.var 56) (.var 57)), (.sl 58 (.lit 0) (.var 59) (.var 60)), (.sl 61 (.lit 0) (.var 62) (.var 63)), (.sl 64 (.lit 0) (.var 65) (.var 66))], 36⟩, ⟨[(.cst (.string ⟨#[112, 97, 116]⟩)), (.cst (.string ⟨#[112, 97, 116, 97]⟩))], 9⟩, ⟨[(.cst (.string ⟨#[116, 105, 116]⟩)), (.cst (.string ⟨#[116, 117, 116, 97]⟩))], 9⟩, ⟨[(.sl 75 (.lit 0) (.var 76) (.var 77)), (.sl 78 (.lit 0) (.var 79) (.var 80))], 49⟩]
 (.call false 16 [(.sl 70 (.lit 0) (.var 71) (.var 72)), (.sl 93 (.lit 0) (.var 94) (.var 95))] .bool [⟨[(.sl 28 (.lit 0) (.var 29) (.var 30)), (.sl 31 (.lit 0) (.var 32) (.var 33)), (.sl 34 (.lit 0) (.var 35) (.var 36)), (.sl 37 (.lit 0) (.var 38) (.var 39))], 36⟩, ⟨[(.sl 49 (.lit 0) (.var 50) (.var 51)), (.sl 52 (.lit 0) (.var 53) (.var 54)), (.sl 55 (.lit 0) (.var 56) (.var 57)), (.sl 58 (.lit 0) (.var 59) (.var 60)), (.sl 61 (.lit 0) (.var 62) (.var 63)), (.sl 64 (.lit 0) (.var 65) (.var 66))], 36⟩, ⟨[(.cst (.string ⟨#[112, 97, 116]⟩)), (.cst (.string ⟨#[112, 97, 116, 97]⟩))], 9⟩, ⟨[(.cst (.string ⟨#[116, 105, 116]⟩)), (.cst (.string ⟨#[116, 117, 116, 97]⟩))], 9⟩, ⟨[(.sl 75 (.lit 0) (.var 76) (.var 77)), (.sl 78 (.lit 0) (.var 79) (.var 80))], 49⟩]
 (.ite (.pick (.var 96) (.cmp .eql (.var 73) (.lit 2)) (.lit false))
 (.alloc
 (.call false 15 [(.slc 5 0 2 2)] .sl [⟨[(.sl 28 (.lit 0) (.var 29) (.var 30)), (.sl 31 (.lit 0) (.var 32) (.var 33)), (.sl 34 (.lit 0) (.var 35) (.var 36)), (.sl 37 (.lit 0) (.var 38) (.var 39))], 36⟩, ⟨[(.sl 49 (.lit 0) (.var 50) (.var 51)), (.sl 52 (.lit 0) (.var 53) (.var 54)), (.sl 55 (.lit 0) (.var 56) (.var 57)), (.sl 58 (.lit 0) (.var 59) (.var 60)), (.sl 61 (.lit 0) (.var 62) (.var 63)), (.sl 64 (.lit 0) (.var 65) (.var 66))], 36⟩, ⟨[(.cst (.string ⟨#[112, 97, 116]⟩)), (.cst (.string ⟨#[112, 97, 116, 97]⟩))], 9⟩, ⟨[(.cst (.string ⟨#[116, 105, 116]⟩)), (.cst (.string ⟨#[116, 117, 116, 97]⟩))], 9⟩, ⟨[(.sl 75 (.lit 0) (.var 76) (.var 77)), (.sl 78 (.lit 0) (.var 79) (.var 80))], 49⟩, ⟨[(.cst (.string ⟨#[112, 97, 116]⟩)), (.cst (.string ⟨#[112, 97, 116, 97]⟩))], 9⟩]
 (.alloc
 (.call false 15 [(.slc 6 0 2 2)] .sl [⟨[(.sl 28 (.lit 0) (.var 29) (.var 30)), (.sl 31 (.lit 0) (.var 32) (.var 33)), (.sl 34 (.lit 0) (.var 35) (.var 36)), (.sl 37 (.lit 0) (.var 38) (.var 39))], 36⟩, ⟨[(.sl 49 (.lit 0) (.var 50) (.var 51)), (.sl 52 (.lit 0) (.var 53) (.var 54)), (.sl 55 (.lit 0) (.var 56) (.var 57)), (.sl 58 (.lit 0) (.var 59) (.var 60)), (.sl 61 (.lit 0) (.var 62) (.var 63)), (.sl 64 (.lit 0) (.var 65) (.var 66))], 36⟩, ⟨[(.cst (.string ⟨#[112, 97, 116]⟩)), (.cst (.string ⟨#[112, 97, 116, 97]⟩))], 9⟩, ⟨[(.cst (.string ⟨#[116, 105, 116]⟩)), (.cst (.string ⟨#[116, 117, 116, 97]⟩))], 9⟩, ⟨[(.sl 75 (.lit 0) (.var 76) (.var 77)), (.sl 78 (.lit 0) (.var 79) (.var 80))], 49⟩, ⟨[(.cst (.string ⟨#[112, 97, 116]⟩)), (.cst (.string ⟨#[112, 97, 116, 97]⟩))], 9⟩, ⟨[(.cst (.string ⟨#[116, 105, 116]⟩)), (.cst (.string ⟨#[116, 105, 116, 97]⟩))], 9⟩]
 (.alloc
 (.call false 17 [(.sl 81 (.lit 0) (.var 82) (.var 83)), (.slc 7 0 2 2)] .bool [⟨[(.sl 28 (.lit 0) (.var 29) (.var 30)), (.sl 31 (.lit 0) (.var 32) (.var 33)), (.sl 34 (.lit 0) (.var 35) (.var 36)), (.sl 37 (.lit 0) (.var 38) (.var 39))], 36⟩, ⟨[(.sl 49 (.lit 0) (.var 50) (.var 51)), (.sl 52 (.lit 0) (.var 53) (.var 54)), (.sl 55 (.lit 0) (.var 56) (.var 57)), (.sl 58 (.lit 0) (.var 59) (.var 60)), (.sl 61 (.lit 0) (.var 62) (.var 63)), (.sl 64 (.lit 0) (.var 65) (.var 66))], 36⟩, ⟨[(.cst (.string ⟨#[112, 97, 116]⟩)), (.cst (.string ⟨#[112, 97, 116, 97]⟩))], 9⟩, ⟨[(.cst (.string ⟨#[116, 105, 116]⟩)), (.cst (.string ⟨#[116, 117, 116, 97]⟩))], 9⟩, ⟨[(.sl 75 (.lit 0) (.var 76) (.var 77)), (.sl 78 (.lit 0) (.var 79) (.var 80))], 49⟩, ⟨[(.cst (.string ⟨#[112, 97, 116]⟩)), (.cst (.string ⟨#[112, 97, 116, 97]⟩))], 9⟩, ⟨[(.cst (.string ⟨#[116, 105, 116]⟩)), (.cst (.string ⟨#[116, 105, 116, 97]⟩))], 9⟩, ⟨[(.sl 97 (.lit 0) (.var 98) (.var 99)), (.sl 100 (.lit 0) (.var 101) (.var 102))], 49⟩]
 (.ret (.bool (.var 103)) [⟨[(.sl 28 (.lit 0) (.var 29) (.var 30)), (.sl 31 (.lit 0) (.var 32) (.var 33)), (.sl 34 (.lit 0) (.var 35) (.var 36)), (.sl 37 (.lit 0) (.var 38) (.var 39))], 36⟩, ⟨[(.sl 49 (.lit 0) (.var 50) (.var 51)), (.sl 52 (.lit 0) (.var 53) (.var 54)), (.sl 55 (.lit 0) (.var 56) (.var 57)), (.sl 58 (.lit 0) (.var 59) (.var 60)), (.sl 61 (.lit 0) (.var 62) (.var 63)), (.sl 64 (.lit 0) (.var 65) (.var 66))], 36⟩, ⟨[(.cst (.string ⟨#[112, 97, 116]⟩)), (.cst (.string ⟨#[112, 97, 116, 97]⟩))], 9⟩, ⟨[(.cst (.string ⟨#[116, 105, 116]⟩)), (.cst (.string ⟨#[116, 117, 116, 97]⟩))], 9⟩, ⟨[(.sl 75 (.lit 0) (.var 76) (.var 77)), (.sl 78 (.lit 0) (.var 79) (.var 80))], 49⟩, ⟨[(.cst (.string ⟨#[112, 97, 116]⟩)), (.cst (.string ⟨#[112, 97, 116, 97]⟩))], 9⟩, ⟨[(.cst (.string ⟨#[116, 105, 116]⟩)), (.cst (.string ⟨#[116, 105, 116, 97]⟩))], 9⟩, ⟨[(.sl 97 (.lit 0) (.var 98) (.var 99)), (.sl 100 (.lit 0) (.var 101) (.var 102))], 49⟩])))))))
 (.ret (.bool (.lit false)) [⟨[(.sl 28 (.lit 0) (.var 29) (.var 30)), (.sl 31 (.lit 0) (.var 32) (.var 33)), (.sl 34 (.lit 0) (.var 35) (.var 36)), (.sl 37 (.lit 0) (.var 38) (.var 39))], 36⟩, ⟨[(.sl 49 (.lit 0) (.var 50) (.var 51)), (.sl 52 (.lit 0) (.var 53) (.var 54)), (.sl 55 (.lit 0) (.var 56) (.var 57)), (.sl 58 (.lit 0) (.var 59) (.var 60)), (.sl 61 (.lit 0) (.var 62) (.var 63)), (.sl 64 (.lit 0) (.var 65) (.var 66))], 36⟩, ⟨[(.cst (.string ⟨#[112, 97, 116]⟩)), (.cst (.string ⟨#[112, 97, 116, 97]⟩))], 9⟩, ⟨[(.cst (.string ⟨#[116, 105, 116]⟩)), (.cst (.string ⟨#[116, 117, 116, 97]⟩))], 9⟩, ⟨[(.sl 75 (.lit 0) (.var 76) (.var 77)), (.sl 78 (.lit 0) (.var 79) (.var 80))], 49⟩]))))
 (.ret (.bool (.lit false)) [⟨[(.sl 28 (.lit 0) (.var 29) (.var 30)), (.sl 31 (.lit 0) (.var 32) (.var 33)), (.sl 34 (.lit 0) (.var 35) (.var 36)), (.sl 37 (.lit 0) (.var 38) (.var 39))], 36⟩, ⟨[(.sl 49 (.lit 0) (.var 50) (.var 51)), (.sl 52 (.lit 0) (.var 53) (.var 54)), (.sl 55 (.lit 0) (.var 56) (.var 57)), (.sl 58 (.lit 0) (.var 59) (.var 60)), (.sl 61 (.lit 0) (.var 62) (.var 63)), (.sl 64 (.lit 0) (.var 65) (.var 66))], 36⟩, ⟨[(.cst (.string ⟨#[112, 97, 116]⟩)), (.cst (.string ⟨#[112, 97, 116, 97]⟩))], 9⟩, ⟨[(.cst (.string ⟨#[116, 105, 116]⟩)), (.cst (.string ⟨#[116, 117, 116, 97]⟩))], 9⟩, ⟨[(.sl 75 (.lit 0) (.var 76) (.var 77)), (.sl 78 (.lit 0) (.var 79) (.var 80))], 49⟩]))))
 (.ret (.bool (.lit false)) [⟨[(.sl 28 (.lit 0) (.var 29) (.var 30)), (.sl 31 (.lit 0) (.var 32) (.var 33)), (.sl 34 (.lit 0) (.var 35) (.var 36)), (.sl 37 (.lit 0) (.var 38) (.var 39))], 36⟩, ⟨[(.sl 49 (.lit 0) (.var 50) (.var 51)), (.sl 52 (.lit 0) (.var 53) (.var 54)), (.sl 55 (.lit 0) (.var 56) (.var 57)), (.sl 58 (.lit 0) (.var 59) (.var 60)), (.sl 61 (.lit 0) (.var 62) (.var 63)), (.sl 64 (.lit 0) (.var 65) (.var 66))], 36⟩, ⟨[(.cst (.string ⟨#[112, 97, 116]⟩)), (.cst (.string ⟨#[112, 97, 116, 97]⟩))], 9⟩, ⟨[(.cst (.string ⟨#[116, 105, 116]⟩)), (.cst (.string ⟨#[116, 117, 116, 97]⟩))], 9⟩, ⟨[(.sl 75 (.lit 0) (.var 76) (.var 77)), (.sl 78 (.lit 0) (.var 79) (.var 80))], 49⟩]))))
 (.ret (.bool (.lit false)) [⟨[(.sl 28 (.lit 0) (.var 29) (.var 30)), (.sl 31 (.lit 0) (.var 32) (.var 33)), (.sl 34 (.lit 0) (.var 35) (.var 36)), (.sl 37 (.lit 0) (.var 38) (.var 39))], 36⟩, ⟨[(.sl 49 (.lit 0) (.var 50) (.var 51)), (.sl 52 (.lit 0) (.var 53) (.var 54)), (.sl 55 (.lit 0) (.var 56) (.var 57)), (.sl 58 (.lit 0) (.var 59) (.var 60)), (.sl 61 (.lit 0) (.var 62) (.var 63)), (.sl 64 (.lit 0) (.var 65) (.var 66))], 36⟩, ⟨[(.cst (.string ⟨#[112, 97, 116]⟩)), (.cst (.string ⟨#[112, 97, 116, 97]⟩))], 9⟩, ⟨[(.cst (.string ⟨#[116, 105, 116]⟩)), (.cst (.string ⟨#[116, 117, 116, 97]⟩))], 9⟩, ⟨[(.sl 75 (.lit 0) (.var 76) (.var 77)), (.sl 78 (.lit 0) (.var 79) (.var 80))], 49⟩]))))))))))))))))))))))))))))
theorem S_law30_works : FnIs Tryz.prog n_law30_works [] T_law30_works := ⟨Tryz.f5, [], 4000, Tryz.func5, by kernel_rfl⟩
abbrev n_analogy_Solve : FuncId := 8
def T_analogy_Solve : Tree :=
 (.extp ⟨(.load 68 (.tmp 0)), 68, [(.cst (.pointer (some ⟨0, 0, none⟩)))]⟩ (.agg [.val, .val]) []
 (.call false 31 [(.agg [(.val 9), (.val 10)]), (.sl 0 (.lit 0) (.var 1) (.var 2)), (.sl 3 (.lit 0) (.var 4) (.var 5)), (.sl 6 (.lit 0) (.var 7) (.var 8))] (.tup [.sl, .bool, (.int .i64)]) []
 (.ret (.tup [(.sl 11 (.lit 0) (.var 12) (.var 13)), (.bool (.var 14)), (.int .i64 (.var 15))]) [])))
theorem S_analogy_Solve : FnIs Tryz.prog n_analogy_Solve [.sl, .sl, .sl] T_analogy_Solve := ⟨Tryz.f8, [], 4000, Tryz.func8, by kernel_rfl⟩
abbrev n_law30_spell : FuncId := 9
def T_law30_spell : Tree :=
 (.loop 0 [.sl, (.int .i64)] [(.cst (.slice none 0 0)), (.int .i64 (.lit 0))] [] []
 (.extp ⟨(.call ⟨.builtin .len, #[(.tmp 0)], #[9]⟩), 3, [(.val 0)]⟩ (.int .i64) []
 (.ite (.cmp .lss (.var 4) (.var 5))
 (.extp ⟨(.index 9 (.tmp 0) (.tmp 0)), 5, [(.val 0), (.int .i64 (.var 4))]⟩ (.int .u8) []
 (.join 1 [.sl] []
 (.ite (.cmp .eql (.var 6) (.lit 112))
 (.alloc
 (.ext false ⟨(.call ⟨.builtin .append, #[(.tmp 0), (.tmp 0)], #[23, 23]⟩), 23, [(.sl 1 (.lit 0) (.var 2) (.var 3)), (.slc 0 0 1 1)]⟩ .sl [⟨[(.int .u32 (.lit 1)), (.int .u32 (.lit 2))], 71⟩]
 (.again 1 0 [.sl] [(.sl 7 (.lit 0) (.var 8) (.var 9))] [⟨[(.int .u32 (.lit 1)), (.int .u32 (.lit 2))], 71⟩])))
 (.join 2 [.sl] []
 (.ite (.cmp .eql (.var 6) (.lit 97))
 (.alloc
 (.ext false ⟨(.call ⟨.builtin .append, #[(.tmp 0), (.tmp 0)], #[23, 23]⟩), 23, [(.sl 1 (.lit 0) (.var 2) (.var 3)), (.slc 0 0 1 1)]⟩ .sl [⟨[(.int .u32 (.lit 2)), (.int .u32 (.lit 1))], 71⟩]
 (.again 2 0 [.sl] [(.sl 7 (.lit 0) (.var 8) (.var 9))] [⟨[(.int .u32 (.lit 2)), (.int .u32 (.lit 1))], 71⟩])))
 (.join 3 [.sl] []
 (.ite (.cmp .eql (.var 6) (.lit 116))
 (.alloc
 (.ext false ⟨(.call ⟨.builtin .append, #[(.tmp 0), (.tmp 0)], #[23, 23]⟩), 23, [(.sl 1 (.lit 0) (.var 2) (.var 3)), (.slc 0 0 1 1)]⟩ .sl [⟨[(.int .u32 (.lit 4)), (.int .u32 (.lit 0))], 71⟩]
 (.again 3 0 [.sl] [(.sl 7 (.lit 0) (.var 8) (.var 9))] [⟨[(.int .u32 (.lit 4)), (.int .u32 (.lit 0))], 71⟩])))
 (.join 4 [.sl] []
 (.ite (.cmp .eql (.var 6) (.lit 105))
 (.alloc
 (.ext false ⟨(.call ⟨.builtin .append, #[(.tmp 0), (.tmp 0)], #[23, 23]⟩), 23, [(.sl 1 (.lit 0) (.var 2) (.var 3)), (.slc 0 0 1 1)]⟩ .sl [⟨[(.int .u32 (.lit 6)), (.int .u32 (.lit 1))], 71⟩]
 (.again 4 0 [.sl] [(.sl 7 (.lit 0) (.var 8) (.var 9))] [⟨[(.int .u32 (.lit 6)), (.int .u32 (.lit 1))], 71⟩])))
 (.alloc
 (.ext false ⟨(.call ⟨.builtin .append, #[(.tmp 0), (.tmp 0)], #[23, 23]⟩), 23, [(.sl 1 (.lit 0) (.var 2) (.var 3)), (.slc 0 0 1 1)]⟩ .sl [⟨[(.int .u32 (.lit 0)), (.int .u32 (.lit 4))], 71⟩]
 (.again 4 0 [.sl] [(.sl 7 (.lit 0) (.var 8) (.var 9))] [⟨[(.int .u32 (.lit 0)), (.int .u32 (.lit 4))], 71⟩]))))
 (.again 3 0 [.sl] [(.sl 7 (.lit 0) (.var 8) (.var 9))] [])))
 (.again 2 0 [.sl] [(.sl 7 (.lit 0) (.var 8) (.var 9))] [])))
 (.again 1 0 [.sl] [(.sl 7 (.lit 0) (.var 8) (.var 9))] [])))
 (.again 0 0 [.sl, (.int .i64)] [(.sl 7 (.lit 0) (.var 8) (.var 9)), (.int .i64 (.bin .add .i64 (.var 4) (.lit 1)))] [])))
 (.ret (.sl 1 (.lit 0) (.var 2) (.var 3)) []))))
theorem S_law30_spell : FnIs Tryz.prog n_law30_spell [.val] T_law30_spell := ⟨Tryz.f9, [{ key := 8, tmps := [], join := true, dead := 8726282755810 }, { key := 10, tmps := [], join := true }, { key := 12, tmps := [], join := true }, { key := 14, tmps := [], join := true }], 4000, Tryz.func9, by kernel_rfl⟩
abbrev n_analogy_Front : FuncId := 10
def T_analogy_Front : Tree :=
 (.extp ⟨(.load 68 (.tmp 0)), 68, [(.cst (.pointer (some ⟨1, 0, none⟩)))]⟩ (.agg [.val, .val]) []
 (.call false 31 [(.agg [(.val 9), (.val 10)]), (.sl 0 (.lit 0) (.var 1) (.var 2)), (.sl 3 (.lit 0) (.var 4) (.var 5)), (.sl 6 (.lit 0) (.var 7) (.var 8))] (.tup [.sl, .bool, (.int .i64)]) []
 (.ret (.tup [(.sl 11 (.lit 0) (.var 12) (.var 13)), (.bool (.var 14)), (.int .i64 (.var 15))]) [])))
theorem S_analogy_Front : FnIs Tryz.prog n_analogy_Front [.sl, .sl, .sl] T_analogy_Front := ⟨Tryz.f10, [], 4000, Tryz.func10, by kernel_rfl⟩
abbrev n_analogy_Explain : FuncId := 11
def T_analogy_Explain : Tree :=
 (.alloc
 (.alloc
 (.alloc
 (.call false 19 [(.sl 0 (.lit 0) (.var 1) (.var 2)), (.slc 2 0 2 2)] (.int .i64) [⟨[(.sl 3 (.lit 0) (.var 4) (.var 5))], 23⟩, ⟨[(.sl 6 (.lit 0) (.var 7) (.var 8))], 23⟩, ⟨[(.sl 3 (.lit 0) (.var 4) (.var 5)), (.sl 6 (.lit 0) (.var 7) (.var 8))], 23⟩]
 (.ite (.cmp .neq (.var 9) (.lit 0))
 (.ret (.tup [(.int .i64 (.lit 0)), (.bool (.lit false)), (.int .i64 (.var 9))]) [⟨[(.sl 3 (.lit 0) (.var 4) (.var 5))], 23⟩, ⟨[(.sl 6 (.lit 0) (.var 7) (.var 8))], 23⟩, ⟨[(.sl 3 (.lit 0) (.var 4) (.var 5)), (.sl 6 (.lit 0) (.var 7) (.var 8))], 23⟩])
 (.call false 32 [(.sl 0 (.lit 0) (.var 1) (.var 2)), (.fn (.func 33) [] [(.loc 0 0), (.loc 1 0)])] (.int .i64) [⟨[(.sl 3 (.lit 0) (.var 4) (.var 5))], 23⟩, ⟨[(.sl 6 (.lit 0) (.var 7) (.var 8))], 23⟩, ⟨[(.sl 3 (.lit 0) (.var 4) (.var 5)), (.sl 6 (.lit 0) (.var 7) (.var 8))], 23⟩]
 (.ret (.tup [(.int .i64 (.mx (.var 10) (.lit 0))), (.bool (.cmp .geq (.var 10) (.lit 0))), (.int .i64 (.lit 0))]) [⟨[(.sl 3 (.lit 0) (.var 4) (.var 5))], 23⟩, ⟨[(.sl 6 (.lit 0) (.var 7) (.var 8))], 23⟩, ⟨[(.sl 3 (.lit 0) (.var 4) (.var 5)), (.sl 6 (.lit 0) (.var 7) (.var 8))], 23⟩])))))))
theorem S_analogy_Explain : FnIs Tryz.prog n_analogy_Explain [.sl, .sl, .sl] T_analogy_Explain := ⟨Tryz.f11, [], 4000, Tryz.func11, by kernel_rfl⟩
abbrev n_law30_pair : FuncId := 12
def T_law30_pair : Tree :=
 (.alloc
 (.call false 9 [(.val 0)] .sl [⟨[(.cst (.slice none 0 0)), (.cst (.slice none 0 0))], 36⟩]
 (.call false 9 [(.val 1)] .sl [⟨[(.cst (.slice none 0 0)), (.cst (.slice none 0 0))], 36⟩]
 (.ret (.agg [(.sl 2 (.lit 0) (.var 3) (.var 4)), (.sl 5 (.lit 0) (.var 6) (.var 7))]) [⟨[(.sl 2 (.lit 0) (.var 3) (.var 4)), (.sl 5 (.lit 0) (.var 6) (.var 7))], 36⟩]))))
theorem S_law30_pair : FnIs Tryz.prog n_law30_pair [.val, .val] T_law30_pair := ⟨Tryz.f12, [], 4000, Tryz.func12, by kernel_rfl⟩
abbrev n_analogy_Extend : FuncId := 13
def T_analogy_Extend : Tree :=
 (.alloc
 (.call false 19 [(.sl 0 (.lit 0) (.var 1) (.var 2)), (.slc 0 0 1 1)] (.int .i64) [⟨[(.sl 3 (.lit 0) (.var 4) (.var 5))], 23⟩]
 (.ite (.cmp .neq (.var 6) (.lit 0))
 (.ret (.tup [(.cst (.slice none 0 0)), (.int .i64 (.lit 0)), (.int .i64 (.var 6))]) [⟨[(.sl 3 (.lit 0) (.var 4) (.var 5))], 23⟩])
 (.ext false ⟨(.makeMap 73 none), 73, []⟩ .val [⟨[(.sl 3 (.lit 0) (.var 4) (.var 5))], 23⟩]
 (.alloc
 (.alloc
 (.chk (.cmp .geq (.var 1) (.lit 0))
 (.loop 0 [(.int .i64), .sl] [(.int .i64 (.lit 0)), (.cst (.slice none 0 0))] [⟨[(.sl 3 (.lit 0) (.var 4) (.var 5))], 23⟩, ⟨[(.val 7)], 73⟩, ⟨[(.cst (.slice none 0 0))], 55⟩] [⟨[(.sl 3 (.lit 0) (.var 4) (.var 5))], 23⟩, ⟨[(.val 7)], 73⟩, ⟨[(.sl 9 (.lit 0) (.var 10) (.var 11))], 55⟩]
 (.ite (.cmp .lss (.var 8) (.var 1))
 (.chk (.pick (.cmp .geq (.var 8) (.lit 0)) (.pick (.cmp .lss (.var 8) (.var 1)) (.some 0) (.lit false)) (.lit false))
 (.load 0 (.off (.var 8) 2 (.lit 0)) [.sl, .sl] [⟨[(.sl 3 (.lit 0) (.var 4) (.var 5))], 23⟩, ⟨[(.val 7)], 73⟩, ⟨[(.sl 9 (.lit 0) (.var 10) (.var 11))], 55⟩]
 (.alloc
 (.call false 34 [(.agg [(.sl 12 (.lit 0) (.var 13) (.var 14)), (.sl 15 (.lit 0) (.var 16) (.var 17))]), (.sl 3 (.lit 0) (.var 4) (.var 5))] .val [⟨[(.sl 3 (.lit 0) (.var 4) (.var 5))], 23⟩, ⟨[(.val 7)], 73⟩, ⟨[(.sl 9 (.lit 0) (.var 10) (.var 11))], 55⟩, ⟨[(.sl 12 (.lit 0) (.var 13) (.var 14)), (.sl 15 (.lit 0) (.var 16) (.var 17))], 36⟩]
 (.range (.val 18) [.sl] [.sl] [(.sl 9 (.lit 0) (.var 10) (.var 11))] [⟨[(.sl 3 (.lit 0) (.var 4) (.var 5))], 23⟩, ⟨[(.val 7)], 73⟩, ⟨[(.sl 9 (.lit 0) (.var 10) (.var 11))], 55⟩, ⟨[(.sl 12 (.lit 0) (.var 13) (.var 14)), (.sl 15 (.lit 0) (.var 16) (.var 17))], 36⟩] [⟨[(.sl 3 (.lit 0) (.var 4) (.var 5))], 23⟩, ⟨[(.val 7)], 73⟩, ⟨[(.sl 19 (.lit 0) (.var 20) (.var 21))], 55⟩, ⟨[(.sl 12 (.lit 0) (.var 13) (.var 14)), (.sl 15 (.lit 0) (.var 16) (.var 17))], 36⟩]
 (.join 0 [.sl] [⟨[(.sl 3 (.lit 0) (.var 4) (.var 5))], 23⟩, ⟨[(.val 7)], 73⟩, ⟨[(.sl 25 (.lit 0) (.var 26) (.var 27))], 55⟩, ⟨[(.sl 12 (.lit 0) (.var 13) (.var 14)), (.sl 15 (.lit 0) (.var 16) (.var 17))], 36⟩]
 (.chk (.cmp .geq (.var 23) (.lit 0))
 (.ite (.cmp .gtr (.var 23) (.lit 32))
 (.again 0 4 [.sl] [(.sl 19 (.lit 0) (.var 20) (.var 21))] [⟨[(.sl 3 (.lit 0) (.var 4) (.var 5))], 23⟩, ⟨[(.val 7)], 73⟩, ⟨[(.sl 19 (.lit 0) (.var 20) (.var 21))], 55⟩, ⟨[(.sl 12 (.lit 0) (.var 13) (.var 14)), (.sl 15 (.lit 0) (.var 16) (.var 17))], 36⟩])
 (.call false 35 [(.sl 22 (.lit 0) (.var 23) (.var 24))] .val [⟨[(.sl 3 (.lit 0) (.var 4) (.var 5))], 23⟩, ⟨[(.val 7)], 73⟩, ⟨[(.sl 19 (.lit 0) (.var 20) (.var 21))], 55⟩, ⟨[(.sl 12 (.lit 0) (.var 13) (.var 14)), (.sl 15 (.lit 0) (.var 16) (.var 17))], 36⟩]
 (.extp ⟨(.lookup 73 (.tmp 0) (.tmp 0) false), 3, [(.val 7), (.val 25)]⟩ (.int .i64) [⟨[(.sl 3 (.lit 0) (.var 4) (.var 5))], 23⟩, ⟨[(.val 7)], 73⟩, ⟨[(.sl 19 (.lit 0) (.var 20) (.var 21))], 55⟩, ⟨[(.sl 12 (.lit 0) (.var 13) (.var 14)), (.sl 15 (.lit 0) (.var 16) (.var 17))], 36⟩]
 (.extu false ⟨(.mapUpdate 73 (.tmp 0) (.tmp 0) (.tmp 0)), 0, [(.val 7), (.val 25), (.int .i64 (.bin .add .i64 (.var 26) (.lit 1)))]⟩ [⟨[(.sl 3 (.lit 0) (.var 4) (.var 5))], 23⟩, ⟨[(.val 7)], 73⟩, ⟨[(.sl 19 (.lit 0) (.var 20) (.var 21))], 55⟩, ⟨[(.sl 12 (.lit 0) (.var 13) (.var 14)), (.sl 15 (.lit 0) (.var 16) (.var 17))], 36⟩]
 (.alloc
 (.ext false ⟨(.call ⟨.builtin .append, #[(.tmp 0), (.tmp 0)], #[55, 55]⟩), 55, [(.sl 19 (.lit 0) (.var 20) (.var 21)), (.slc 4 0 1 1)]⟩ .sl [⟨[(.sl 3 (.lit 0) (.var 4) (.var 5))], 23⟩, ⟨[(.val 7)], 73⟩, ⟨[(.sl 19 (.lit 0) (.var 20) (.var 21))], 55⟩, ⟨[(.sl 12 (.lit 0) (.var 13) (.var 14)), (.sl 15 (.lit 0) (.var 16) (.var 17))], 36⟩, ⟨[(.sl 22 (.lit 0) (.var 23) (.var 24))], 23⟩]
 (.again 0 4 [.sl] [(.sl 27 (.lit 0) (.var 28) (.var 29))] [⟨[(.sl 3 (.lit 0) (.var 4) (.var 5))], 23⟩, ⟨[(.val 7)], 73⟩, ⟨[(.sl 27 (.lit 0) (.var 28) (.var 29))], 55⟩, ⟨[(.sl 12 (.lit 0) (.var 13) (.var 14)), (.sl 15 (.lit 0) (.var 16) (.var 17))], 36⟩, ⟨[(.sl 22 (.lit 0) (.var 23) (.var 24))], 23⟩]))))))))
 (.leave 0 4 [.sl] [(.sl 25 (.lit 0) (.var 26) (.var 27))] [⟨[(.sl 3 (.lit 0) (.var 4) (.var 5))], 23⟩, ⟨[(.val 7)], 73⟩, ⟨[(.sl 25 (.lit 0) (.var 26) (.var 27))], 55⟩, ⟨[(.sl 12 (.lit 0) (.var 13) (.var 14)), (.sl 15 (.lit 0) (.var 16) (.var 17))], 36⟩]))
 (.again 0 3 [(.int .i64), .sl] [(.int .i64 (.bin .add .i64 (.var 8) (.lit 1))), (.sl 19 (.lit 0) (.var 20) (.var 21))] [⟨[(.sl 3 (.lit 0) (.var 4) (.var 5))], 23⟩, ⟨[(.val 7)], 73⟩, ⟨[(.sl 19 (.lit 0) (.var 20) (.var 21))], 55⟩, ⟨[(.sl 12 (.lit 0) (.var 13) (.var 14)), (.sl 15 (.lit 0) (.var 16) (.var 17))], 36⟩]))))))
 (.chk (.cmp .geq (.var 10) (.lit 0))
 (.ite (.cmp .eql (.var 10) (.lit 0))
 (.ret (.tup [(.cst (.slice none 0 0)), (.int .i64 (.lit 0)), (.int .i64 (.lit 5))]) [⟨[(.sl 3 (.lit 0) (.var 4) (.var 5))], 23⟩, ⟨[(.val 7)], 73⟩, ⟨[(.sl 9 (.lit 0) (.var 10) (.var 11))], 55⟩])
 (.call false 36 [(.sl 9 (.lit 0) (.var 10) (.var 11)), (.fn (.func 37) [] [(.loc 1 0)])] .sl [⟨[(.sl 3 (.lit 0) (.var 4) (.var 5))], 23⟩, ⟨[(.val 7)], 73⟩, ⟨[(.sl 9 (.lit 0) (.var 10) (.var 11))], 55⟩]
 (.call false 35 [(.sl 12 (.lit 0) (.var 13) (.var 14))] .val [⟨[(.sl 3 (.lit 0) (.var 4) (.var 5))], 23⟩, ⟨[(.val 7)], 73⟩, ⟨[(.sl 9 (.lit 0) (.var 10) (.var 11))], 55⟩]
 (.extp ⟨(.lookup 73 (.tmp 0) (.tmp 0) false), 3, [(.val 7), (.val 15)]⟩ (.int .i64) [⟨[(.sl 3 (.lit 0) (.var 4) (.var 5))], 23⟩, ⟨[(.val 7)], 73⟩, ⟨[(.sl 9 (.lit 0) (.var 10) (.var 11))], 55⟩]
 (.ret (.tup [(.sl 12 (.lit 0) (.var 13) (.var 14)), (.int .i64 (.var 16)), (.int .i64 (.lit 0))]) [⟨[(.sl 3 (.lit 0) (.var 4) (.var 5))], 23⟩, ⟨[(.val 7)], 73⟩, ⟨[(.sl 9 (.lit 0) (.var 10) (.var 11))], 55⟩])))))))))))))))
theorem S_analogy_Extend : FnIs Tryz.prog n_analogy_Extend [.sl, .sl] T_analogy_Extend := ⟨Tryz.f13, [{ key := 100003, tmps := [], join := true, dead := 71916836085023756 }], 4000, Tryz.func13, by kernel_rfl⟩
abbrev n_law30_row : FuncId := 15
def T_law30_row : Tree :=
 (.loop 0 [.sl, (.int .i64)] [(.cst (.slice none 0 0)), (.int .i64 (.lit 0))] [] []
 (.chk (.cmp .geq (.var 1) (.lit 0))
 (.ite (.cmp .lss (.var 6) (.var 1))
 (.chk (.pick (.cmp .geq (.var 6) (.lit 0)) (.pick (.cmp .lss (.var 6) (.var 1)) (.some 0) (.lit false)) (.lit false))
 (.load 0 (.off (.var 6) 1 (.lit 0)) [.val] []
 (.extp ⟨(.binOp .eql 9 (.tmp 0) (.const (.bool true)) 9), 4, [(.val 7), (.cst (.string ⟨#[45]⟩))]⟩ .bool []
 (.join 1 [.sl] []
 (.ite (.var 8)
 (.alloc
 (.ext false ⟨(.call ⟨.builtin .append, #[(.tmp 0), (.tmp 0)], #[49, 49]⟩), 49, [(.sl 3 (.lit 0) (.var 4) (.var 5)), (.slc 0 0 1 1)]⟩ .sl [⟨[(.bool (.lit false)), (.cst (.slice none 0 0))], 82⟩]
 (.again 1 0 [.sl] [(.sl 9 (.lit 0) (.var 10) (.var 11))] [⟨[(.bool (.lit false)), (.cst (.slice none 0 0))], 82⟩])))
 (.chk (.pick (.cmp .geq (.var 6) (.lit 0)) (.pick (.cmp .lss (.var 6) (.var 1)) (.some 0) (.lit false)) (.lit false))
 (.load 0 (.off (.var 6) 1 (.lit 0)) [.val] []
 (.call false 9 [(.val 9)] .sl []
 (.alloc
 (.ext false ⟨(.call ⟨.builtin .append, #[(.tmp 0), (.tmp 0)], #[49, 49]⟩), 49, [(.sl 3 (.lit 0) (.var 4) (.var 5)), (.slc 0 0 1 1)]⟩ .sl [⟨[(.bool (.lit true)), (.sl 10 (.lit 0) (.var 11) (.var 12))], 82⟩]
 (.again 1 0 [.sl] [(.sl 13 (.lit 0) (.var 14) (.var 15))] [⟨[(.bool (.lit true)), (.sl 10 (.lit 0) (.var 11) (.var 12))], 82⟩])))))))
 (.again 0 0 [.sl, (.int .i64)] [(.sl 9 (.lit 0) (.var 10) (.var 11)), (.int .i64 (.bin .add .i64 (.var 6) (.lit 1)))] [])))))
 (.ret (.sl 3 (.lit 0) (.var 4) (.var 5)) []))))
theorem S_law30_row : FnIs Tryz.prog n_law30_row [.sl] T_law30_row := ⟨Tryz.f15, [{ key := 6, tmps := [], join := true, dead := 1073708770 }], 4000, Tryz.func15, by kernel_rfl⟩
abbrev n_analogy_check : FuncId := 19
def T_analogy_check : Tree :=
 (.chk (.cmp .geq (.var 1) (.lit 0))
 (.ite (.cmp .gtr (.var 1) (.lit 256))
 (.ret (.int .i64 (.lit 12)) [])
 (.chk (.cmp .geq (.var 1) (.lit 0))
 (.loop 0 [(.int .i64), (.int .i64)] [(.int .i64 (.lit 0)), (.int .i64 (.lit 0))] [] []
 (.ite (.cmp .lss (.var 7) (.var 1))
 (.chk (.pick (.cmp .geq (.var 7) (.lit 0)) (.pick (.cmp .lss (.var 7) (.var 1)) (.some 0) (.lit false)) (.lit false))
 (.load 0 (.off (.var 7) 2 (.lit 0)) [.sl, .sl] []
 (.alloc
 (.alloc
 (.call false 19 [(.cst (.slice none 0 0)), (.slc 1 0 2 2)] (.int .i64) [⟨[(.sl 8 (.lit 0) (.var 9) (.var 10)), (.sl 11 (.lit 0) (.var 12) (.var 13))], 36⟩, ⟨[(.sl 8 (.lit 0) (.var 9) (.var 10)), (.sl 11 (.lit 0) (.var 12) (.var 13))], 23⟩]
 (.ite (.cmp .neq (.var 14) (.lit 0))
 (.ret (.int .i64 (.var 14)) [⟨[(.sl 8 (.lit 0) (.var 9) (.var 10)), (.sl 11 (.lit 0) (.var 12) (.var 13))], 36⟩, ⟨[(.sl 8 (.lit 0) (.var 9) (.var 10)), (.sl 11 (.lit 0) (.var 12) (.var 13))], 23⟩])
 (.again 0 0 [(.int .i64), (.int .i64)] [(.int .i64 (.var 6)), (.int .i64 (.bin .add .i64 (.var 7) (.lit 1)))] [⟨[(.sl 8 (.lit 0) (.var 9) (.var 10)), (.sl 11 (.lit 0) (.var 12) (.var 13))], 36⟩, ⟨[(.sl 8 (.lit 0) (.var 9) (.var 10)), (.sl 11 (.lit 0) (.var 12) (.var 13))], 23⟩])))))))
 (.chk (.cmp .geq (.var 4) (.lit 0))
 (.loop 0 [(.int .i64), (.int .i64)] [(.int .i64 (.var 6)), (.int .i64 (.lit 0))] [] []
 (.ite (.cmp .lss (.var 9) (.var 4))
 (.chk (.pick (.cmp .geq (.var 9) (.lit 0)) (.pick (.cmp .lss (.var 9) (.var 4)) (.some 3) (.lit false)) (.lit false))
 (.load 3 (.off (.var 9) 1 (.lit 0)) [.sl] []
 (.call false 44 [(.sl 10 (.lit 0) (.var 11) (.var 12))] (.int .i64) []
 (.ite (.cmp .neq (.var 13) (.lit 0))
 (.ret (.int .i64 (.var 13)) [])
 (.again 0 0 [(.int .i64), (.int .i64)] [(.int .i64 (.var 8)), (.int .i64 (.bin .add .i64 (.var 9) (.lit 1)))] [])))))
 (.ret (.int .i64 (.lit 0)) [])))))))))
theorem S_analogy_check : FnIs Tryz.prog n_analogy_check [.sl, .sl] T_analogy_check := ⟨Tryz.f19, [], 4000, Tryz.func19, by kernel_rfl⟩
abbrev n_multi_Score : FuncId := 22
def T_multi_Score : Tree :=
 (.alloc
 (.alloc
 (.alloc
 (.alloc
 (.call false 46 [(.slc 3 0 2 2)] (.int .i64) [⟨[(.sl 0 (.lit 0) (.var 1) (.var 2))], 55⟩, ⟨[(.sl 3 (.lit 0) (.var 4) (.var 5))], 56⟩, ⟨[(.sl 6 (.lit 0) (.var 7) (.var 8)), (.int .i64 (.var 9))], 26⟩, ⟨[(.fn (.func 52) [] [(.loc 2 0)]), (.fn (.func 53) [] [(.loc 0 0), (.loc 1 0)])], 91⟩]
 (.ite (.cmp .neq (.var 10) (.lit 0))
 (.ret (.tup [(.int .i64 (.lit 0)), (.int .i64 (.var 10))]) [⟨[(.sl 0 (.lit 0) (.var 1) (.var 2))], 55⟩, ⟨[(.sl 3 (.lit 0) (.var 4) (.var 5))], 56⟩, ⟨[(.sl 6 (.lit 0) (.var 7) (.var 8)), (.int .i64 (.var 9))], 26⟩, ⟨[(.fn (.func 52) [] [(.loc 2 0)]), (.fn (.func 53) [] [(.loc 0 0), (.loc 1 0)])], 91⟩])
 (.call false 50 [(.sl 0 (.lit 0) (.var 1) (.var 2)), (.agg [(.sl 6 (.lit 0) (.var 7) (.var 8)), (.int .i64 (.var 9))])] .val [⟨[(.sl 0 (.lit 0) (.var 1) (.var 2))], 55⟩, ⟨[(.sl 3 (.lit 0) (.var 4) (.var 5))], 56⟩, ⟨[(.sl 6 (.lit 0) (.var 7) (.var 8)), (.int .i64 (.var 9))], 26⟩, ⟨[(.fn (.func 52) [] [(.loc 2 0)]), (.fn (.func 53) [] [(.loc 0 0), (.loc 1 0)])], 91⟩]
 (.call false 55 [(.sl 3 (.lit 0) (.var 4) (.var 5)), (.val 11)] (.int .i64) [⟨[(.sl 0 (.lit 0) (.var 1) (.var 2))], 55⟩, ⟨[(.sl 3 (.lit 0) (.var 4) (.var 5))], 56⟩, ⟨[(.sl 6 (.lit 0) (.var 7) (.var 8)), (.int .i64 (.var 9))], 26⟩, ⟨[(.fn (.func 52) [] [(.loc 2 0)]), (.fn (.func 53) [] [(.loc 0 0), (.loc 1 0)])], 91⟩]
 (.ret (.tup [(.int .i64 (.var 12)), (.int .i64 (.lit 0))]) [⟨[(.sl 0 (.lit 0) (.var 1) (.var 2))], 55⟩, ⟨[(.sl 3 (.lit 0) (.var 4) (.var 5))], 56⟩, ⟨[(.sl 6 (.lit 0) (.var 7) (.var 8)), (.int .i64 (.var 9))], 26⟩, ⟨[(.fn (.func 52) [] [(.loc 2 0)]), (.fn (.func 53) [] [(.loc 0 0), (.loc 1 0)])], 91⟩])))))))))
theorem S_multi_Score : FnIs Tryz.prog n_multi_Score [.sl, .sl, (.agg [.sl, (.int .i64)])] T_multi_Score := ⟨Tryz.f22, [], 4000, Tryz.func22, by kernel_rfl⟩
abbrev n_analogy_supports : FuncId := 25
def T_analogy_supports : Tree :=
 (.alloc
 (.alloc
 (.alloc
 (.call false 34 [(.agg [(.sl 0 (.lit 0) (.var 1) (.var 2)), (.sl 3 (.lit 0) (.var 4) (.var 5))]), (.sl 6 (.lit 0) (.var 7) (.var 8))] .val [⟨[(.sl 0 (.lit 0) (.var 1) (.var 2)), (.sl 3 (.lit 0) (.var 4) (.var 5))], 36⟩, ⟨[(.sl 9 (.lit 0) (.var 10) (.var 11))], 23⟩, ⟨[(.bool (.lit false))], 4⟩]
 (.range (.val 12) [.sl] [.bool] [(.bool (.lit false))] [⟨[(.sl 0 (.lit 0) (.var 1) (.var 2)), (.sl 3 (.lit 0) (.var 4) (.var 5))], 36⟩, ⟨[(.sl 9 (.lit 0) (.var 10) (.var 11))], 23⟩, ⟨[(.bool (.lit false))], 4⟩] [⟨[(.sl 0 (.lit 0) (.var 1) (.var 2)), (.sl 3 (.lit 0) (.var 4) (.var 5))], 36⟩, ⟨[(.sl 9 (.lit 0) (.var 10) (.var 11))], 23⟩, ⟨[(.bool (.var 13))], 4⟩]
 (.call false 20 [(.sl 14 (.lit 0) (.var 15) (.var 16)), (.sl 9 (.lit 0) (.var 10) (.var 11))] .bool [⟨[(.sl 0 (.lit 0) (.var 1) (.var 2)), (.sl 3 (.lit 0) (.var 4) (.var 5))], 36⟩, ⟨[(.sl 9 (.lit 0) (.var 10) (.var 11))], 23⟩, ⟨[(.bool (.var 13))], 4⟩]
 (.ite (.var 17)
 (.leave 1 3 [.bool] [(.bool (.lit true))] [⟨[(.sl 0 (.lit 0) (.var 1) (.var 2)), (.sl 3 (.lit 0) (.var 4) (.var 5))], 36⟩, ⟨[(.sl 9 (.lit 0) (.var 10) (.var 11))], 23⟩, ⟨[(.bool (.lit true))], 4⟩])
 (.leave 0 3 [.bool] [(.bool (.var 13))] [⟨[(.sl 0 (.lit 0) (.var 1) (.var 2)), (.sl 3 (.lit 0) (.var 4) (.var 5))], 36⟩, ⟨[(.sl 9 (.lit 0) (.var 10) (.var 11))], 23⟩, ⟨[(.bool (.var 13))], 4⟩])))
 (.ite (.cmp .eql (.var 14) (.lit 1))
 (.ret (.bool (.var 13)) [⟨[(.sl 0 (.lit 0) (.var 1) (.var 2)), (.sl 3 (.lit 0) (.var 4) (.var 5))], 36⟩, ⟨[(.sl 9 (.lit 0) (.var 10) (.var 11))], 23⟩, ⟨[(.bool (.var 13))], 4⟩])
 (.ret (.bool (.lit false)) [⟨[(.sl 0 (.lit 0) (.var 1) (.var 2)), (.sl 3 (.lit 0) (.var 4) (.var 5))], 36⟩, ⟨[(.sl 9 (.lit 0) (.var 10) (.var 11))], 23⟩, ⟨[(.bool (.lit false))], 4⟩])))))))
theorem S_analogy_supports : FnIs Tryz.prog n_analogy_supports [(.agg [.sl, .sl]), .sl, .sl] T_analogy_supports := ⟨Tryz.f25, [], 4000, Tryz.func25, by kernel_rfl⟩
abbrev n_analogy_one : FuncId := 31
def T_analogy_one : Tree :=
 (.alloc
 (.alloc
 (.call false 19 [(.cst (.slice none 0 0)), (.slc 1 0 3 3)] (.int .i64) [⟨[(.val 0), (.val 1)], 68⟩, ⟨[(.sl 2 (.lit 0) (.var 3) (.var 4)), (.sl 5 (.lit 0) (.var 6) (.var 7)), (.sl 8 (.lit 0) (.var 9) (.var 10))], 23⟩]
 (.ite (.cmp .neq (.var 11) (.lit 0))
 (.ret (.tup [(.cst (.slice none 0 0)), (.bool (.lit false)), (.int .i64 (.var 11))]) [⟨[(.val 0), (.val 1)], 68⟩, ⟨[(.sl 2 (.lit 0) (.var 3) (.var 4)), (.sl 5 (.lit 0) (.var 6) (.var 7)), (.sl 8 (.lit 0) (.var 9) (.var 10))], 23⟩])
 (.call false 62 [(.agg [(.val 0), (.val 1)]), (.sl 2 (.lit 0) (.var 3) (.var 4)), (.sl 5 (.lit 0) (.var 6) (.var 7)), (.sl 8 (.lit 0) (.var 9) (.var 10))] (.tup [.sl, .bool]) [⟨[(.val 0), (.val 1)], 68⟩, ⟨[(.sl 2 (.lit 0) (.var 3) (.var 4)), (.sl 5 (.lit 0) (.var 6) (.var 7)), (.sl 8 (.lit 0) (.var 9) (.var 10))], 23⟩]
 (.chk (.cmp .geq (.var 13) (.lit 0))
 (.ite (.cmp .gtr (.var 13) (.lit 32))
 (.ret (.tup [(.cst (.slice none 0 0)), (.bool (.lit false)), (.int .i64 (.lit 11))]) [⟨[(.val 0), (.val 1)], 68⟩, ⟨[(.sl 2 (.lit 0) (.var 3) (.var 4)), (.sl 5 (.lit 0) (.var 6) (.var 7)), (.sl 8 (.lit 0) (.var 9) (.var 10))], 23⟩])
 (.ret (.tup [(.sl 12 (.lit 0) (.var 13) (.var 14)), (.bool (.var 15)), (.int .i64 (.lit 0))]) [⟨[(.val 0), (.val 1)], 68⟩, ⟨[(.sl 2 (.lit 0) (.var 3) (.var 4)), (.sl 5 (.lit 0) (.var 6) (.var 7)), (.sl 8 (.lit 0) (.var 9) (.var 10))], 23⟩]))))))))
theorem S_analogy_one : FnIs Tryz.prog n_analogy_one [(.agg [.val, .val]), .sl, .sl, .sl] T_analogy_one := ⟨Tryz.f31, [], 4000, Tryz.func31, by kernel_rfl⟩
abbrev n_slices_IndexFunc___api_Pair_api_Pair_ : FuncId := 32
def T_slices_IndexFunc___api_Pair_api_Pair_ : Tree :=
 (.chk (.cmp .geq (.var 1) (.lit 0))
 (.loop 0 [(.int .i64), (.int .i64)] [(.int .i64 (.lit 0)), (.int .i64 (.lit 0))] [] []
 (.ite (.cmp .lss (.var 5) (.var 1))
 (.chk (.pick (.cmp .geq (.var 5) (.lit 0)) (.pick (.cmp .lss (.var 5) (.var 1)) (.some 0) (.lit false)) (.lit false))
 (.load 0 (.off (.var 5) 2 (.lit 0)) [.sl, .sl] []
 (.callv false (.val 3) [(.agg [(.sl 6 (.lit 0) (.var 7) (.var 8)), (.sl 9 (.lit 0) (.var 10) (.var 11))])] .bool []
 (.ite (.var 12)
 (.ret (.int .i64 (.var 5)) [])
 (.again 0 0 [(.int .i64), (.int .i64)] [(.int .i64 (.var 4)), (.int .i64 (.bin .add .i64 (.var 5) (.lit 1)))] [])))))
 (.ret (.int .i64 (.lit (-1))) []))))
theorem S_slices_IndexFunc___api_Pair_api_Pair_ : FnIs Tryz.prog n_slices_IndexFunc___api_Pair_api_Pair_ [.sl, .val] T_slices_IndexFunc___api_Pair_api_Pair_ := ⟨Tryz.f32, [], 4000, Tryz.func32, by kernel_rfl⟩
abbrev n_analogy_Explain_1 : FuncId := 33
def T_analogy_Explain_1 : Tree :=
 (.alloc
 (.load 6 (.lit 0) [.sl] [⟨[(.sl 0 (.lit 0) (.var 1) (.var 2)), (.sl 3 (.lit 0) (.var 4) (.var 5))], 36⟩]
 (.load 7 (.lit 0) [.sl] [⟨[(.sl 0 (.lit 0) (.var 1) (.var 2)), (.sl 3 (.lit 0) (.var 4) (.var 5))], 36⟩]
 (.call false 25 [(.agg [(.sl 0 (.lit 0) (.var 1) (.var 2)), (.sl 3 (.lit 0) (.var 4) (.var 5))]), (.sl 8 (.lit 0) (.var 9) (.var 10)), (.sl 11 (.lit 0) (.var 12) (.var 13))] .bool [⟨[(.sl 0 (.lit 0) (.var 1) (.var 2)), (.sl 3 (.lit 0) (.var 4) (.var 5))], 36⟩]
 (.ret (.bool (.var 14)) [⟨[(.sl 0 (.lit 0) (.var 1) (.var 2)), (.sl 3 (.lit 0) (.var 4) (.var 5))], 36⟩])))))
theorem S_analogy_Explain_1 : FnIs Tryz.prog n_analogy_Explain_1 [(.agg [.sl, .sl]), .ptr, .ptr] T_analogy_Explain_1 := ⟨Tryz.f33, [], 4000, Tryz.func33, by kernel_rfl⟩
abbrev n_analogy_results : FuncId := 34
def T_analogy_results : Tree :=
 (.alloc
 (.alloc
 (.ret (.fn (.func 63) [] [(.loc 0 0), (.loc 1 0)]) [⟨[(.sl 0 (.lit 0) (.var 1) (.var 2)), (.sl 3 (.lit 0) (.var 4) (.var 5))], 36⟩, ⟨[(.sl 6 (.lit 0) (.var 7) (.var 8))], 23⟩])))
theorem S_analogy_results : FnIs Tryz.prog n_analogy_results [(.agg [.sl, .sl]), .sl] T_analogy_results := ⟨Tryz.f34, [], 4000, Tryz.func34, by kernel_rfl⟩
abbrev n_analogy_key : FuncId := 35
def T_analogy_key : Tree :=
 (.chk (.cmp .geq (.var 1) (.lit 0))
 (.loop 0 [.sl, (.int .i64)] [(.cst (.slice none 0 0)), (.int .i64 (.lit 0))] [] []
 (.ite (.cmp .lss (.var 6) (.var 1))
 (.chk (.pick (.cmp .geq (.var 6) (.lit 0)) (.pick (.cmp .lss (.var 6) (.var 1)) (.some 0) (.lit false)) (.lit false))
 (.load 0 (.off (.var 6) 2 (.lit 0)) [(.int .u32), (.int .u32)] []
 (.alloc
 (.loop 1 [.sl, (.int .i64)] [(.sl 3 (.lit 0) (.var 4) (.var 5)), (.int .i64 (.lit 0))] [⟨[(.int .u32 (.var 7)), (.int .u32 (.var 8))], 71⟩] [⟨[(.int .u32 (.var 7)), (.int .u32 (.var 8))], 71⟩]
 (.ite (.cmp .lss (.var 12) (.lit 2))
 (.chk (.cmp .leq (.lit 0) (.var 12))
 (.chk (.cmp .lss (.var 12) (.lit 2))
 (.ite (.cmp .eql (.var 12) (.lit 0))
 (.alloc
 (.ext false ⟨(.call ⟨.builtin .append, #[(.tmp 0), (.tmp 0)], #[104, 104]⟩), 104, [(.sl 9 (.lit 0) (.var 10) (.var 11)), (.slc 1 0 3 3)]⟩ .sl [⟨[(.int .u32 (.var 7)), (.int .u32 (.var 8))], 71⟩, ⟨[(.int .u8 (.conv .u8 (.var 7))), (.int .u8 (.conv .u8 (.bin .shr .u32 (.var 7) (.lit 8)))), (.int .u8 (.conv .u8 (.bin .shr .u32 (.var 7) (.lit 16))))], 5⟩]
 (.again 1 1 [.sl, (.int .i64)] [(.sl 13 (.lit 0) (.var 14) (.var 15)), (.int .i64 (.bin .add .i64 (.var 12) (.lit 1)))] [⟨[(.int .u32 (.var 7)), (.int .u32 (.var 8))], 71⟩, ⟨[(.int .u8 (.conv .u8 (.var 7))), (.int .u8 (.conv .u8 (.bin .shr .u32 (.var 7) (.lit 8)))), (.int .u8 (.conv .u8 (.bin .shr .u32 (.var 7) (.lit 16))))], 5⟩])))
 (.ite (.cmp .eql (.var 12) (.lit 1))
 (.alloc
 (.ext false ⟨(.call ⟨.builtin .append, #[(.tmp 0), (.tmp 0)], #[104, 104]⟩), 104, [(.sl 9 (.lit 0) (.var 10) (.var 11)), (.slc 1 0 3 3)]⟩ .sl [⟨[(.int .u32 (.var 7)), (.int .u32 (.var 8))], 71⟩, ⟨[(.int .u8 (.conv .u8 (.var 8))), (.int .u8 (.conv .u8 (.bin .shr .u32 (.var 8) (.lit 8)))), (.int .u8 (.conv .u8 (.bin .shr .u32 (.var 8) (.lit 16))))], 5⟩]
 (.again 1 1 [.sl, (.int .i64)] [(.sl 13 (.lit 0) (.var 14) (.var 15)), (.int .i64 (.bin .add .i64 (.var 12) (.lit 1)))] [⟨[(.int .u32 (.var 7)), (.int .u32 (.var 8))], 71⟩, ⟨[(.int .u8 (.conv .u8 (.var 8))), (.int .u8 (.conv .u8 (.bin .shr .u32 (.var 8) (.lit 8)))), (.int .u8 (.conv .u8 (.bin .shr .u32 (.var 8) (.lit 16))))], 5⟩])))
 (.bad "cases")))))
 (.again 0 0 [.sl, (.int .i64)] [(.sl 9 (.lit 0) (.var 10) (.var 11)), (.int .i64 (.bin .add .i64 (.var 6) (.lit 1)))] [⟨[(.int .u32 (.var 7)), (.int .u32 (.var 8))], 71⟩]))))))
 (.extp ⟨(.convert 104 9 (.tmp 0)), 9, [(.sl 3 (.lit 0) (.var 4) (.var 5))]⟩ .val []
 (.ret (.val 7) [])))))
theorem S_analogy_key : FnIs Tryz.prog n_analogy_key [.sl] T_analogy_key := ⟨Tryz.f35, [], 4000, Tryz.func35, by kernel_rfl⟩
abbrev n_slices_MinFunc_____api_Sound___api_Sound_ : FuncId := 36
def T_slices_MinFunc_____api_Sound___api_Sound_ : Tree :=
 (.chk (.cmp .geq (.var 1) (.lit 0))
 (.join 0 [] []
 (.ite (.cmp .lss (.var 1) (.lit 1))
 (.bad "ext sort.go:81")
 (.again 0 0 [] [] []))
 (.chk (.pick (.cmp .lss (.lit 0) (.var 1)) (.some 0) (.lit false))
 (.load 0 (.lit 0) [.sl] []
 (.loop 0 [.sl, (.int .i64)] [(.sl 4 (.lit 0) (.var 5) (.var 6)), (.int .i64 (.lit 1))] [] []
 (.chk (.cmp .geq (.var 1) (.lit 0))
 (.ite (.cmp .lss (.var 10) (.var 1))
 (.chk (.pick (.cmp .geq (.var 10) (.lit 0)) (.pick (.cmp .lss (.var 10) (.var 1)) (.some 0) (.lit false)) (.lit false))
 (.load 0 (.off (.var 10) 1 (.lit 0)) [.sl] []
 (.callv false (.val 3) [(.sl 11 (.lit 0) (.var 12) (.var 13)), (.sl 7 (.lit 0) (.var 8) (.var 9))] (.int .i64) []
 (.join 1 [.sl] []
 (.ite (.cmp .lss (.var 14) (.lit 0))
 (.chk (.pick (.cmp .geq (.var 10) (.lit 0)) (.pick (.cmp .lss (.var 10) (.var 1)) (.some 0) (.lit false)) (.lit false))
 (.load 0 (.off (.var 10) 1 (.lit 0)) [.sl] []
 (.again 1 0 [.sl] [(.sl 15 (.lit 0) (.var 16) (.var 17))] [])))
 (.again 1 0 [.sl] [(.sl 7 (.lit 0) (.var 8) (.var 9))] []))
 (.again 0 0 [.sl, (.int .i64)] [(.sl 15 (.lit 0) (.var 16) (.var 17)), (.int .i64 (.bin .add .i64 (.var 10) (.lit 1)))] [])))))
 (.ret (.sl 7 (.lit 0) (.var 8) (.var 9)) []))))))))
theorem S_slices_MinFunc_____api_Sound___api_Sound_ : FnIs Tryz.prog n_slices_MinFunc_____api_Sound___api_Sound_ [.sl, .val] T_slices_MinFunc_____api_Sound___api_Sound_ := ⟨Tryz.f36, [{ key := 2, tmps := [], join := true, dead := 8455585164 }, { key := 8, tmps := [], join := true }], 4000, Tryz.func36, by kernel_rfl⟩
abbrev n_analogy_Extend_1 : FuncId := 37
def T_analogy_Extend_1 : Tree :=
 (.load 6 (.lit 0) [.val] []
 (.load 6 (.lit 0) [.val] []
 (.call true 35 [(.sl 3 (.lit 0) (.var 4) (.var 5))] .val []
 (.extp ⟨(.lookup 73 (.tmp 0) (.tmp 0) false), 3, [(.val 7), (.val 9)]⟩ (.int .i64) []
 (.call true 35 [(.sl 0 (.lit 0) (.var 1) (.var 2))] .val []
 (.extp ⟨(.lookup 73 (.tmp 0) (.tmp 0) false), 3, [(.val 8), (.val 11)]⟩ (.int .i64) []
 (.ite (.cmp .neq (.bin .sub .i64 (.var 10) (.var 12)) (.lit 0))
 (.ret (.int .i64 (.bin .sub .i64 (.var 10) (.var 12))) [])
 (.call false 38 [(.sl 0 (.lit 0) (.var 1) (.var 2)), (.sl 3 (.lit 0) (.var 4) (.var 5))] (.int .i64) []
 (.ret (.int .i64 (.var 13)) [])))))))))
theorem S_analogy_Extend_1 : FnIs Tryz.prog n_analogy_Extend_1 [.sl, .sl, .ptr] T_analogy_Extend_1 := ⟨Tryz.f37, [], 4000, Tryz.func37, by kernel_rfl⟩
abbrev n_multi_first : FuncId := 46
def T_multi_first : Tree :=
 (.chk (.cmp .geq (.var 1) (.lit 0))
 (.loop 0 [(.int .i64), (.int .i64)] [(.int .i64 (.lit 0)), (.int .i64 (.lit 0))] [] []
 (.ite (.cmp .lss (.var 4) (.var 1))
 (.chk (.pick (.cmp .geq (.var 4) (.lit 0)) (.pick (.cmp .lss (.var 4) (.var 1)) (.some 0) (.lit false)) (.lit false))
 (.load 0 (.off (.var 4) 1 (.lit 0)) [.val] []
 (.callv false (.val 5) [] (.int .i64) []
 (.ite (.cmp .neq (.var 6) (.lit 0))
 (.ret (.int .i64 (.var 6)) [])
 (.again 0 0 [(.int .i64), (.int .i64)] [(.int .i64 (.var 3)), (.int .i64 (.bin .add .i64 (.var 4) (.lit 1)))] [])))))
 (.ret (.int .i64 (.lit 0)) []))))
theorem S_multi_first : FnIs Tryz.prog n_multi_first [.sl] T_multi_first := ⟨Tryz.f46, [], 4000, Tryz.func46, by kernel_rfl⟩
abbrev n_multi_words : FuncId := 49
def T_multi_words : Tree :=
 (.chk (.cmp .geq (.var 2) (.lit 0))
 (.ite (.cmp .gtr (.var 2) (.var 0))
 (.ret (.int .i64 (.lit 12)) [])
 (.chk (.cmp .geq (.var 2) (.lit 0))
 (.loop 0 [(.int .i64), (.int .i64)] [(.int .i64 (.lit 0)), (.int .i64 (.lit 0))] [] []
 (.ite (.cmp .lss (.var 5) (.var 2))
 (.chk (.pick (.cmp .geq (.var 5) (.lit 0)) (.pick (.cmp .lss (.var 5) (.var 2)) (.some 1) (.lit false)) (.lit false))
 (.load 1 (.off (.var 5) 1 (.lit 0)) [.sl] []
 (.call false 44 [(.sl 6 (.lit 0) (.var 7) (.var 8))] (.int .i64) []
 (.ite (.cmp .neq (.var 9) (.lit 0))
 (.ret (.int .i64 (.var 9)) [])
 (.again 0 0 [(.int .i64), (.int .i64)] [(.int .i64 (.var 4)), (.int .i64 (.bin .add .i64 (.var 5) (.lit 1)))] [])))))
 (.ret (.int .i64 (.lit 0)) []))))))
theorem S_multi_words : FnIs Tryz.prog n_multi_words [(.int .i64), .sl] T_multi_words := ⟨Tryz.f49, [], 4000, Tryz.func49, by kernel_rfl⟩
abbrev n_multi_pricer : FuncId := 50
def T_multi_pricer : Tree :=
 (.alloc
 (.alloc
 (.ret (.fn (.func 70) [] [(.loc 1 0), (.loc 0 0)]) [⟨[(.sl 0 (.lit 0) (.var 1) (.var 2))], 55⟩, ⟨[(.sl 3 (.lit 0) (.var 4) (.var 5)), (.int .i64 (.var 6))], 26⟩])))
theorem S_multi_pricer : FnIs Tryz.prog n_multi_pricer [.sl, (.agg [.sl, (.int .i64)])] T_multi_pricer := ⟨Tryz.f50, [], 4000, Tryz.func50, by kernel_rfl⟩
abbrev n_multi_Score_1 : FuncId := 52
def T_multi_Score_1 : Tree :=
 (.load 0 (.lit 0) [.sl, (.int .i64)] []
 (.call false 18 [(.agg [(.sl 1 (.lit 0) (.var 2) (.var 3)), (.int .i64 (.var 4))])] (.int .i64) []
 (.ret (.int .i64 (.var 5)) [])))
theorem S_multi_Score_1 : FnIs Tryz.prog n_multi_Score_1 [.ptr] T_multi_Score_1 := ⟨Tryz.f52, [], 4000, Tryz.func52, by kernel_rfl⟩
abbrev n_multi_Score_2 : FuncId := 53
def T_multi_Score_2 : Tree :=
 (.load 0 (.lit 0) [.sl] []
 (.load 1 (.lit 0) [.sl] []
 (.call false 54 [(.sl 2 (.lit 0) (.var 3) (.var 4)), (.sl 5 (.lit 0) (.var 6) (.var 7))] (.int .i64) []
 (.ret (.int .i64 (.var 8)) []))))
theorem S_multi_Score_2 : FnIs Tryz.prog n_multi_Score_2 [.ptr, .ptr] T_multi_Score_2 := ⟨Tryz.f53, [], 4000, Tryz.func53, by kernel_rfl⟩
abbrev n_multi_Check : FuncId := 54
def T_multi_Check : Tree :=
 (.call false 49 [(.int .i64 (.lit 8)), (.sl 0 (.lit 0) (.var 1) (.var 2))] (.int .i64) []
 (.ite (.cmp .neq (.var 6) (.lit 0))
 (.ret (.int .i64 (.var 6)) [])
 (.call false 73 [(.sl 0 (.lit 0) (.var 1) (.var 2)), (.sl 3 (.lit 0) (.var 4) (.var 5))] .bool []
 (.ite (.not (.var 7))
 (.ret (.int .i64 (.lit 8)) [])
 (.ret (.int .i64 (.lit 0)) [])))))
theorem S_multi_Check : FnIs Tryz.prog n_multi_Check [.sl, .sl] T_multi_Check := ⟨Tryz.f54, [], 4000, Tryz.func54, by kernel_rfl⟩
abbrev n_multi_total : FuncId := 55
def T_multi_total : Tree :=
 (.chk (.cmp .geq (.var 1) (.lit 0))
 (.loop 0 [(.int .i64), (.int .i64)] [(.int .i64 (.lit 0)), (.int .i64 (.lit 0))] [] []
 (.ite (.cmp .lss (.var 5) (.var 1))
 (.chk (.pick (.cmp .geq (.var 5) (.lit 0)) (.pick (.cmp .lss (.var 5) (.var 1)) (.some 0) (.lit false)) (.lit false))
 (.load 0 (.off (.var 5) 1 (.lit 0)) [.sl] []
 (.callv false (.val 3) [(.sl 6 (.lit 0) (.var 7) (.var 8))] (.int .i64) []
 (.again 0 0 [(.int .i64), (.int .i64)] [(.int .i64 (.bin .add .i64 (.var 4) (.var 9))), (.int .i64 (.bin .add .i64 (.var 5) (.lit 1)))] []))))
 (.ret (.int .i64 (.var 4)) []))))
theorem S_multi_total : FnIs Tryz.prog n_multi_total [.sl, .val] T_multi_total := ⟨Tryz.f55, [], 4000, Tryz.func55, by kernel_rfl⟩
abbrev n__analogy_change__solve : FuncId := 62
def T__analogy_change__solve : Tree :=
 (.alloc
 (.callv false (.val 0) [(.sl 2 (.lit 0) (.var 3) (.var 4)), (.sl 5 (.lit 0) (.var 6) (.var 7))] (.tup [.sl, .sl]) [⟨[(.val 0), (.val 1)], 68⟩]
 (.callv false (.val 1) [(.sl 11 (.lit 0) (.var 12) (.var 13)), (.sl 14 (.lit 0) (.var 15) (.var 16)), (.sl 8 (.lit 0) (.var 9) (.var 10))] (.tup [.sl, .bool]) [⟨[(.val 0), (.val 1)], 68⟩]
 (.ret (.tup [(.sl 17 (.lit 0) (.var 18) (.var 19)), (.bool (.var 20))]) [⟨[(.val 0), (.val 1)], 68⟩]))))
theorem S__analogy_change__solve : FnIs Tryz.prog n__analogy_change__solve [(.agg [.val, .val]), .sl, .sl, .sl] T__analogy_change__solve := ⟨Tryz.f62, [], 4000, Tryz.func62, by kernel_rfl⟩
abbrev n_analogy_results_1 : FuncId := 63
def T_analogy_results_1 : Tree :=
 (.extp ⟨(.load 68 (.tmp 0)), 68, [(.cst (.pointer (some ⟨0, 0, none⟩)))]⟩ (.agg [.val, .val]) []
 (.chk (.some 1)
 (.load 1 (.lit 0) [.sl] []
 (.chk (.some 1)
 (.load 1 (.lit 1) [.sl] []
 (.load 2 (.lit 0) [.sl] []
 (.call false 62 [(.agg [(.val 3), (.val 4)]), (.sl 5 (.lit 0) (.var 6) (.var 7)), (.sl 8 (.lit 0) (.var 9) (.var 10)), (.sl 11 (.lit 0) (.var 12) (.var 13))] (.tup [.sl, .bool]) []
 (.ite (.var 17)
 (.callv false (.val 0) [(.sl 14 (.lit 0) (.var 15) (.var 16))] .bool []
 (.ite (.not (.var 18))
 (.ret (.tup []) [])
 (.extp ⟨(.load 68 (.tmp 0)), 68, [(.cst (.pointer (some ⟨1, 0, none⟩)))]⟩ (.agg [.val, .val]) []
 (.chk (.some 1)
 (.load 1 (.lit 0) [.sl] []
 (.chk (.some 1)
 (.load 1 (.lit 1) [.sl] []
 (.load 2 (.lit 0) [.sl] []
 (.call false 62 [(.agg [(.val 19), (.val 20)]), (.sl 21 (.lit 0) (.var 22) (.var 23)), (.sl 24 (.lit 0) (.var 25) (.var 26)), (.sl 27 (.lit 0) (.var 28) (.var 29))] (.tup [.sl, .bool]) []
 (.ite (.var 33)
 (.call false 20 [(.sl 14 (.lit 0) (.var 15) (.var 16)), (.sl 30 (.lit 0) (.var 31) (.var 32))] .bool []
 (.ite (.not (.var 34))
 (.callv false (.val 0) [(.sl 30 (.lit 0) (.var 31) (.var 32))] .bool []
 (.ret (.tup []) []))
 (.ret (.tup []) [])))
 (.ret (.tup []) [])))))))))))
 (.extp ⟨(.load 68 (.tmp 0)), 68, [(.cst (.pointer (some ⟨1, 0, none⟩)))]⟩ (.agg [.val, .val]) []
 (.chk (.some 1)
 (.load 1 (.lit 0) [.sl] []
 (.chk (.some 1)
 (.load 1 (.lit 1) [.sl] []
 (.load 2 (.lit 0) [.sl] []
 (.call false 62 [(.agg [(.val 18), (.val 19)]), (.sl 20 (.lit 0) (.var 21) (.var 22)), (.sl 23 (.lit 0) (.var 24) (.var 25)), (.sl 26 (.lit 0) (.var 27) (.var 28))] (.tup [.sl, .bool]) []
 (.ite (.pick (.var 32) (.lit true) (.lit false))
 (.callv false (.val 0) [(.sl 29 (.lit 0) (.var 30) (.var 31))] .bool []
 (.ret (.tup []) []))
 (.ret (.tup []) [])))))))))))))))))
theorem S_analogy_results_1 : FnIs Tryz.prog n_analogy_results_1 [.val, .ptr, .ptr] T_analogy_results_1 := ⟨Tryz.f63, [], 4000, Tryz.func63, by kernel_rfl⟩
abbrev n_multi_pricer_1 : FuncId := 70
def T_multi_pricer_1 : Tree :=
 (.chk (.cmp .geq (.var 1) (.lit 0))
 (.loop 0 [(.int .i64), (.int .i64)] [(.int .i64 (.lit 0)), (.int .i64 (.lit 0))] [] []
 (.ite (.cmp .lss (.var 6) (.var 1))
 (.chk (.pick (.cmp .geq (.var 6) (.lit 0)) (.pick (.cmp .lss (.var 6) (.var 1)) (.some 0) (.lit false)) (.lit false))
 (.load 0 (.off (.var 6) 1 (.lit 0)) [(.int .i64)] []
 (.chk (.pick (.cmp .leq (.lit 0) (.var 6)) (.cmp .leq (.var 6) (.var 2)) (.lit false))
 (.chk (.cmp .geq (.var 6) (.lit 0))
 (.loop 1 [(.int .i64), (.int .i64)] [(.int .i64 (.var 5)), (.int .i64 (.lit 0))] [] []
 (.ite (.cmp .lss (.var 9) (.var 6))
 (.chk (.pick (.cmp .geq (.ifeq (.var 2) (.lit 0) (.lit 0) (.lit 0)) (.lit 0)) (.pick (.cmp .geq (.var 9) (.lit 0)) (.pick (.cmp .lss (.var 9) (.var 6)) (.some 0) (.lit false)) (.lit false)) (.lit false))
 (.load 0 (.off (.var 9) 1 (.ifeq (.var 2) (.lit 0) (.lit 0) (.lit 0))) [(.int .i64)] []
 (.ite (.pick (.cmp .eql (.var 7) (.lit (-1))) (.cmp .eql (.var 10) (.lit (-1))) (.lit false))
 (.again 1 0 [(.int .i64), (.int .i64)] [(.int .i64 (.var 8)), (.int .i64 (.bin .add .i64 (.var 9) (.lit 1)))] [])
 (.ite (.pick (.cmp .eql (.var 7) (.lit (-1))) (.lit true) (.cmp .eql (.var 10) (.lit (-1))))
 (.chk (.some 3)
 (.load 3 (.lit 1) [(.int .i64)] []
 (.again 1 0 [(.int .i64), (.int .i64)] [(.int .i64 (.bin .add .i64 (.var 8) (.var 11))), (.int .i64 (.bin .add .i64 (.var 9) (.lit 1)))] [])))
 (.load 4 (.lit 0) [.sl] []
 (.chk (.pick (.cmp .geq (.var 6) (.lit 0)) (.pick (.cmp .lss (.var 6) (.var 12)) (.some 11) (.lit false)) (.lit false))
 (.load 11 (.off (.var 6) 1 (.lit 0)) [.sl] []
 (.chk (.pick (.cmp .geq (.var 7) (.lit 0)) (.pick (.cmp .lss (.var 7) (.var 15)) (.some 14) (.lit false)) (.lit false))
 (.load 14 (.off (.var 7) 2 (.lit 0)) [(.int .u32), (.int .u32)] []
 (.load 4 (.lit 0) [.sl] []
 (.chk (.pick (.cmp .geq (.var 9) (.lit 0)) (.pick (.cmp .lss (.var 9) (.var 20)) (.some 19) (.lit false)) (.lit false))
 (.load 19 (.off (.var 9) 1 (.lit 0)) [.sl] []
 (.chk (.pick (.cmp .geq (.var 10) (.lit 0)) (.pick (.cmp .lss (.var 10) (.var 23)) (.some 22) (.lit false)) (.lit false))
 (.load 22 (.off (.var 10) 2 (.lit 0)) [(.int .u32), (.int .u32)] []
 (.load 3 (.lit 0) [.sl, (.int .i64)] []
 (.call false 71 [(.agg [(.int .u32 (.var 17)), (.int .u32 (.var 18))]), (.agg [(.int .u32 (.var 25)), (.int .u32 (.var 26))]), (.agg [(.sl 27 (.lit 0) (.var 28) (.var 29)), (.int .i64 (.var 30))])] (.tup [(.int .i64), (.int .i64)]) []
 (.again 1 0 [(.int .i64), (.int .i64)] [(.int .i64 (.bin .add .i64 (.var 8) (.var 31))), (.int .i64 (.bin .add .i64 (.var 9) (.lit 1)))] [])))))))))))))))))
 (.again 0 0 [(.int .i64), (.int .i64)] [(.int .i64 (.var 8)), (.int .i64 (.bin .add .i64 (.var 6) (.lit 1)))] [])))))))
 (.ret (.int .i64 (.var 5)) []))))
theorem S_multi_pricer_1 : FnIs Tryz.prog n_multi_pricer_1 [.sl, .ptr, .ptr] T_multi_pricer_1 := ⟨Tryz.f70, [], 4000, Tryz.func70, by kernel_rfl⟩
abbrev n_multi_aligned : FuncId := 73
def T_multi_aligned : Tree :=
 (.chk (.cmp .geq (.var 1) (.lit 0))
 (.ext false ⟨(.makeSlice 83 (.tmp 0) (.tmp 0)), 83, [(.int .i64 (.var 1)), (.int .i64 (.var 1))]⟩ .sl []
 (.chk (.cmp .geq (.var 4) (.lit 0))
 (.loop 0 [.bool, (.int .i64)] [(.bool (.lit false)), (.int .i64 (.lit 0))] [] []
 (.ite (.cmp .lss (.var 10) (.var 4))
 (.chk (.pick (.cmp .geq (.var 10) (.lit 0)) (.pick (.cmp .lss (.var 10) (.var 4)) (.some 3) (.lit false)) (.lit false))
 (.load 3 (.off (.var 10) 1 (.lit 0)) [.sl] []
 (.chk (.cmp .geq (.var 12) (.lit 0))
 (.chk (.cmp .geq (.var 1) (.lit 0))
 (.ite (.cmp .neq (.var 12) (.var 1))
 (.ret (.bool (.lit false)) [])
 (.chk (.cmp .geq (.var 12) (.lit 0))
 (.loop 1 [.bool, .bool, (.int .i64)] [(.bool (.var 9)), (.bool (.lit true)), (.int .i64 (.lit 0))] [] []
 (.ite (.cmp .lss (.var 16) (.var 12))
 (.chk (.pick (.cmp .geq (.var 16) (.lit 0)) (.pick (.cmp .lss (.var 16) (.var 12)) (.some 11) (.lit false)) (.lit false))
 (.load 11 (.off (.var 16) 1 (.lit 0)) [(.int .i64)] []
 (.ite (.cmp .eql (.var 17) (.lit (-1)))
 (.again 1 0 [.bool, .bool, (.int .i64)] [(.bool (.var 14)), (.bool (.var 15)), (.int .i64 (.bin .add .i64 (.var 16) (.lit 1)))] [])
 (.chk (.pick (.cmp .geq (.var 16) (.lit 0)) (.pick (.cmp .lss (.var 16) (.var 7)) (.some 6) (.lit false)) (.lit false))
 (.load 6 (.off (.var 16) 1 (.lit 0)) [(.int .i64)] []
 (.ite (.cmp .eql (.var 17) (.var 18))
 (.chk (.pick (.cmp .geq (.var 16) (.lit 0)) (.pick (.cmp .lss (.var 16) (.var 7)) (.some 6) (.lit false)) (.lit false))
 (.load 6 (.off (.var 16) 1 (.lit 0)) [(.int .i64)] []
 (.chk (.pick (.cmp .geq (.var 16) (.lit 0)) (.pick (.cmp .lss (.var 16) (.var 7)) (.some 6) (.lit false)) (.lit false))
 (.store false 6 (.off (.var 16) 1 (.lit 0)) [(.int .i64 (.bin .add .i64 (.var 19) (.lit 1)))] []
 (.again 1 0 [.bool, .bool, (.int .i64)] [(.bool (.var 14)), (.bool (.lit false)), (.int .i64 (.bin .add .i64 (.var 16) (.lit 1)))] [])))))
 (.ret (.bool (.lit false)) [])))))))
 (.ite (.var 15)
 (.ret (.bool (.lit false)) [])
 (.again 0 0 [.bool, (.int .i64)] [(.bool (.var 14)), (.int .i64 (.bin .add .i64 (.var 10) (.lit 1)))] []))))))))))
 (.call false 90 [(.sl 0 (.lit 0) (.var 1) (.var 2)), (.sl 6 (.lit 0) (.var 7) (.var 8)), (.cst (.func (.func 91) #[] #[]))] .bool []
 (.ret (.bool (.var 11)) [])))))))
theorem S_multi_aligned : FnIs Tryz.prog n_multi_aligned [.sl, .sl] T_multi_aligned := ⟨Tryz.f73, [], 4000, Tryz.func73, by kernel_rfl⟩
abbrev n_slices_EqualFunc_____api_Sound___int___api_Sound_int_ : FuncId := 90
def T_slices_EqualFunc_____api_Sound___int___api_Sound_int_ : Tree :=
 (.chk (.cmp .geq (.var 1) (.lit 0))
 (.chk (.cmp .geq (.var 4) (.lit 0))
 (.ite (.cmp .neq (.var 1) (.var 4))
 (.ret (.bool (.lit false)) [])
 (.chk (.cmp .geq (.var 1) (.lit 0))
 (.loop 0 [.bool, (.int .i64)] [(.bool (.lit false)), (.int .i64 (.lit 0))] [] []
 (.ite (.cmp .lss (.var 8) (.var 1))
 (.chk (.pick (.cmp .geq (.var 8) (.lit 0)) (.pick (.cmp .lss (.var 8) (.var 1)) (.some 0) (.lit false)) (.lit false))
 (.load 0 (.off (.var 8) 1 (.lit 0)) [.sl] []
 (.chk (.pick (.cmp .geq (.var 8) (.lit 0)) (.pick (.cmp .lss (.var 8) (.var 4)) (.some 3) (.lit false)) (.lit false))
 (.load 3 (.off (.var 8) 1 (.lit 0)) [(.int .i64)] []
 (.callv false (.val 6) [(.sl 9 (.lit 0) (.var 10) (.var 11)), (.int .i64 (.var 12))] .bool []
 (.ite (.not (.var 13))
 (.ret (.bool (.lit false)) [])
 (.again 0 0 [.bool, (.int .i64)] [(.bool (.var 7)), (.int .i64 (.bin .add .i64 (.var 8) (.lit 1)))] [])))))))
 (.ret (.bool (.lit true)) [])))))))
theorem S_slices_EqualFunc_____api_Sound___int___api_Sound_int_ : FnIs Tryz.prog n_slices_EqualFunc_____api_Sound___int___api_Sound_int_ [.sl, .sl, .val] T_slices_EqualFunc_____api_Sound___int___api_Sound_int_ := ⟨Tryz.f90, [], 4000, Tryz.func90, by kernel_rfl⟩
abbrev n_multi_aligned_1 : FuncId := 91
def T_multi_aligned_1 : Tree :=
 (.chk (.cmp .geq (.var 1) (.lit 0))
 (.ret (.bool (.cmp .eql (.var 1) (.var 3))) []))
theorem S_multi_aligned_1 : FnIs Tryz.prog n_multi_aligned_1 [.sl, (.int .i64)] T_multi_aligned_1 := ⟨Tryz.f91, [], 4000, Tryz.func91, by kernel_rfl⟩
abbrev n_analogy_ending_1 : FuncId := 122
def T_analogy_ending_1 : Tree :=
 (.call false 123 [(.sl 0 (.lit 0) (.var 1) (.var 2)), (.sl 3 (.lit 0) (.var 4) (.var 5))] (.tup [(.int .i64), (.int .i64)]) []
 (.chk (.pick (.cmp .leq (.lit 0) (.var 6)) (.pick (.cmp .leq (.var 6) (.var 1)) (.cmp .leq (.var 1) (.var 2)) (.lit false)) (.lit false))
 (.chk (.pick (.cmp .leq (.lit 0) (.var 6)) (.pick (.cmp .leq (.var 6) (.var 4)) (.cmp .leq (.var 4) (.var 5)) (.lit false)) (.lit false))
 (.ret (.tup [(.sl 0 (.ifeq (.var 2) (.var 6) (.lit 0) (.off (.var 6) 2 (.lit 0))) (.dif (.var 1) (.var 6)) (.dif (.var 2) (.var 6))), (.sl 3 (.ifeq (.var 5) (.var 6) (.lit 0) (.off (.var 6) 2 (.lit 0))) (.dif (.var 4) (.var 6)) (.dif (.var 5) (.var 6)))]) []))))
theorem S_analogy_ending_1 : FnIs Tryz.prog n_analogy_ending_1 [.sl, .sl] T_analogy_ending_1 := ⟨Tryz.f122, [], 4000, Tryz.func122, by kernel_rfl⟩
abbrev n_analogy_ending_2 : FuncId := 124
def T_analogy_ending_2 : Tree :=
 (.chk (.cmp .geq (.var 7) (.lit 0))
 (.chk (.cmp .geq (.var 1) (.lit 0))
 (.ite (.cmp .lss (.bin .sub .i64 (.var 7) (.var 1)) (.lit 0))
 (.ret (.tup [(.cst (.slice none 0 0)), (.bool (.lit false))]) [])
 (.chk (.pick (.cmp .leq (.lit 0) (.bin .sub .i64 (.var 7) (.var 1))) (.pick (.cmp .leq (.bin .sub .i64 (.var 7) (.var 1)) (.var 7)) (.cmp .leq (.var 7) (.var 8)) (.lit false)) (.lit false))
 (.call false 20 [(.sl 6 (.ifeq (.var 8) (.bin .sub .i64 (.var 7) (.var 1)) (.lit 0) (.off (.bin .sub .i64 (.var 7) (.var 1)) 2 (.lit 0))) (.dif (.var 7) (.bin .sub .i64 (.var 7) (.var 1))) (.dif (.var 8) (.bin .sub .i64 (.var 7) (.var 1)))), (.sl 0 (.lit 0) (.var 1) (.var 2))] .bool []
 (.ite (.not (.var 9))
 (.ret (.tup [(.cst (.slice none 0 0)), (.bool (.lit false))]) [])
 (.chk (.pick (.cmp .leq (.lit 0) (.bin .sub .i64 (.var 7) (.var 1))) (.cmp .leq (.bin .sub .i64 (.var 7) (.var 1)) (.var 8)) (.lit false))
 (.alloc
 (.call false 43 [(.slc 0 0 2 2)] .sl [⟨[(.sl 6 (.ifeq (.var 8) (.lit 0) (.lit 0) (.lit 0)) (.bin .sub .i64 (.var 7) (.var 1)) (.var 8)), (.sl 3 (.lit 0) (.var 4) (.var 5))], 23⟩]
 (.ret (.tup [(.sl 10 (.lit 0) (.var 11) (.var 12)), (.bool (.lit true))]) [⟨[(.sl 6 (.ifeq (.var 8) (.lit 0) (.lit 0) (.lit 0)) (.bin .sub .i64 (.var 7) (.var 1)) (.var 8)), (.sl 3 (.lit 0) (.var 4) (.var 5))], 23⟩]))))))))))
theorem S_analogy_ending_2 : FnIs Tryz.prog n_analogy_ending_2 [.sl, .sl, .sl] T_analogy_ending_2 := ⟨Tryz.f124, [], 4000, Tryz.func124, by kernel_rfl⟩
abbrev n_analogy_beginning_1 : FuncId := 125
def T_analogy_beginning_1 : Tree :=
 (.chk (.cmp .geq (.var 1) (.lit 0))
 (.chk (.cmp .geq (.var 4) (.lit 0))
 (.loop 0 [(.int .i64), (.int .i64)] [(.int .i64 (.var 1)), (.int .i64 (.var 4))] [] []
 (.ite (.pick (.cmp .gtr (.var 6) (.lit 0)) (.cmp .gtr (.var 7) (.lit 0)) (.lit false))
 (.chk (.pick (.cmp .geq (.bin .sub .i64 (.var 6) (.lit 1)) (.lit 0)) (.pick (.cmp .lss (.bin .sub .i64 (.var 6) (.lit 1)) (.var 1)) (.some 0) (.lit false)) (.lit false))
 (.load 0 (.off (.bin .sub .i64 (.var 6) (.lit 1)) 2 (.lit 0)) [(.int .u32), (.int .u32)] []
 (.chk (.pick (.cmp .geq (.bin .sub .i64 (.var 7) (.lit 1)) (.lit 0)) (.pick (.cmp .lss (.bin .sub .i64 (.var 7) (.lit 1)) (.var 4)) (.some 3) (.lit false)) (.lit false))
 (.load 3 (.off (.bin .sub .i64 (.var 7) (.lit 1)) 2 (.lit 0)) [(.int .u32), (.int .u32)] []
 (.ite (.pick (.cmp .eql (.var 8) (.var 10)) (.cmp .eql (.var 9) (.var 11)) (.lit false))
 (.again 0 0 [(.int .i64), (.int .i64)] [(.int .i64 (.bin .sub .i64 (.var 6) (.lit 1))), (.int .i64 (.bin .sub .i64 (.var 7) (.lit 1)))] [])
 (.chk (.pick (.cmp .leq (.lit 0) (.var 6)) (.cmp .leq (.var 6) (.var 2)) (.lit false))
 (.chk (.pick (.cmp .leq (.lit 0) (.var 7)) (.cmp .leq (.var 7) (.var 5)) (.lit false))
 (.ret (.tup [(.sl 0 (.ifeq (.var 2) (.lit 0) (.lit 0) (.lit 0)) (.var 6) (.var 2)), (.sl 3 (.ifeq (.var 5) (.lit 0) (.lit 0) (.lit 0)) (.var 7) (.var 5))]) []))))))))
 (.chk (.pick (.cmp .leq (.lit 0) (.var 6)) (.cmp .leq (.var 6) (.var 2)) (.lit false))
 (.chk (.pick (.cmp .leq (.lit 0) (.var 7)) (.cmp .leq (.var 7) (.var 5)) (.lit false))
 (.ret (.tup [(.sl 0 (.ifeq (.var 2) (.lit 0) (.lit 0) (.lit 0)) (.var 6) (.var 2)), (.sl 3 (.ifeq (.var 5) (.lit 0) (.lit 0) (.lit 0)) (.var 7) (.var 5))]) [])))))))
theorem S_analogy_beginning_1 : FnIs Tryz.prog n_analogy_beginning_1 [.sl, .sl] T_analogy_beginning_1 := ⟨Tryz.f125, [], 4000, Tryz.func125, by kernel_rfl⟩
abbrev n_analogy_beginning_2 : FuncId := 126
def T_analogy_beginning_2 : Tree :=
 (.chk (.cmp .geq (.var 7) (.lit 0))
 (.chk (.cmp .geq (.var 1) (.lit 0))
 (.ite (.cmp .lss (.var 7) (.var 1))
 (.ret (.tup [(.cst (.slice none 0 0)), (.bool (.lit false))]) [])
 (.chk (.cmp .geq (.var 1) (.lit 0))
 (.chk (.pick (.cmp .leq (.lit 0) (.var 1)) (.cmp .leq (.var 1) (.var 8)) (.lit false))
 (.call false 20 [(.sl 6 (.ifeq (.var 8) (.lit 0) (.lit 0) (.lit 0)) (.var 1) (.var 8)), (.sl 0 (.lit 0) (.var 1) (.var 2))] .bool []
 (.ite (.not (.var 9))
 (.ret (.tup [(.cst (.slice none 0 0)), (.bool (.lit false))]) [])
 (.chk (.cmp .geq (.var 1) (.lit 0))
 (.chk (.pick (.cmp .leq (.lit 0) (.var 1)) (.pick (.cmp .leq (.var 1) (.var 7)) (.cmp .leq (.var 7) (.var 8)) (.lit false)) (.lit false))
 (.alloc
 (.call false 43 [(.slc 0 0 2 2)] .sl [⟨[(.sl 3 (.lit 0) (.var 4) (.var 5)), (.sl 6 (.ifeq (.var 8) (.var 1) (.lit 0) (.off (.var 1) 2 (.lit 0))) (.dif (.var 7) (.var 1)) (.dif (.var 8) (.var 1)))], 23⟩]
 (.ret (.tup [(.sl 10 (.lit 0) (.var 11) (.var 12)), (.bool (.lit true))]) [⟨[(.sl 3 (.lit 0) (.var 4) (.var 5)), (.sl 6 (.ifeq (.var 8) (.var 1) (.lit 0) (.off (.var 1) 2 (.lit 0))) (.dif (.var 7) (.var 1)) (.dif (.var 8) (.var 1)))], 23⟩]))))))))))))
theorem S_analogy_beginning_2 : FnIs Tryz.prog n_analogy_beginning_2 [.sl, .sl, .sl] T_analogy_beginning_2 := ⟨Tryz.f126, [], 4000, Tryz.func126, by kernel_rfl⟩
abbrev n_slices_Clone___int_int_ : FuncId := 129
def T_slices_Clone___int_int_ : Tree :=
 (.extp ⟨(.binOp .eql 83 (.tmp 0) (.const (.bool true)) 83), 4, [(.sl 0 (.lit 0) (.var 1) (.var 2)), (.cst (.slice none 0 0))]⟩ .bool []
 (.ite (.var 3)
 (.ret (.cst (.slice none 0 0)) [])
 (.alloc
 (.ext false ⟨(.call ⟨.builtin .append, #[(.tmp 0), (.tmp 0)], #[83, 83]⟩), 83, [(.slc 0 0 0 0), (.sl 0 (.lit 0) (.var 1) (.var 2))]⟩ .sl [⟨[], 3⟩]
 (.ret (.sl 4 (.lit 0) (.var 5) (.var 6)) [⟨[], 3⟩])))))
theorem S_slices_Clone___int_int_ : FnIs Tryz.prog n_slices_Clone___int_int_ [.sl] T_slices_Clone___int_int_ := ⟨Tryz.f129, [], 4000, Tryz.func129, by kernel_rfl⟩
end Go.Proofs.YtpbbnmjkbfbelaaGreatDoor
