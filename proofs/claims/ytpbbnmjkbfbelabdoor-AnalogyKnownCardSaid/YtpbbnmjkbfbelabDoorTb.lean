/- The trees of this seat's functions, printed by a program of mine (SyGen), checked here by the kernel. -/
import Derived.Test.YtpbbnmjkbfbelabDoorSyDef
import Derived.Test.YtpbbnmjkbfbelabDoorProg
import Derived.KernelRfl
set_option maxRecDepth 100000
namespace Go.Proofs.YtpbbnmjkbfbelabDoor
open Go Go.Sy
abbrev n_law30_works : FuncId := 6
def T_law30_works : Tree :=
 (.call false 13 [(.cst (.string ⟨#[112, 97, 116]⟩))] .sl []
 (.call false 13 [(.cst (.string ⟨#[112, 105]⟩))] .sl []
 (.call false 13 [(.cst (.string ⟨#[116, 97, 116]⟩))] .sl []
 (.call false 12 [(.sl 0 (.lit 0) (.var 1) (.var 2)), (.sl 3 (.lit 0) (.var 4) (.var 5)), (.sl 6 (.lit 0) (.var 7) (.var 8))] (.tup [.sl, .bool, (.int .i64)]) []
 (.call false 13 [(.cst (.string ⟨#[112, 97]⟩))] .sl []
 (.call false 13 [(.cst (.string ⟨#[97, 112, 97]⟩))] .sl []
 (.call false 13 [(.cst (.string ⟨#[116, 97]⟩))] .sl []
 (.call false 14 [(.sl 14 (.lit 0) (.var 15) (.var 16)), (.sl 17 (.lit 0) (.var 18) (.var 19)), (.sl 20 (.lit 0) (.var 21) (.var 22))] (.tup [.sl, .bool, (.int .i64)]) []
 (.call false 15 [(.cst (.string ⟨#[112, 97]⟩)), (.cst (.string ⟨#[112, 105]⟩))] (.agg [.sl, .sl]) []
 (.call false 15 [(.cst (.string ⟨#[116, 97]⟩)), (.cst (.string ⟨#[116, 97, 116]⟩))] (.agg [.sl, .sl]) []
 (.alloc
 (.call false 13 [(.cst (.string ⟨#[97, 112]⟩))] .sl [⟨[(.sl 28 (.lit 0) (.var 29) (.var 30)), (.sl 31 (.lit 0) (.var 32) (.var 33)), (.sl 34 (.lit 0) (.var 35) (.var 36)), (.sl 37 (.lit 0) (.var 38) (.var 39))], 28⟩]
 (.call false 13 [(.cst (.string ⟨#[97, 112, 116]⟩))] .sl [⟨[(.sl 28 (.lit 0) (.var 29) (.var 30)), (.sl 31 (.lit 0) (.var 32) (.var 33)), (.sl 34 (.lit 0) (.var 35) (.var 36)), (.sl 37 (.lit 0) (.var 38) (.var 39))], 28⟩]
 (.call false 8 [(.slc 0 0 2 2), (.sl 40 (.lit 0) (.var 41) (.var 42)), (.sl 43 (.lit 0) (.var 44) (.var 45))] (.tup [(.int .i64), .bool, (.int .i64)]) [⟨[(.sl 28 (.lit 0) (.var 29) (.var 30)), (.sl 31 (.lit 0) (.var 32) (.var 33)), (.sl 34 (.lit 0) (.var 35) (.var 36)), (.sl 37 (.lit 0) (.var 38) (.var 39))], 28⟩]
 (.call false 15 [(.cst (.string ⟨#[112, 97]⟩)), (.cst (.string ⟨#[112, 97, 116]⟩))] (.agg [.sl, .sl]) [⟨[(.sl 28 (.lit 0) (.var 29) (.var 30)), (.sl 31 (.lit 0) (.var 32) (.var 33)), (.sl 34 (.lit 0) (.var 35) (.var 36)), (.sl 37 (.lit 0) (.var 38) (.var 39))], 28⟩]
 (.call false 15 [(.cst (.string ⟨#[116, 97]⟩)), (.cst (.string ⟨#[116, 97, 116]⟩))] (.agg [.sl, .sl]) [⟨[(.sl 28 (.lit 0) (.var 29) (.var 30)), (.sl 31 (.lit 0) (.var 32) (.var 33)), (.sl 34 (.lit 0) (.var 35) (.var 36)), (.sl 37 (.lit 0) (.var 38) (.var 39))], 28⟩]
 (.call false 15 [(.cst (.string ⟨#[116, 105]⟩)), (.cst (.string ⟨#[105]⟩))] (.agg [.sl, .sl]) [⟨[(.sl 28 (.lit 0) (.var 29) (.var 30)), (.sl 31 (.lit 0) (.var 32) (.var 33)), (.sl 34 (.lit 0) (.var 35) (.var 36)), (.sl 37 (.lit 0) (.var 38) (.var 39))], 28⟩]
 (.alloc
 (.call false 13 [(.cst (.string ⟨#[112, 105]⟩))] .sl [⟨[(.sl 28 (.lit 0) (.var 29) (.var 30)), (.sl 31 (.lit 0) (.var 32) (.var 33)), (.sl 34 (.lit 0) (.var 35) (.var 36)), (.sl 37 (.lit 0) (.var 38) (.var 39))], 28⟩, ⟨[(.sl 49 (.lit 0) (.var 50) (.var 51)), (.sl 52 (.lit 0) (.var 53) (.var 54)), (.sl 55 (.lit 0) (.var 56) (.var 57)), (.sl 58 (.lit 0) (.var 59) (.var 60)), (.sl 61 (.lit 0) (.var 62) (.var 63)), (.sl 64 (.lit 0) (.var 65) (.var 66))], 28⟩]
 (.call false 17 [(.slc 1 0 3 3), (.sl 67 (.lit 0) (.var 68) (.var 69))] (.tup [.sl, (.int .i64), (.int .i64)]) [⟨[(.sl 28 (.lit 0) (.var 29) (.var 30)), (.sl 31 (.lit 0) (.var 32) (.var 33)), (.sl 34 (.lit 0) (.var 35) (.var 36)), (.sl 37 (.lit 0) (.var 38) (.var 39))], 28⟩, ⟨[(.sl 49 (.lit 0) (.var 50) (.var 51)), (.sl 52 (.lit 0) (.var 53) (.var 54)), (.sl 55 (.lit 0) (.var 56) (.var 57)), (.sl 58 (.lit 0) (.var 59) (.var 60)), (.sl 61 (.lit 0) (.var 62) (.var 63)), (.sl 64 (.lit 0) (.var 65) (.var 66))], 28⟩]
 (.alloc
 (.call false 18 [(.slc 2 0 2 2)] .sl [⟨[(.sl 28 (.lit 0) (.var 29) (.var 30)), (.sl 31 (.lit 0) (.var 32) (.var 33)), (.sl 34 (.lit 0) (.var 35) (.var 36)), (.sl 37 (.lit 0) (.var 38) (.var 39))], 28⟩, ⟨[(.sl 49 (.lit 0) (.var 50) (.var 51)), (.sl 52 (.lit 0) (.var 53) (.var 54)), (.sl 55 (.lit 0) (.var 56) (.var 57)), (.sl 58 (.lit 0) (.var 59) (.var 60)), (.sl 61 (.lit 0) (.var 62) (.var 63)), (.sl 64 (.lit 0) (.var 65) (.var 66))], 28⟩, ⟨[(.cst (.string ⟨#[112, 97, 116]⟩)), (.cst (.string ⟨#[112, 97, 116, 97]⟩))], 9⟩]
 (.alloc
 (.call false 18 [(.slc 3 0 2 2)] .sl [⟨[(.sl 28 (.lit 0) (.var 29) (.var 30)), (.sl 31 (.lit 0) (.var 32) (.var 33)), (.sl 34 (.lit 0) (.var 35) (.var 36)), (.sl 37 (.lit 0) (.var 38) (.var 39))], 28⟩, ⟨[(.sl 49 (.lit 0) (.var 50) (.var 51)), (.sl 52 (.lit 0) (.var 53) (.var 54)), (.sl 55 (.lit 0) (.var 56) (.var 57)), (.sl 58 (.lit 0) (.var 59) (.var 60)), (.sl 61 (.lit 0) (.var 62) (.var 63)), (.sl 64 (.lit 0) (.var 65) (.var 66))], 28⟩, ⟨[(.cst (.string ⟨#[112, 97, 116]⟩)), (.cst (.string ⟨#[112, 97, 116, 97]⟩))], 9⟩, ⟨[(.cst (.string ⟨#[116, 105, 116]⟩)), (.cst (.string ⟨#[116, 117, 116, 97]⟩))], 9⟩]
 (.alloc
 (.call false 19 [(.slc 4 0 2 2), (.int .i64 (.lit 1)), (.int .i64 (.lit 0))] (.tup [.sl, (.int .i64)]) [⟨[(.sl 28 (.lit 0) (.var 29) (.var 30)), (.sl 31 (.lit 0) (.var 32) (.var 33)), (.sl 34 (.lit 0) (.var 35) (.var 36)), (.sl 37 (.lit 0) (.var 38) (.var 39))], 28⟩, ⟨[(.sl 49 (.lit 0) (.var 50) (.var 51)), (.sl 52 (.lit 0) (.var 53) (.var 54)), (.sl 55 (.lit 0) (.var 56) (.var 57)), (.sl 58 (.lit 0) (.var 59) (.var 60)), (.sl 61 (.lit 0) (.var 62) (.var 63)), (.sl 64 (.lit 0) (.var 65) (.var 66))], 28⟩, ⟨[(.cst (.string ⟨#[112, 97, 116]⟩)), (.cst (.string ⟨#[112, 97, 116, 97]⟩))], 9⟩, ⟨[(.cst (.string ⟨#[116, 105, 116]⟩)), (.cst (.string ⟨#[116, 117, 116, 97]⟩))], 9⟩, ⟨[(.sl 75 (.lit 0) (.var 76) (.var 77)), (.sl 78 (.lit 0) (.var 79) (.var 80))], 55⟩]
 (.ite (.pick (.pick (.pick (.pick (.pick (.pick (.pick (.cmp .eql (.var 13) (.lit 0)) (.cmp .eql (.var 27) (.lit 0)) (.lit false)) (.cmp .eql (.var 48) (.lit 0)) (.lit false)) (.cmp .eql (.var 74) (.lit 0)) (.lit false)) (.cmp .eql (.var 84) (.lit 0)) (.lit false)) (.var 12) (.lit false)) (.var 26) (.lit false)) (.var 47) (.lit false))
 (.call false 13 [(.cst (.string ⟨#[116, 105]⟩))] .sl [⟨[(.sl 28 (.lit 0) (.var 29) (.var 30)), (.sl 31 (.lit 0) (.var 32) (.var 33)), (.sl 34 (.lit 0) (.var 35) (.var 36)), (.sl 37 (.lit 0) (.var 38) (.var 39))], 28⟩, ⟨[(.sl 49 (.lit 0) (.var 50) (.var 51)), (.sl 52 (.lit 0) (.var 53) (.var 54)), (.sl 55 (.lit 0) (.var 56) (.var 57)), (.sl 58 (.lit 0) (.var 59) (.var 60)), (.sl 61 (.lit 0) (.var 62) (.var 63)), (.sl 64 (.lit 0) (.var 65) (.var 66))], 28⟩, ⟨[(.cst (.string ⟨#[112, 97, 116]⟩)), (.cst (.string ⟨#[112, 97, 116, 97]⟩))], 9⟩, ⟨[(.cst (.string ⟨#[116, 105, 116]⟩)), (.cst (.string ⟨#[116, 117, 116, 97]⟩))], 9⟩, ⟨[(.sl 75 (.lit 0) (.var 76) (.var 77)), (.sl 78 (.lit 0) (.var 79) (.var 80))], 55⟩]
 (.call false 21 [(.sl 9 (.lit 0) (.var 10) (.var 11)), (.sl 85 (.lit 0) (.var 86) (.var 87))] .bool [⟨[(.sl 28 (.lit 0) (.var 29) (.var 30)), (.sl 31 (.lit 0) (.var 32) (.var 33)), (.sl 34 (.lit 0) (.var 35) (.var 36)), (.sl 37 (.lit 0) (.var 38) (.var 39))], 28⟩, ⟨[(.sl 49 (.lit 0) (.var 50) (.var 51)), (.sl 52 (.lit 0) (.var 53) (.var 54)), (.sl 55 (.lit 0) (.var 56) (.var 57)), (.sl 58 (.lit 0) (.var 59) (.var 60)), (.sl 61 (.lit 0) (.var 62) (.var 63)), (.sl 64 (.lit 0) (.var 65) (.var 66))], 28⟩, ⟨[(.cst (.string ⟨#[112, 97, 116]⟩)), (.cst (.string ⟨#[112, 97, 116, 97]⟩))], 9⟩, ⟨[(.cst (.string ⟨#[116, 105, 116]⟩)), (.cst (.string ⟨#[116, 117, 116, 97]⟩))], 9⟩, ⟨[(.sl 75 (.lit 0) (.var 76) (.var 77)), (.sl 78 (.lit 0) (.var 79) (.var 80))], 55⟩]
 (.ite (.var 88)
 (.call false 13 [(.cst (.string ⟨#[97, 116, 97]⟩))] .sl [⟨[(.sl 28 (.lit 0) (.var 29) (.var 30)), (.sl 31 (.lit 0) (.var 32) (.var 33)), (.sl 34 (.lit 0) (.var 35) (.var 36)), (.sl 37 (.lit 0) (.var 38) (.var 39))], 28⟩, ⟨[(.sl 49 (.lit 0) (.var 50) (.var 51)), (.sl 52 (.lit 0) (.var 53) (.var 54)), (.sl 55 (.lit 0) (.var 56) (.var 57)), (.sl 58 (.lit 0) (.var 59) (.var 60)), (.sl 61 (.lit 0) (.var 62) (.var 63)), (.sl 64 (.lit 0) (.var 65) (.var 66))], 28⟩, ⟨[(.cst (.string ⟨#[112, 97, 116]⟩)), (.cst (.string ⟨#[112, 97, 116, 97]⟩))], 9⟩, ⟨[(.cst (.string ⟨#[116, 105, 116]⟩)), (.cst (.string ⟨#[116, 117, 116, 97]⟩))], 9⟩, ⟨[(.sl 75 (.lit 0) (.var 76) (.var 77)), (.sl 78 (.lit 0) (.var 79) (.var 80))], 55⟩]
 (.call false 21 [(.sl 23 (.lit 0) (.var 24) (.var 25)), (.sl 89 (.lit 0) (.var 90) (.var 91))] .bool [⟨[(.sl 28 (.lit 0) (.var 29) (.var 30)), (.sl 31 (.lit 0) (.var 32) (.var 33)), (.sl 34 (.lit 0) (.var 35) (.var 36)), (.sl 37 (.lit 0) (.var 38) (.var 39))], 28⟩, ⟨[(.sl 49 (.lit 0) (.var 50) (.var 51)), (.sl 52 (.lit 0) (.var 53) (.var 54)), (.sl 55 (.lit 0) (.var 56) (.var 57)), (.sl 58 (.lit 0) (.var 59) (.var 60)), (.sl 61 (.lit 0) (.var 62) (.var 63)), (.sl 64 (.lit 0) (.var 65) (.var 66))], 28⟩, ⟨[(.cst (.string ⟨#[112, 97, 116]⟩)), (.cst (.string ⟨#[112, 97, 116, 97]⟩))], 9⟩, ⟨[(.cst (.string ⟨#[116, 105, 116]⟩)), (.cst (.string ⟨#[116, 117, 116, 97]⟩))], 9⟩, ⟨[(.sl 75 (.lit 0) (.var 76) (.var 77)), (.sl 78 (.lit 0) (.var 79) (.var 80))], 55⟩]
 (.ite (.pick (.var 92) (.cmp .eql (.var 46) (.lit 1)) (.lit false))
 (.call false 13 [(.cst (.string ⟨#[112, 105, 116]⟩))] .sl [⟨[(.sl 28 (.lit 0) (.var 29) (.var 30)), (.sl 31 (.lit 0) (.var 32) (.var 33)), (.sl 34 (.lit 0) (.var 35) (.var 36)), (.sl 37 (.lit 0) (.var 38) (.var 39))], 28⟩, ⟨[(.sl 49 (.lit 0) (.var 50) (.var 51)), (.sl 52 (.lit 0) (.var 53) (.var 54)), (.sl 55 (.lit 0) (.var 56) (.var 57)), (.sl 58 (.lit 0) (.var 59) (.var 60)), (.sl 61 (.lit 0) (.var 62) (.var 63)), (.sl 64 (.lit 0) (.var 65) (.var 66))], 28⟩, ⟨[(.cst (.string ⟨#[112, 97, 116]⟩)), (.cst (.string ⟨#[112, 97, 116, 97]⟩))], 9⟩, ⟨[(.cst (.string ⟨#[116, 105, 116]⟩)), (.cst (.string ⟨#[116, 117, 116, 97]⟩))], 9⟩, ⟨[(.sl 75 (.lit 0) (.var 76) (.var 77)), (.sl 78 (.lit 0) (.var 79) (.var 80))], 55⟩]
 (.call false 21 [(.sl 70 (.lit 0) (.var 71) (.var 72)), (.sl 93 (.lit 0) (.var 94) (.var 95))] .bool [⟨[(.sl 28 (.lit 0) (.var 29) (.var 30)), (.sl 31 (.lit 0) (.var 32) (.var 33)), (.sl 34 (.lit 0) (.var 35) (.var 36)), (.sl 37 (.lit 0) (.var 38) (.var 39))], 28⟩, ⟨[(.sl 49 (.lit 0) (.var 50) (.var 51)), (.sl 52 (.lit 0) (.var 53) (.var 54)), (.sl 55 (.lit 0) (.var 56) (.var 57)), (.sl 58 (.lit 0) (.var 59) (.var 60)), (.sl 61 (.lit 0) (.var 62) (.var 63)), (.sl 64 (.lit 0) (.var 65) (.var 66))], 28⟩, ⟨[(.cst (.string ⟨#[112, 97, 116]⟩)), (.cst (.string ⟨#[112, 97, 116, 97]⟩))], 9⟩, ⟨[(.cst (.string ⟨#[116, 105, 116]⟩)), (.cst (.string ⟨#[116, 117, 116, 97]⟩))], 9⟩, ⟨[(.sl 75 (.lit 0) (.var 76) (.var 77)), (.sl 78 (.lit 0) (.var 79) (.var 80))], 55⟩]
 (.ite (.pick (.var 96) (.cmp .eql (.var 73) (.lit 2)) (.lit false))
 (.alloc
 (.call false 18 [(.slc 5 0 2 2)] .sl [⟨[(.sl 28 (.lit 0) (.var 29) (.var 30)), (.sl 31 (.lit 0) (.var 32) (.var 33)), (.sl 34 (.lit 0) (.var 35) (.var 36)), (.sl 37 (.lit 0) (.var 38) (.var 39))], 28⟩, ⟨[(.sl 49 (.lit 0) (.var 50) (.var 51)), (.sl 52 (.lit 0) (.var 53) (.var 54)), (.sl 55 (.lit 0) (.var 56) (.var 57)), (.sl 58 (.lit 0) (.var 59) (.var 60)), (.sl 61 (.lit 0) (.var 62) (.var 63)), (.sl 64 (.lit 0) (.var 65) (.var 66))], 28⟩, ⟨[(.cst (.string ⟨#[112, 97, 116]⟩)), (.cst (.string ⟨#[112, 97, 116, 97]⟩))], 9⟩, ⟨[(.cst (.string ⟨#[116, 105, 116]⟩)), (.cst (.string ⟨#[116, 117, 116, 97]⟩))], 9⟩, ⟨[(.sl 75 (.lit 0) (.var 76) (.var 77)), (.sl 78 (.lit 0) (.var 79) (.var 80))], 55⟩, ⟨[(.cst (.string ⟨#[112, 97, 116]⟩)), (.cst (.string ⟨#[112, 97, 116, 97]⟩))], 9⟩]
 (.alloc
 (.call false 18 [(.slc 6 0 2 2)] .sl [⟨[(.sl 28 (.lit 0) (.var 29) (.var 30)), (.sl 31 (.lit 0) (.var 32) (.var 33)), (.sl 34 (.lit 0) (.var 35) (.var 36)), (.sl 37 (.lit 0) (.var 38) (.var 39))], 28⟩, ⟨[(.sl 49 (.lit 0) (.var 50) (.var 51)), (.sl 52 (.lit 0) (.var 53) (.var 54)), (.sl 55 (.lit 0) (.var 56) (.var 57)), (.sl 58 (.lit 0) (.var 59) (.var 60)), (.sl 61 (.lit 0) (.var 62) (.var 63)), (.sl 64 (.lit 0) (.var 65) (.var 66))], 28⟩, ⟨[(.cst (.string ⟨#[112, 97, 116]⟩)), (.cst (.string ⟨#[112, 97, 116, 97]⟩))], 9⟩, ⟨[(.cst (.string ⟨#[116, 105, 116]⟩)), (.cst (.string ⟨#[116, 117, 116, 97]⟩))], 9⟩, ⟨[(.sl 75 (.lit 0) (.var 76) (.var 77)), (.sl 78 (.lit 0) (.var 79) (.var 80))], 55⟩, ⟨[(.cst (.string ⟨#[112, 97, 116]⟩)), (.cst (.string ⟨#[112, 97, 116, 97]⟩))], 9⟩, ⟨[(.cst (.string ⟨#[116, 105, 116]⟩)), (.cst (.string ⟨#[116, 105, 116, 97]⟩))], 9⟩]
 (.alloc
 (.call false 22 [(.sl 81 (.lit 0) (.var 82) (.var 83)), (.slc 7 0 2 2)] .bool [⟨[(.sl 28 (.lit 0) (.var 29) (.var 30)), (.sl 31 (.lit 0) (.var 32) (.var 33)), (.sl 34 (.lit 0) (.var 35) (.var 36)), (.sl 37 (.lit 0) (.var 38) (.var 39))], 28⟩, ⟨[(.sl 49 (.lit 0) (.var 50) (.var 51)), (.sl 52 (.lit 0) (.var 53) (.var 54)), (.sl 55 (.lit 0) (.var 56) (.var 57)), (.sl 58 (.lit 0) (.var 59) (.var 60)), (.sl 61 (.lit 0) (.var 62) (.var 63)), (.sl 64 (.lit 0) (.var 65) (.var 66))], 28⟩, ⟨[(.cst (.string ⟨#[112, 97, 116]⟩)), (.cst (.string ⟨#[112, 97, 116, 97]⟩))], 9⟩, ⟨[(.cst (.string ⟨#[116, 105, 116]⟩)), (.cst (.string ⟨#[116, 117, 116, 97]⟩))], 9⟩, ⟨[(.sl 75 (.lit 0) (.var 76) (.var 77)), (.sl 78 (.lit 0) (.var 79) (.var 80))], 55⟩, ⟨[(.cst (.string ⟨#[112, 97, 116]⟩)), (.cst (.string ⟨#[112, 97, 116, 97]⟩))], 9⟩, ⟨[(.cst (.string ⟨#[116, 105, 116]⟩)), (.cst (.string ⟨#[116, 105, 116, 97]⟩))], 9⟩, ⟨[(.sl 97 (.lit 0) (.var 98) (.var 99)), (.sl 100 (.lit 0) (.var 101) (.var 102))], 55⟩]
 (.ret (.bool (.var 103)) [⟨[(.sl 28 (.lit 0) (.var 29) (.var 30)), (.sl 31 (.lit 0) (.var 32) (.var 33)), (.sl 34 (.lit 0) (.var 35) (.var 36)), (.sl 37 (.lit 0) (.var 38) (.var 39))], 28⟩, ⟨[(.sl 49 (.lit 0) (.var 50) (.var 51)), (.sl 52 (.lit 0) (.var 53) (.var 54)), (.sl 55 (.lit 0) (.var 56) (.var 57)), (.sl 58 (.lit 0) (.var 59) (.var 60)), (.sl 61 (.lit 0) (.var 62) (.var 63)), (.sl 64 (.lit 0) (.var 65) (.var 66))], 28⟩, ⟨[(.cst (.string ⟨#[112, 97, 116]⟩)), (.cst (.string ⟨#[112, 97, 116, 97]⟩))], 9⟩, ⟨[(.cst (.string ⟨#[116, 105, 116]⟩)), (.cst (.string ⟨#[116, 117, 116, 97]⟩))], 9⟩, ⟨[(.sl 75 (.lit 0) (.var 76) (.var 77)), (.sl 78 (.lit 0) (.var 79) (.var 80))], 55⟩, ⟨[(.cst (.string ⟨#[112, 97, 116]⟩)), (.cst (.string ⟨#[112, 97, 116, 97]⟩))], 9⟩, ⟨[(.cst (.string ⟨#[116, 105, 116]⟩)), (.cst (.string ⟨#[116, 105, 116, 97]⟩))], 9⟩, ⟨[(.sl 97 (.lit 0) (.var 98) (.var 99)), (.sl 100 (.lit 0) (.var 101) (.var 102))], 55⟩])))))))
 (.ret (.bool (.lit false)) [⟨[(.sl 28 (.lit 0) (.var 29) (.var 30)), (.sl 31 (.lit 0) (.var 32) (.var 33)), (.sl 34 (.lit 0) (.var 35) (.var 36)), (.sl 37 (.lit 0) (.var 38) (.var 39))], 28⟩, ⟨[(.sl 49 (.lit 0) (.var 50) (.var 51)), (.sl 52 (.lit 0) (.var 53) (.var 54)), (.sl 55 (.lit 0) (.var 56) (.var 57)), (.sl 58 (.lit 0) (.var 59) (.var 60)), (.sl 61 (.lit 0) (.var 62) (.var 63)), (.sl 64 (.lit 0) (.var 65) (.var 66))], 28⟩, ⟨[(.cst (.string ⟨#[112, 97, 116]⟩)), (.cst (.string ⟨#[112, 97, 116, 97]⟩))], 9⟩, ⟨[(.cst (.string ⟨#[116, 105, 116]⟩)), (.cst (.string ⟨#[116, 117, 116, 97]⟩))], 9⟩, ⟨[(.sl 75 (.lit 0) (.var 76) (.var 77)), (.sl 78 (.lit 0) (.var 79) (.var 80))], 55⟩]))))
 (.ret (.bool (.lit false)) [⟨[(.sl 28 (.lit 0) (.var 29) (.var 30)), (.sl 31 (.lit 0) (.var 32) (.var 33)), (.sl 34 (.lit 0) (.var 35) (.var 36)), (.sl 37 (.lit 0) (.var 38) (.var 39))], 28⟩, ⟨[(.sl 49 (.lit 0) (.var 50) (.var 51)), (.sl 52 (.lit 0) (.var 53) (.var 54)), (.sl 55 (.lit 0) (.var 56) (.var 57)), (.sl 58 (.lit 0) (.var 59) (.var 60)), (.sl 61 (.lit 0) (.var 62) (.var 63)), (.sl 64 (.lit 0) (.var 65) (.var 66))], 28⟩, ⟨[(.cst (.string ⟨#[112, 97, 116]⟩)), (.cst (.string ⟨#[112, 97, 116, 97]⟩))], 9⟩, ⟨[(.cst (.string ⟨#[116, 105, 116]⟩)), (.cst (.string ⟨#[116, 117, 116, 97]⟩))], 9⟩, ⟨[(.sl 75 (.lit 0) (.var 76) (.var 77)), (.sl 78 (.lit 0) (.var 79) (.var 80))], 55⟩]))))
 (.ret (.bool (.lit false)) [⟨[(.sl 28 (.lit 0) (.var 29) (.var 30)), (.sl 31 (.lit 0) (.var 32) (.var 33)), (.sl 34 (.lit 0) (.var 35) (.var 36)), (.sl 37 (.lit 0) (.var 38) (.var 39))], 28⟩, ⟨[(.sl 49 (.lit 0) (.var 50) (.var 51)), (.sl 52 (.lit 0) (.var 53) (.var 54)), (.sl 55 (.lit 0) (.var 56) (.var 57)), (.sl 58 (.lit 0) (.var 59) (.var 60)), (.sl 61 (.lit 0) (.var 62) (.var 63)), (.sl 64 (.lit 0) (.var 65) (.var 66))], 28⟩, ⟨[(.cst (.string ⟨#[112, 97, 116]⟩)), (.cst (.string ⟨#[112, 97, 116, 97]⟩))], 9⟩, ⟨[(.cst (.string ⟨#[116, 105, 116]⟩)), (.cst (.string ⟨#[116, 117, 116, 97]⟩))], 9⟩, ⟨[(.sl 75 (.lit 0) (.var 76) (.var 77)), (.sl 78 (.lit 0) (.var 79) (.var 80))], 55⟩]))))
 (.ret (.bool (.lit false)) [⟨[(.sl 28 (.lit 0) (.var 29) (.var 30)), (.sl 31 (.lit 0) (.var 32) (.var 33)), (.sl 34 (.lit 0) (.var 35) (.var 36)), (.sl 37 (.lit 0) (.var 38) (.var 39))], 28⟩, ⟨[(.sl 49 (.lit 0) (.var 50) (.var 51)), (.sl 52 (.lit 0) (.var 53) (.var 54)), (.sl 55 (.lit 0) (.var 56) (.var 57)), (.sl 58 (.lit 0) (.var 59) (.var 60)), (.sl 61 (.lit 0) (.var 62) (.var 63)), (.sl 64 (.lit 0) (.var 65) (.var 66))], 28⟩, ⟨[(.cst (.string ⟨#[112, 97, 116]⟩)), (.cst (.string ⟨#[112, 97, 116, 97]⟩))], 9⟩, ⟨[(.cst (.string ⟨#[116, 105, 116]⟩)), (.cst (.string ⟨#[116, 117, 116, 97]⟩))], 9⟩, ⟨[(.sl 75 (.lit 0) (.var 76) (.var 77)), (.sl 78 (.lit 0) (.var 79) (.var 80))], 55⟩]))))))))))))))))))))))))))))
theorem S_law30_works : FnIs Tryd.prog n_law30_works [] T_law30_works := ⟨Tryd.f6, [], 4000, Tryd.func6, by kernel_rfl⟩
abbrev n_analogy_Explain : FuncId := 8
def T_analogy_Explain : Tree :=
 (.alloc
 (.alloc
 (.alloc
 (.call false 24 [(.sl 0 (.lit 0) (.var 1) (.var 2)), (.slc 2 0 2 2)] (.int .i64) [⟨[(.sl 3 (.lit 0) (.var 4) (.var 5))], 23⟩, ⟨[(.sl 6 (.lit 0) (.var 7) (.var 8))], 23⟩, ⟨[(.sl 3 (.lit 0) (.var 4) (.var 5)), (.sl 6 (.lit 0) (.var 7) (.var 8))], 23⟩]
 (.ite (.cmp .neq (.var 9) (.lit 0))
 (.ret (.tup [(.int .i64 (.lit 0)), (.bool (.lit false)), (.int .i64 (.var 9))]) [⟨[(.sl 3 (.lit 0) (.var 4) (.var 5))], 23⟩, ⟨[(.sl 6 (.lit 0) (.var 7) (.var 8))], 23⟩, ⟨[(.sl 3 (.lit 0) (.var 4) (.var 5)), (.sl 6 (.lit 0) (.var 7) (.var 8))], 23⟩])
 (.call false 28 [(.sl 0 (.lit 0) (.var 1) (.var 2)), (.fn (.func 29) [] [(.loc 0 0), (.loc 1 0)])] (.int .i64) [⟨[(.sl 3 (.lit 0) (.var 4) (.var 5))], 23⟩, ⟨[(.sl 6 (.lit 0) (.var 7) (.var 8))], 23⟩, ⟨[(.sl 3 (.lit 0) (.var 4) (.var 5)), (.sl 6 (.lit 0) (.var 7) (.var 8))], 23⟩]
 (.ret (.tup [(.int .i64 (.mx (.var 10) (.lit 0))), (.bool (.cmp .geq (.var 10) (.lit 0))), (.int .i64 (.lit 0))]) [⟨[(.sl 3 (.lit 0) (.var 4) (.var 5))], 23⟩, ⟨[(.sl 6 (.lit 0) (.var 7) (.var 8))], 23⟩, ⟨[(.sl 3 (.lit 0) (.var 4) (.var 5)), (.sl 6 (.lit 0) (.var 7) (.var 8))], 23⟩])))))))
theorem S_analogy_Explain : FnIs Tryd.prog n_analogy_Explain [.sl, .sl, .sl] T_analogy_Explain := ⟨Tryd.f8, [], 4000, Tryd.func8, by kernel_rfl⟩
abbrev n_multi_Score : FuncId := 10
def T_multi_Score : Tree :=
 (.alloc
 (.alloc
 (.alloc
 (.alloc
 (.call false 30 [(.slc 3 0 2 2)] (.int .i64) [⟨[(.sl 0 (.lit 0) (.var 1) (.var 2))], 40⟩, ⟨[(.sl 3 (.lit 0) (.var 4) (.var 5))], 37⟩, ⟨[(.sl 6 (.lit 0) (.var 7) (.var 8)), (.int .i64 (.var 9))], 31⟩, ⟨[(.fn (.func 36) [] [(.loc 2 0)]), (.fn (.func 37) [] [(.loc 0 0), (.loc 1 0)])], 72⟩]
 (.ite (.cmp .neq (.var 10) (.lit 0))
 (.ret (.tup [(.int .i64 (.lit 0)), (.int .i64 (.var 10))]) [⟨[(.sl 0 (.lit 0) (.var 1) (.var 2))], 40⟩, ⟨[(.sl 3 (.lit 0) (.var 4) (.var 5))], 37⟩, ⟨[(.sl 6 (.lit 0) (.var 7) (.var 8)), (.int .i64 (.var 9))], 31⟩, ⟨[(.fn (.func 36) [] [(.loc 2 0)]), (.fn (.func 37) [] [(.loc 0 0), (.loc 1 0)])], 72⟩])
 (.call false 34 [(.sl 0 (.lit 0) (.var 1) (.var 2)), (.agg [(.sl 6 (.lit 0) (.var 7) (.var 8)), (.int .i64 (.var 9))])] .val [⟨[(.sl 0 (.lit 0) (.var 1) (.var 2))], 40⟩, ⟨[(.sl 3 (.lit 0) (.var 4) (.var 5))], 37⟩, ⟨[(.sl 6 (.lit 0) (.var 7) (.var 8)), (.int .i64 (.var 9))], 31⟩, ⟨[(.fn (.func 36) [] [(.loc 2 0)]), (.fn (.func 37) [] [(.loc 0 0), (.loc 1 0)])], 72⟩]
 (.call false 39 [(.sl 3 (.lit 0) (.var 4) (.var 5)), (.val 11)] (.int .i64) [⟨[(.sl 0 (.lit 0) (.var 1) (.var 2))], 40⟩, ⟨[(.sl 3 (.lit 0) (.var 4) (.var 5))], 37⟩, ⟨[(.sl 6 (.lit 0) (.var 7) (.var 8)), (.int .i64 (.var 9))], 31⟩, ⟨[(.fn (.func 36) [] [(.loc 2 0)]), (.fn (.func 37) [] [(.loc 0 0), (.loc 1 0)])], 72⟩]
 (.ret (.tup [(.int .i64 (.var 12)), (.int .i64 (.lit 0))]) [⟨[(.sl 0 (.lit 0) (.var 1) (.var 2))], 40⟩, ⟨[(.sl 3 (.lit 0) (.var 4) (.var 5))], 37⟩, ⟨[(.sl 6 (.lit 0) (.var 7) (.var 8)), (.int .i64 (.var 9))], 31⟩, ⟨[(.fn (.func 36) [] [(.loc 2 0)]), (.fn (.func 37) [] [(.loc 0 0), (.loc 1 0)])], 72⟩])))))))))
theorem S_multi_Score : FnIs Tryd.prog n_multi_Score [.sl, .sl, (.agg [.sl, (.int .i64)])] T_multi_Score := ⟨Tryd.f10, [], 4000, Tryd.func10, by kernel_rfl⟩
abbrev n_analogy_Solve : FuncId := 12
def T_analogy_Solve : Tree :=
 (.extp ⟨(.load 83 (.tmp 0)), 83, [(.cst (.pointer (some ⟨0, 0, none⟩)))]⟩ (.agg [.val, .val]) []
 (.call false 41 [(.agg [(.val 9), (.val 10)]), (.sl 0 (.lit 0) (.var 1) (.var 2)), (.sl 3 (.lit 0) (.var 4) (.var 5)), (.sl 6 (.lit 0) (.var 7) (.var 8))] (.tup [.sl, .bool, (.int .i64)]) []
 (.ret (.tup [(.sl 11 (.lit 0) (.var 12) (.var 13)), (.bool (.var 14)), (.int .i64 (.var 15))]) [])))
theorem S_analogy_Solve : FnIs Tryd.prog n_analogy_Solve [.sl, .sl, .sl] T_analogy_Solve := ⟨Tryd.f12, [], 4000, Tryd.func12, by kernel_rfl⟩
abbrev n_law30_spell : FuncId := 13
def T_law30_spell : Tree :=
 (.loop 0 [.sl, (.int .i64)] [(.cst (.slice none 0 0)), (.int .i64 (.lit 0))] [] []
 (.extp ⟨(.call ⟨.builtin .len, #[(.tmp 0)], #[9]⟩), 3, [(.val 0)]⟩ (.int .i64) []
 (.ite (.cmp .lss (.var 4) (.var 5))
 (.extp ⟨(.index 9 (.tmp 0) (.tmp 0)), 5, [(.val 0), (.int .i64 (.var 4))]⟩ (.int .u8) []
 (.join 1 [.sl] []
 (.ite (.cmp .eql (.var 6) (.lit 112))
 (.alloc
 (.ext false ⟨(.call ⟨.builtin .append, #[(.tmp 0), (.tmp 0)], #[23, 23]⟩), 23, [(.sl 1 (.lit 0) (.var 2) (.var 3)), (.slc 0 0 1 1)]⟩ .sl [⟨[(.int .u32 (.lit 1)), (.int .u32 (.lit 2))], 46⟩]
 (.again 1 0 [.sl] [(.sl 7 (.lit 0) (.var 8) (.var 9))] [⟨[(.int .u32 (.lit 1)), (.int .u32 (.lit 2))], 46⟩])))
 (.join 2 [.sl] []
 (.ite (.cmp .eql (.var 6) (.lit 97))
 (.alloc
 (.ext false ⟨(.call ⟨.builtin .append, #[(.tmp 0), (.tmp 0)], #[23, 23]⟩), 23, [(.sl 1 (.lit 0) (.var 2) (.var 3)), (.slc 0 0 1 1)]⟩ .sl [⟨[(.int .u32 (.lit 2)), (.int .u32 (.lit 1))], 46⟩]
 (.again 2 0 [.sl] [(.sl 7 (.lit 0) (.var 8) (.var 9))] [⟨[(.int .u32 (.lit 2)), (.int .u32 (.lit 1))], 46⟩])))
 (.join 3 [.sl] []
 (.ite (.cmp .eql (.var 6) (.lit 116))
 (.alloc
 (.ext false ⟨(.call ⟨.builtin .append, #[(.tmp 0), (.tmp 0)], #[23, 23]⟩), 23, [(.sl 1 (.lit 0) (.var 2) (.var 3)), (.slc 0 0 1 1)]⟩ .sl [⟨[(.int .u32 (.lit 4)), (.int .u32 (.lit 0))], 46⟩]
 (.again 3 0 [.sl] [(.sl 7 (.lit 0) (.var 8) (.var 9))] [⟨[(.int .u32 (.lit 4)), (.int .u32 (.lit 0))], 46⟩])))
 (.join 4 [.sl] []
 (.ite (.cmp .eql (.var 6) (.lit 105))
 (.alloc
 (.ext false ⟨(.call ⟨.builtin .append, #[(.tmp 0), (.tmp 0)], #[23, 23]⟩), 23, [(.sl 1 (.lit 0) (.var 2) (.var 3)), (.slc 0 0 1 1)]⟩ .sl [⟨[(.int .u32 (.lit 6)), (.int .u32 (.lit 1))], 46⟩]
 (.again 4 0 [.sl] [(.sl 7 (.lit 0) (.var 8) (.var 9))] [⟨[(.int .u32 (.lit 6)), (.int .u32 (.lit 1))], 46⟩])))
 (.alloc
 (.ext false ⟨(.call ⟨.builtin .append, #[(.tmp 0), (.tmp 0)], #[23, 23]⟩), 23, [(.sl 1 (.lit 0) (.var 2) (.var 3)), (.slc 0 0 1 1)]⟩ .sl [⟨[(.int .u32 (.lit 0)), (.int .u32 (.lit 4))], 46⟩]
 (.again 4 0 [.sl] [(.sl 7 (.lit 0) (.var 8) (.var 9))] [⟨[(.int .u32 (.lit 0)), (.int .u32 (.lit 4))], 46⟩]))))
 (.again 3 0 [.sl] [(.sl 7 (.lit 0) (.var 8) (.var 9))] [])))
 (.again 2 0 [.sl] [(.sl 7 (.lit 0) (.var 8) (.var 9))] [])))
 (.again 1 0 [.sl] [(.sl 7 (.lit 0) (.var 8) (.var 9))] [])))
 (.again 0 0 [.sl, (.int .i64)] [(.sl 7 (.lit 0) (.var 8) (.var 9)), (.int .i64 (.bin .add .i64 (.var 4) (.lit 1)))] [])))
 (.ret (.sl 1 (.lit 0) (.var 2) (.var 3)) []))))
theorem S_law30_spell : FnIs Tryd.prog n_law30_spell [.val] T_law30_spell := ⟨Tryd.f13, [{ key := 8, tmps := [], join := true, dead := 8726282755810 }, { key := 10, tmps := [], join := true }, { key := 12, tmps := [], join := true }, { key := 14, tmps := [], join := true }], 4000, Tryd.func13, by kernel_rfl⟩
abbrev n_analogy_Front : FuncId := 14
def T_analogy_Front : Tree :=
 (.extp ⟨(.load 83 (.tmp 0)), 83, [(.cst (.pointer (some ⟨1, 0, none⟩)))]⟩ (.agg [.val, .val]) []
 (.call false 41 [(.agg [(.val 9), (.val 10)]), (.sl 0 (.lit 0) (.var 1) (.var 2)), (.sl 3 (.lit 0) (.var 4) (.var 5)), (.sl 6 (.lit 0) (.var 7) (.var 8))] (.tup [.sl, .bool, (.int .i64)]) []
 (.ret (.tup [(.sl 11 (.lit 0) (.var 12) (.var 13)), (.bool (.var 14)), (.int .i64 (.var 15))]) [])))
theorem S_analogy_Front : FnIs Tryd.prog n_analogy_Front [.sl, .sl, .sl] T_analogy_Front := ⟨Tryd.f14, [], 4000, Tryd.func14, by kernel_rfl⟩
abbrev n_law30_pair : FuncId := 15
def T_law30_pair : Tree :=
 (.alloc
 (.call false 13 [(.val 0)] .sl [⟨[(.cst (.slice none 0 0)), (.cst (.slice none 0 0))], 28⟩]
 (.call false 13 [(.val 1)] .sl [⟨[(.cst (.slice none 0 0)), (.cst (.slice none 0 0))], 28⟩]
 (.ret (.agg [(.sl 2 (.lit 0) (.var 3) (.var 4)), (.sl 5 (.lit 0) (.var 6) (.var 7))]) [⟨[(.sl 2 (.lit 0) (.var 3) (.var 4)), (.sl 5 (.lit 0) (.var 6) (.var 7))], 28⟩]))))
theorem S_law30_pair : FnIs Tryd.prog n_law30_pair [.val, .val] T_law30_pair := ⟨Tryd.f15, [], 4000, Tryd.func15, by kernel_rfl⟩
abbrev n_analogy_Count : FuncId := 16
def T_analogy_Count : Tree :=
 (.alloc
 (.call false 24 [(.sl 0 (.lit 0) (.var 1) (.var 2)), (.slc 0 0 2 2)] (.int .i64) [⟨[(.sl 3 (.lit 0) (.var 4) (.var 5)), (.sl 6 (.lit 0) (.var 7) (.var 8))], 23⟩]
 (.ite (.cmp .neq (.var 9) (.lit 0))
 (.ret (.tup [(.int .i64 (.lit 0)), (.int .i64 (.var 9))]) [⟨[(.sl 3 (.lit 0) (.var 4) (.var 5)), (.sl 6 (.lit 0) (.var 7) (.var 8))], 23⟩])
 (.chk (.cmp .geq (.var 1) (.lit 0))
 (.loop 0 [(.int .i64), (.int .i64)] [(.int .i64 (.lit 0)), (.int .i64 (.lit 0))] [⟨[(.sl 3 (.lit 0) (.var 4) (.var 5)), (.sl 6 (.lit 0) (.var 7) (.var 8))], 23⟩] [⟨[(.sl 3 (.lit 0) (.var 4) (.var 5)), (.sl 6 (.lit 0) (.var 7) (.var 8))], 23⟩]
 (.ite (.cmp .lss (.var 11) (.var 1))
 (.chk (.pick (.cmp .geq (.var 11) (.lit 0)) (.pick (.cmp .lss (.var 11) (.var 1)) (.some 0) (.lit false)) (.lit false))
 (.load 0 (.off (.var 11) 2 (.lit 0)) [.sl, .sl] [⟨[(.sl 3 (.lit 0) (.var 4) (.var 5)), (.sl 6 (.lit 0) (.var 7) (.var 8))], 23⟩]
 (.alloc
 (.call false 27 [(.agg [(.sl 12 (.lit 0) (.var 13) (.var 14)), (.sl 15 (.lit 0) (.var 16) (.var 17))]), (.sl 3 (.lit 0) (.var 4) (.var 5)), (.sl 6 (.lit 0) (.var 7) (.var 8))] .bool [⟨[(.sl 3 (.lit 0) (.var 4) (.var 5)), (.sl 6 (.lit 0) (.var 7) (.var 8))], 23⟩, ⟨[(.sl 12 (.lit 0) (.var 13) (.var 14)), (.sl 15 (.lit 0) (.var 16) (.var 17))], 28⟩]
 (.join 1 [(.int .i64)] [⟨[(.sl 3 (.lit 0) (.var 4) (.var 5)), (.sl 6 (.lit 0) (.var 7) (.var 8))], 23⟩, ⟨[(.sl 12 (.lit 0) (.var 13) (.var 14)), (.sl 15 (.lit 0) (.var 16) (.var 17))], 28⟩]
 (.ite (.var 18)
 (.again 1 2 [(.int .i64)] [(.int .i64 (.bin .add .i64 (.var 10) (.lit 1)))] [⟨[(.sl 3 (.lit 0) (.var 4) (.var 5)), (.sl 6 (.lit 0) (.var 7) (.var 8))], 23⟩, ⟨[(.sl 12 (.lit 0) (.var 13) (.var 14)), (.sl 15 (.lit 0) (.var 16) (.var 17))], 28⟩])
 (.again 1 2 [(.int .i64)] [(.int .i64 (.var 10))] [⟨[(.sl 3 (.lit 0) (.var 4) (.var 5)), (.sl 6 (.lit 0) (.var 7) (.var 8))], 23⟩, ⟨[(.sl 12 (.lit 0) (.var 13) (.var 14)), (.sl 15 (.lit 0) (.var 16) (.var 17))], 28⟩]))
 (.again 0 1 [(.int .i64), (.int .i64)] [(.int .i64 (.var 19)), (.int .i64 (.bin .add .i64 (.var 11) (.lit 1)))] [⟨[(.sl 3 (.lit 0) (.var 4) (.var 5)), (.sl 6 (.lit 0) (.var 7) (.var 8))], 23⟩, ⟨[(.sl 12 (.lit 0) (.var 13) (.var 14)), (.sl 15 (.lit 0) (.var 16) (.var 17))], 28⟩]))))))
 (.ret (.tup [(.int .i64 (.var 10)), (.int .i64 (.lit 0))]) [⟨[(.sl 3 (.lit 0) (.var 4) (.var 5)), (.sl 6 (.lit 0) (.var 7) (.var 8))], 23⟩])))))))
theorem S_analogy_Count : FnIs Tryd.prog n_analogy_Count [.sl, .sl, .sl] T_analogy_Count := ⟨Tryd.f16, [{ key := 9, tmps := [], join := true, dead := 16627004472 }], 4000, Tryd.func16, by kernel_rfl⟩
abbrev n_analogy_Extend : FuncId := 17
def T_analogy_Extend : Tree :=
 (.alloc
 (.call false 24 [(.sl 0 (.lit 0) (.var 1) (.var 2)), (.slc 0 0 1 1)] (.int .i64) [⟨[(.sl 3 (.lit 0) (.var 4) (.var 5))], 23⟩]
 (.ite (.cmp .neq (.var 6) (.lit 0))
 (.ret (.tup [(.cst (.slice none 0 0)), (.int .i64 (.lit 0)), (.int .i64 (.var 6))]) [⟨[(.sl 3 (.lit 0) (.var 4) (.var 5))], 23⟩])
 (.ext false ⟨(.makeMap 84 none), 84, []⟩ .val [⟨[(.sl 3 (.lit 0) (.var 4) (.var 5))], 23⟩]
 (.alloc
 (.alloc
 (.chk (.cmp .geq (.var 1) (.lit 0))
 (.loop 0 [(.int .i64), .sl] [(.int .i64 (.lit 0)), (.cst (.slice none 0 0))] [⟨[(.sl 3 (.lit 0) (.var 4) (.var 5))], 23⟩, ⟨[(.val 7)], 84⟩, ⟨[(.cst (.slice none 0 0))], 40⟩] [⟨[(.sl 3 (.lit 0) (.var 4) (.var 5))], 23⟩, ⟨[(.val 7)], 84⟩, ⟨[(.sl 9 (.lit 0) (.var 10) (.var 11))], 40⟩]
 (.ite (.cmp .lss (.var 8) (.var 1))
 (.chk (.pick (.cmp .geq (.var 8) (.lit 0)) (.pick (.cmp .lss (.var 8) (.var 1)) (.some 0) (.lit false)) (.lit false))
 (.load 0 (.off (.var 8) 2 (.lit 0)) [.sl, .sl] [⟨[(.sl 3 (.lit 0) (.var 4) (.var 5))], 23⟩, ⟨[(.val 7)], 84⟩, ⟨[(.sl 9 (.lit 0) (.var 10) (.var 11))], 40⟩]
 (.alloc
 (.call false 42 [(.agg [(.sl 12 (.lit 0) (.var 13) (.var 14)), (.sl 15 (.lit 0) (.var 16) (.var 17))]), (.sl 3 (.lit 0) (.var 4) (.var 5))] .val [⟨[(.sl 3 (.lit 0) (.var 4) (.var 5))], 23⟩, ⟨[(.val 7)], 84⟩, ⟨[(.sl 9 (.lit 0) (.var 10) (.var 11))], 40⟩, ⟨[(.sl 12 (.lit 0) (.var 13) (.var 14)), (.sl 15 (.lit 0) (.var 16) (.var 17))], 28⟩]
 (.range (.val 18) [.sl] [.sl] [(.sl 9 (.lit 0) (.var 10) (.var 11))] [⟨[(.sl 3 (.lit 0) (.var 4) (.var 5))], 23⟩, ⟨[(.val 7)], 84⟩, ⟨[(.sl 9 (.lit 0) (.var 10) (.var 11))], 40⟩, ⟨[(.sl 12 (.lit 0) (.var 13) (.var 14)), (.sl 15 (.lit 0) (.var 16) (.var 17))], 28⟩] [⟨[(.sl 3 (.lit 0) (.var 4) (.var 5))], 23⟩, ⟨[(.val 7)], 84⟩, ⟨[(.sl 19 (.lit 0) (.var 20) (.var 21))], 40⟩, ⟨[(.sl 12 (.lit 0) (.var 13) (.var 14)), (.sl 15 (.lit 0) (.var 16) (.var 17))], 28⟩]
 (.join 0 [.sl] [⟨[(.sl 3 (.lit 0) (.var 4) (.var 5))], 23⟩, ⟨[(.val 7)], 84⟩, ⟨[(.sl 25 (.lit 0) (.var 26) (.var 27))], 40⟩, ⟨[(.sl 12 (.lit 0) (.var 13) (.var 14)), (.sl 15 (.lit 0) (.var 16) (.var 17))], 28⟩]
 (.chk (.cmp .geq (.var 23) (.lit 0))
 (.ite (.cmp .gtr (.var 23) (.lit 32))
 (.again 0 4 [.sl] [(.sl 19 (.lit 0) (.var 20) (.var 21))] [⟨[(.sl 3 (.lit 0) (.var 4) (.var 5))], 23⟩, ⟨[(.val 7)], 84⟩, ⟨[(.sl 19 (.lit 0) (.var 20) (.var 21))], 40⟩, ⟨[(.sl 12 (.lit 0) (.var 13) (.var 14)), (.sl 15 (.lit 0) (.var 16) (.var 17))], 28⟩])
 (.call false 43 [(.sl 22 (.lit 0) (.var 23) (.var 24))] .val [⟨[(.sl 3 (.lit 0) (.var 4) (.var 5))], 23⟩, ⟨[(.val 7)], 84⟩, ⟨[(.sl 19 (.lit 0) (.var 20) (.var 21))], 40⟩, ⟨[(.sl 12 (.lit 0) (.var 13) (.var 14)), (.sl 15 (.lit 0) (.var 16) (.var 17))], 28⟩]
 (.extp ⟨(.lookup 84 (.tmp 0) (.tmp 0) false), 3, [(.val 7), (.val 25)]⟩ (.int .i64) [⟨[(.sl 3 (.lit 0) (.var 4) (.var 5))], 23⟩, ⟨[(.val 7)], 84⟩, ⟨[(.sl 19 (.lit 0) (.var 20) (.var 21))], 40⟩, ⟨[(.sl 12 (.lit 0) (.var 13) (.var 14)), (.sl 15 (.lit 0) (.var 16) (.var 17))], 28⟩]
 (.extu false ⟨(.mapUpdate 84 (.tmp 0) (.tmp 0) (.tmp 0)), 0, [(.val 7), (.val 25), (.int .i64 (.bin .add .i64 (.var 26) (.lit 1)))]⟩ [⟨[(.sl 3 (.lit 0) (.var 4) (.var 5))], 23⟩, ⟨[(.val 7)], 84⟩, ⟨[(.sl 19 (.lit 0) (.var 20) (.var 21))], 40⟩, ⟨[(.sl 12 (.lit 0) (.var 13) (.var 14)), (.sl 15 (.lit 0) (.var 16) (.var 17))], 28⟩]
 (.alloc
 (.ext false ⟨(.call ⟨.builtin .append, #[(.tmp 0), (.tmp 0)], #[40, 40]⟩), 40, [(.sl 19 (.lit 0) (.var 20) (.var 21)), (.slc 4 0 1 1)]⟩ .sl [⟨[(.sl 3 (.lit 0) (.var 4) (.var 5))], 23⟩, ⟨[(.val 7)], 84⟩, ⟨[(.sl 19 (.lit 0) (.var 20) (.var 21))], 40⟩, ⟨[(.sl 12 (.lit 0) (.var 13) (.var 14)), (.sl 15 (.lit 0) (.var 16) (.var 17))], 28⟩, ⟨[(.sl 22 (.lit 0) (.var 23) (.var 24))], 23⟩]
 (.again 0 4 [.sl] [(.sl 27 (.lit 0) (.var 28) (.var 29))] [⟨[(.sl 3 (.lit 0) (.var 4) (.var 5))], 23⟩, ⟨[(.val 7)], 84⟩, ⟨[(.sl 27 (.lit 0) (.var 28) (.var 29))], 40⟩, ⟨[(.sl 12 (.lit 0) (.var 13) (.var 14)), (.sl 15 (.lit 0) (.var 16) (.var 17))], 28⟩, ⟨[(.sl 22 (.lit 0) (.var 23) (.var 24))], 23⟩]))))))))
 (.leave 0 4 [.sl] [(.sl 25 (.lit 0) (.var 26) (.var 27))] [⟨[(.sl 3 (.lit 0) (.var 4) (.var 5))], 23⟩, ⟨[(.val 7)], 84⟩, ⟨[(.sl 25 (.lit 0) (.var 26) (.var 27))], 40⟩, ⟨[(.sl 12 (.lit 0) (.var 13) (.var 14)), (.sl 15 (.lit 0) (.var 16) (.var 17))], 28⟩]))
 (.again 0 3 [(.int .i64), .sl] [(.int .i64 (.bin .add .i64 (.var 8) (.lit 1))), (.sl 19 (.lit 0) (.var 20) (.var 21))] [⟨[(.sl 3 (.lit 0) (.var 4) (.var 5))], 23⟩, ⟨[(.val 7)], 84⟩, ⟨[(.sl 19 (.lit 0) (.var 20) (.var 21))], 40⟩, ⟨[(.sl 12 (.lit 0) (.var 13) (.var 14)), (.sl 15 (.lit 0) (.var 16) (.var 17))], 28⟩]))))))
 (.chk (.cmp .geq (.var 10) (.lit 0))
 (.ite (.cmp .eql (.var 10) (.lit 0))
 (.ret (.tup [(.cst (.slice none 0 0)), (.int .i64 (.lit 0)), (.int .i64 (.lit 5))]) [⟨[(.sl 3 (.lit 0) (.var 4) (.var 5))], 23⟩, ⟨[(.val 7)], 84⟩, ⟨[(.sl 9 (.lit 0) (.var 10) (.var 11))], 40⟩])
 (.call false 44 [(.sl 9 (.lit 0) (.var 10) (.var 11)), (.fn (.func 45) [] [(.loc 1 0)])] .sl [⟨[(.sl 3 (.lit 0) (.var 4) (.var 5))], 23⟩, ⟨[(.val 7)], 84⟩, ⟨[(.sl 9 (.lit 0) (.var 10) (.var 11))], 40⟩]
 (.call false 43 [(.sl 12 (.lit 0) (.var 13) (.var 14))] .val [⟨[(.sl 3 (.lit 0) (.var 4) (.var 5))], 23⟩, ⟨[(.val 7)], 84⟩, ⟨[(.sl 9 (.lit 0) (.var 10) (.var 11))], 40⟩]
 (.extp ⟨(.lookup 84 (.tmp 0) (.tmp 0) false), 3, [(.val 7), (.val 15)]⟩ (.int .i64) [⟨[(.sl 3 (.lit 0) (.var 4) (.var 5))], 23⟩, ⟨[(.val 7)], 84⟩, ⟨[(.sl 9 (.lit 0) (.var 10) (.var 11))], 40⟩]
 (.ret (.tup [(.sl 12 (.lit 0) (.var 13) (.var 14)), (.int .i64 (.var 16)), (.int .i64 (.lit 0))]) [⟨[(.sl 3 (.lit 0) (.var 4) (.var 5))], 23⟩, ⟨[(.val 7)], 84⟩, ⟨[(.sl 9 (.lit 0) (.var 10) (.var 11))], 40⟩])))))))))))))))
theorem S_analogy_Extend : FnIs Tryd.prog n_analogy_Extend [.sl, .sl] T_analogy_Extend := ⟨Tryd.f17, [{ key := 100003, tmps := [], join := true, dead := 71916836085023756 }], 4000, Tryd.func17, by kernel_rfl⟩
abbrev n_law30_row : FuncId := 18
def T_law30_row : Tree :=
 (.loop 0 [.sl, (.int .i64)] [(.cst (.slice none 0 0)), (.int .i64 (.lit 0))] [] []
 (.chk (.cmp .geq (.var 1) (.lit 0))
 (.ite (.cmp .lss (.var 6) (.var 1))
 (.chk (.pick (.cmp .geq (.var 6) (.lit 0)) (.pick (.cmp .lss (.var 6) (.var 1)) (.some 0) (.lit false)) (.lit false))
 (.load 0 (.off (.var 6) 1 (.lit 0)) [.val] []
 (.extp ⟨(.binOp .eql 9 (.tmp 0) (.const (.bool true)) 9), 4, [(.val 7), (.cst (.string ⟨#[45]⟩))]⟩ .bool []
 (.join 1 [.sl] []
 (.ite (.var 8)
 (.alloc
 (.ext false ⟨(.call ⟨.builtin .append, #[(.tmp 0), (.tmp 0)], #[55, 55]⟩), 55, [(.sl 3 (.lit 0) (.var 4) (.var 5)), (.slc 0 0 1 1)]⟩ .sl [⟨[(.bool (.lit false)), (.cst (.slice none 0 0))], 62⟩]
 (.again 1 0 [.sl] [(.sl 9 (.lit 0) (.var 10) (.var 11))] [⟨[(.bool (.lit false)), (.cst (.slice none 0 0))], 62⟩])))
 (.chk (.pick (.cmp .geq (.var 6) (.lit 0)) (.pick (.cmp .lss (.var 6) (.var 1)) (.some 0) (.lit false)) (.lit false))
 (.load 0 (.off (.var 6) 1 (.lit 0)) [.val] []
 (.call false 13 [(.val 9)] .sl []
 (.alloc
 (.ext false ⟨(.call ⟨.builtin .append, #[(.tmp 0), (.tmp 0)], #[55, 55]⟩), 55, [(.sl 3 (.lit 0) (.var 4) (.var 5)), (.slc 0 0 1 1)]⟩ .sl [⟨[(.bool (.lit true)), (.sl 10 (.lit 0) (.var 11) (.var 12))], 62⟩]
 (.again 1 0 [.sl] [(.sl 13 (.lit 0) (.var 14) (.var 15))] [⟨[(.bool (.lit true)), (.sl 10 (.lit 0) (.var 11) (.var 12))], 62⟩])))))))
 (.again 0 0 [.sl, (.int .i64)] [(.sl 9 (.lit 0) (.var 10) (.var 11)), (.int .i64 (.bin .add .i64 (.var 6) (.lit 1)))] [])))))
 (.ret (.sl 3 (.lit 0) (.var 4) (.var 5)) []))))
theorem S_law30_row : FnIs Tryd.prog n_law30_row [.sl] T_law30_row := ⟨Tryd.f18, [{ key := 6, tmps := [], join := true, dead := 1073708770 }], 4000, Tryd.func18, by kernel_rfl⟩
abbrev n_analogy_check : FuncId := 24
def T_analogy_check : Tree :=
 (.chk (.cmp .geq (.var 1) (.lit 0))
 (.ite (.cmp .gtr (.var 1) (.lit 256))
 (.ret (.int .i64 (.lit 12)) [])
 (.chk (.cmp .geq (.var 1) (.lit 0))
 (.loop 0 [(.int .i64), (.int .i64)] [(.int .i64 (.lit 0)), (.int .i64 (.lit 0))] [] []
 (.ite (.cmp .lss (.var 7) (.var 1))
 (.chk (.pick (.cmp .geq (.var 7) (.lit 0)) (.pick (.cmp .lss (.var 7) (.var 1)) (.some 0) (.lit false)) (.lit false))
 (.load 0 (.off (.var 7) 2 (.lit 0)) [.sl, .sl] []
 (.alloc
 (.alloc
 (.call false 24 [(.cst (.slice none 0 0)), (.slc 1 0 2 2)] (.int .i64) [⟨[(.sl 8 (.lit 0) (.var 9) (.var 10)), (.sl 11 (.lit 0) (.var 12) (.var 13))], 28⟩, ⟨[(.sl 8 (.lit 0) (.var 9) (.var 10)), (.sl 11 (.lit 0) (.var 12) (.var 13))], 23⟩]
 (.ite (.cmp .neq (.var 14) (.lit 0))
 (.ret (.int .i64 (.var 14)) [⟨[(.sl 8 (.lit 0) (.var 9) (.var 10)), (.sl 11 (.lit 0) (.var 12) (.var 13))], 28⟩, ⟨[(.sl 8 (.lit 0) (.var 9) (.var 10)), (.sl 11 (.lit 0) (.var 12) (.var 13))], 23⟩])
 (.again 0 0 [(.int .i64), (.int .i64)] [(.int .i64 (.var 6)), (.int .i64 (.bin .add .i64 (.var 7) (.lit 1)))] [⟨[(.sl 8 (.lit 0) (.var 9) (.var 10)), (.sl 11 (.lit 0) (.var 12) (.var 13))], 28⟩, ⟨[(.sl 8 (.lit 0) (.var 9) (.var 10)), (.sl 11 (.lit 0) (.var 12) (.var 13))], 23⟩])))))))
 (.chk (.cmp .geq (.var 4) (.lit 0))
 (.loop 0 [(.int .i64), (.int .i64)] [(.int .i64 (.var 6)), (.int .i64 (.lit 0))] [] []
 (.ite (.cmp .lss (.var 9) (.var 4))
 (.chk (.pick (.cmp .geq (.var 9) (.lit 0)) (.pick (.cmp .lss (.var 9) (.var 4)) (.some 3) (.lit false)) (.lit false))
 (.load 3 (.off (.var 9) 1 (.lit 0)) [.sl] []
 (.call false 20 [(.sl 10 (.lit 0) (.var 11) (.var 12))] (.int .i64) []
 (.ite (.cmp .neq (.var 13) (.lit 0))
 (.ret (.int .i64 (.var 13)) [])
 (.again 0 0 [(.int .i64), (.int .i64)] [(.int .i64 (.var 8)), (.int .i64 (.bin .add .i64 (.var 9) (.lit 1)))] [])))))
 (.ret (.int .i64 (.lit 0)) [])))))))))
theorem S_analogy_check : FnIs Tryd.prog n_analogy_check [.sl, .sl] T_analogy_check := ⟨Tryd.f24, [], 4000, Tryd.func24, by kernel_rfl⟩
abbrev n_analogy_supports : FuncId := 27
def T_analogy_supports : Tree :=
 (.alloc
 (.alloc
 (.alloc
 (.call false 42 [(.agg [(.sl 0 (.lit 0) (.var 1) (.var 2)), (.sl 3 (.lit 0) (.var 4) (.var 5))]), (.sl 6 (.lit 0) (.var 7) (.var 8))] .val [⟨[(.sl 0 (.lit 0) (.var 1) (.var 2)), (.sl 3 (.lit 0) (.var 4) (.var 5))], 28⟩, ⟨[(.sl 9 (.lit 0) (.var 10) (.var 11))], 23⟩, ⟨[(.bool (.lit false))], 4⟩]
 (.range (.val 12) [.sl] [.bool] [(.bool (.lit false))] [⟨[(.sl 0 (.lit 0) (.var 1) (.var 2)), (.sl 3 (.lit 0) (.var 4) (.var 5))], 28⟩, ⟨[(.sl 9 (.lit 0) (.var 10) (.var 11))], 23⟩, ⟨[(.bool (.lit false))], 4⟩] [⟨[(.sl 0 (.lit 0) (.var 1) (.var 2)), (.sl 3 (.lit 0) (.var 4) (.var 5))], 28⟩, ⟨[(.sl 9 (.lit 0) (.var 10) (.var 11))], 23⟩, ⟨[(.bool (.var 13))], 4⟩]
 (.call false 11 [(.sl 14 (.lit 0) (.var 15) (.var 16)), (.sl 9 (.lit 0) (.var 10) (.var 11))] .bool [⟨[(.sl 0 (.lit 0) (.var 1) (.var 2)), (.sl 3 (.lit 0) (.var 4) (.var 5))], 28⟩, ⟨[(.sl 9 (.lit 0) (.var 10) (.var 11))], 23⟩, ⟨[(.bool (.var 13))], 4⟩]
 (.ite (.var 17)
 (.leave 1 3 [.bool] [(.bool (.lit true))] [⟨[(.sl 0 (.lit 0) (.var 1) (.var 2)), (.sl 3 (.lit 0) (.var 4) (.var 5))], 28⟩, ⟨[(.sl 9 (.lit 0) (.var 10) (.var 11))], 23⟩, ⟨[(.bool (.lit true))], 4⟩])
 (.leave 0 3 [.bool] [(.bool (.var 13))] [⟨[(.sl 0 (.lit 0) (.var 1) (.var 2)), (.sl 3 (.lit 0) (.var 4) (.var 5))], 28⟩, ⟨[(.sl 9 (.lit 0) (.var 10) (.var 11))], 23⟩, ⟨[(.bool (.var 13))], 4⟩])))
 (.ite (.cmp .eql (.var 14) (.lit 1))
 (.ret (.bool (.var 13)) [⟨[(.sl 0 (.lit 0) (.var 1) (.var 2)), (.sl 3 (.lit 0) (.var 4) (.var 5))], 28⟩, ⟨[(.sl 9 (.lit 0) (.var 10) (.var 11))], 23⟩, ⟨[(.bool (.var 13))], 4⟩])
 (.ret (.bool (.lit false)) [⟨[(.sl 0 (.lit 0) (.var 1) (.var 2)), (.sl 3 (.lit 0) (.var 4) (.var 5))], 28⟩, ⟨[(.sl 9 (.lit 0) (.var 10) (.var 11))], 23⟩, ⟨[(.bool (.lit false))], 4⟩])))))))
theorem S_analogy_supports : FnIs Tryd.prog n_analogy_supports [(.agg [.sl, .sl]), .sl, .sl] T_analogy_supports := ⟨Tryd.f27, [], 4000, Tryd.func27, by kernel_rfl⟩
abbrev n_slices_IndexFunc___api_Pair_api_Pair_ : FuncId := 28
def T_slices_IndexFunc___api_Pair_api_Pair_ : Tree :=
 (.chk (.cmp .geq (.var 1) (.lit 0))
 (.loop 0 [(.int .i64), (.int .i64)] [(.int .i64 (.lit 0)), (.int .i64 (.lit 0))] [] []
 (.ite (.cmp .lss (.var 5) (.var 1))
 (.chk (.pick (.cmp .geq (.var 5) (.lit 0)) (.pick (.cmp .lss (.var 5) (.var 1)) (.some 0) (.lit false)) (.lit false))
 (.load 0 (.off (.var 5) 2 (.lit 0)) [.sl, .sl] []
 (.callv false (.val 3) [(.agg [(.sl 6 (.lit 0) (.var 7) (.var 8)), (.sl 9 (.lit 0) (.var 10) (.var 11))])] .bool []
 (.ite (.var 12)
 (.ret (.int .i64 (.var 5)) [])
 (.again 0 0 [(.int .i64), (.int .i64)] [(.int .i64 (.var 4)), (.int .i64 (.bin .add .i64 (.var 5) (.lit 1)))] [])))))
 (.ret (.int .i64 (.lit (-1))) []))))
theorem S_slices_IndexFunc___api_Pair_api_Pair_ : FnIs Tryd.prog n_slices_IndexFunc___api_Pair_api_Pair_ [.sl, .val] T_slices_IndexFunc___api_Pair_api_Pair_ := ⟨Tryd.f28, [], 4000, Tryd.func28, by kernel_rfl⟩
abbrev n_analogy_Explain_1 : FuncId := 29
def T_analogy_Explain_1 : Tree :=
 (.alloc
 (.load 6 (.lit 0) [.sl] [⟨[(.sl 0 (.lit 0) (.var 1) (.var 2)), (.sl 3 (.lit 0) (.var 4) (.var 5))], 28⟩]
 (.load 7 (.lit 0) [.sl] [⟨[(.sl 0 (.lit 0) (.var 1) (.var 2)), (.sl 3 (.lit 0) (.var 4) (.var 5))], 28⟩]
 (.call false 27 [(.agg [(.sl 0 (.lit 0) (.var 1) (.var 2)), (.sl 3 (.lit 0) (.var 4) (.var 5))]), (.sl 8 (.lit 0) (.var 9) (.var 10)), (.sl 11 (.lit 0) (.var 12) (.var 13))] .bool [⟨[(.sl 0 (.lit 0) (.var 1) (.var 2)), (.sl 3 (.lit 0) (.var 4) (.var 5))], 28⟩]
 (.ret (.bool (.var 14)) [⟨[(.sl 0 (.lit 0) (.var 1) (.var 2)), (.sl 3 (.lit 0) (.var 4) (.var 5))], 28⟩])))))
theorem S_analogy_Explain_1 : FnIs Tryd.prog n_analogy_Explain_1 [(.agg [.sl, .sl]), .ptr, .ptr] T_analogy_Explain_1 := ⟨Tryd.f29, [], 4000, Tryd.func29, by kernel_rfl⟩
abbrev n_multi_first : FuncId := 30
def T_multi_first : Tree :=
 (.chk (.cmp .geq (.var 1) (.lit 0))
 (.loop 0 [(.int .i64), (.int .i64)] [(.int .i64 (.lit 0)), (.int .i64 (.lit 0))] [] []
 (.ite (.cmp .lss (.var 4) (.var 1))
 (.chk (.pick (.cmp .geq (.var 4) (.lit 0)) (.pick (.cmp .lss (.var 4) (.var 1)) (.some 0) (.lit false)) (.lit false))
 (.load 0 (.off (.var 4) 1 (.lit 0)) [.val] []
 (.callv false (.val 5) [] (.int .i64) []
 (.ite (.cmp .neq (.var 6) (.lit 0))
 (.ret (.int .i64 (.var 6)) [])
 (.again 0 0 [(.int .i64), (.int .i64)] [(.int .i64 (.var 3)), (.int .i64 (.bin .add .i64 (.var 4) (.lit 1)))] [])))))
 (.ret (.int .i64 (.lit 0)) []))))
theorem S_multi_first : FnIs Tryd.prog n_multi_first [.sl] T_multi_first := ⟨Tryd.f30, [], 4000, Tryd.func30, by kernel_rfl⟩
abbrev n_multi_words : FuncId := 33
def T_multi_words : Tree :=
 (.chk (.cmp .geq (.var 2) (.lit 0))
 (.ite (.cmp .gtr (.var 2) (.var 0))
 (.ret (.int .i64 (.lit 12)) [])
 (.chk (.cmp .geq (.var 2) (.lit 0))
 (.loop 0 [(.int .i64), (.int .i64)] [(.int .i64 (.lit 0)), (.int .i64 (.lit 0))] [] []
 (.ite (.cmp .lss (.var 5) (.var 2))
 (.chk (.pick (.cmp .geq (.var 5) (.lit 0)) (.pick (.cmp .lss (.var 5) (.var 2)) (.some 1) (.lit false)) (.lit false))
 (.load 1 (.off (.var 5) 1 (.lit 0)) [.sl] []
 (.call false 20 [(.sl 6 (.lit 0) (.var 7) (.var 8))] (.int .i64) []
 (.ite (.cmp .neq (.var 9) (.lit 0))
 (.ret (.int .i64 (.var 9)) [])
 (.again 0 0 [(.int .i64), (.int .i64)] [(.int .i64 (.var 4)), (.int .i64 (.bin .add .i64 (.var 5) (.lit 1)))] [])))))
 (.ret (.int .i64 (.lit 0)) []))))))
theorem S_multi_words : FnIs Tryd.prog n_multi_words [(.int .i64), .sl] T_multi_words := ⟨Tryd.f33, [], 4000, Tryd.func33, by kernel_rfl⟩
abbrev n_multi_pricer : FuncId := 34
def T_multi_pricer : Tree :=
 (.alloc
 (.alloc
 (.ret (.fn (.func 53) [] [(.loc 1 0), (.loc 0 0)]) [⟨[(.sl 0 (.lit 0) (.var 1) (.var 2))], 40⟩, ⟨[(.sl 3 (.lit 0) (.var 4) (.var 5)), (.int .i64 (.var 6))], 31⟩])))
theorem S_multi_pricer : FnIs Tryd.prog n_multi_pricer [.sl, (.agg [.sl, (.int .i64)])] T_multi_pricer := ⟨Tryd.f34, [], 4000, Tryd.func34, by kernel_rfl⟩
abbrev n_multi_Score_1 : FuncId := 36
def T_multi_Score_1 : Tree :=
 (.load 0 (.lit 0) [.sl, (.int .i64)] []
 (.call false 23 [(.agg [(.sl 1 (.lit 0) (.var 2) (.var 3)), (.int .i64 (.var 4))])] (.int .i64) []
 (.ret (.int .i64 (.var 5)) [])))
theorem S_multi_Score_1 : FnIs Tryd.prog n_multi_Score_1 [.ptr] T_multi_Score_1 := ⟨Tryd.f36, [], 4000, Tryd.func36, by kernel_rfl⟩
abbrev n_multi_Score_2 : FuncId := 37
def T_multi_Score_2 : Tree :=
 (.load 0 (.lit 0) [.sl] []
 (.load 1 (.lit 0) [.sl] []
 (.call false 38 [(.sl 2 (.lit 0) (.var 3) (.var 4)), (.sl 5 (.lit 0) (.var 6) (.var 7))] (.int .i64) []
 (.ret (.int .i64 (.var 8)) []))))
theorem S_multi_Score_2 : FnIs Tryd.prog n_multi_Score_2 [.ptr, .ptr] T_multi_Score_2 := ⟨Tryd.f37, [], 4000, Tryd.func37, by kernel_rfl⟩
abbrev n_multi_Check : FuncId := 38
def T_multi_Check : Tree :=
 (.call false 33 [(.int .i64 (.lit 8)), (.sl 0 (.lit 0) (.var 1) (.var 2))] (.int .i64) []
 (.ite (.cmp .neq (.var 6) (.lit 0))
 (.ret (.int .i64 (.var 6)) [])
 (.call false 56 [(.sl 0 (.lit 0) (.var 1) (.var 2)), (.sl 3 (.lit 0) (.var 4) (.var 5))] .bool []
 (.ite (.not (.var 7))
 (.ret (.int .i64 (.lit 8)) [])
 (.ret (.int .i64 (.lit 0)) [])))))
theorem S_multi_Check : FnIs Tryd.prog n_multi_Check [.sl, .sl] T_multi_Check := ⟨Tryd.f38, [], 4000, Tryd.func38, by kernel_rfl⟩
abbrev n_multi_total : FuncId := 39
def T_multi_total : Tree :=
 (.chk (.cmp .geq (.var 1) (.lit 0))
 (.loop 0 [(.int .i64), (.int .i64)] [(.int .i64 (.lit 0)), (.int .i64 (.lit 0))] [] []
 (.ite (.cmp .lss (.var 5) (.var 1))
 (.chk (.pick (.cmp .geq (.var 5) (.lit 0)) (.pick (.cmp .lss (.var 5) (.var 1)) (.some 0) (.lit false)) (.lit false))
 (.load 0 (.off (.var 5) 1 (.lit 0)) [.sl] []
 (.callv false (.val 3) [(.sl 6 (.lit 0) (.var 7) (.var 8))] (.int .i64) []
 (.again 0 0 [(.int .i64), (.int .i64)] [(.int .i64 (.bin .add .i64 (.var 4) (.var 9))), (.int .i64 (.bin .add .i64 (.var 5) (.lit 1)))] []))))
 (.ret (.int .i64 (.var 4)) []))))
theorem S_multi_total : FnIs Tryd.prog n_multi_total [.sl, .val] T_multi_total := ⟨Tryd.f39, [], 4000, Tryd.func39, by kernel_rfl⟩
abbrev n_analogy_one : FuncId := 41
def T_analogy_one : Tree :=
 (.alloc
 (.alloc
 (.call false 24 [(.cst (.slice none 0 0)), (.slc 1 0 3 3)] (.int .i64) [⟨[(.val 0), (.val 1)], 83⟩, ⟨[(.sl 2 (.lit 0) (.var 3) (.var 4)), (.sl 5 (.lit 0) (.var 6) (.var 7)), (.sl 8 (.lit 0) (.var 9) (.var 10))], 23⟩]
 (.ite (.cmp .neq (.var 11) (.lit 0))
 (.ret (.tup [(.cst (.slice none 0 0)), (.bool (.lit false)), (.int .i64 (.var 11))]) [⟨[(.val 0), (.val 1)], 83⟩, ⟨[(.sl 2 (.lit 0) (.var 3) (.var 4)), (.sl 5 (.lit 0) (.var 6) (.var 7)), (.sl 8 (.lit 0) (.var 9) (.var 10))], 23⟩])
 (.call false 57 [(.agg [(.val 0), (.val 1)]), (.sl 2 (.lit 0) (.var 3) (.var 4)), (.sl 5 (.lit 0) (.var 6) (.var 7)), (.sl 8 (.lit 0) (.var 9) (.var 10))] (.tup [.sl, .bool]) [⟨[(.val 0), (.val 1)], 83⟩, ⟨[(.sl 2 (.lit 0) (.var 3) (.var 4)), (.sl 5 (.lit 0) (.var 6) (.var 7)), (.sl 8 (.lit 0) (.var 9) (.var 10))], 23⟩]
 (.chk (.cmp .geq (.var 13) (.lit 0))
 (.ite (.cmp .gtr (.var 13) (.lit 32))
 (.ret (.tup [(.cst (.slice none 0 0)), (.bool (.lit false)), (.int .i64 (.lit 11))]) [⟨[(.val 0), (.val 1)], 83⟩, ⟨[(.sl 2 (.lit 0) (.var 3) (.var 4)), (.sl 5 (.lit 0) (.var 6) (.var 7)), (.sl 8 (.lit 0) (.var 9) (.var 10))], 23⟩])
 (.ret (.tup [(.sl 12 (.lit 0) (.var 13) (.var 14)), (.bool (.var 15)), (.int .i64 (.lit 0))]) [⟨[(.val 0), (.val 1)], 83⟩, ⟨[(.sl 2 (.lit 0) (.var 3) (.var 4)), (.sl 5 (.lit 0) (.var 6) (.var 7)), (.sl 8 (.lit 0) (.var 9) (.var 10))], 23⟩]))))))))
theorem S_analogy_one : FnIs Tryd.prog n_analogy_one [(.agg [.val, .val]), .sl, .sl, .sl] T_analogy_one := ⟨Tryd.f41, [], 4000, Tryd.func41, by kernel_rfl⟩
abbrev n_analogy_results : FuncId := 42
def T_analogy_results : Tree :=
 (.alloc
 (.alloc
 (.ret (.fn (.func 58) [] [(.loc 0 0), (.loc 1 0)]) [⟨[(.sl 0 (.lit 0) (.var 1) (.var 2)), (.sl 3 (.lit 0) (.var 4) (.var 5))], 28⟩, ⟨[(.sl 6 (.lit 0) (.var 7) (.var 8))], 23⟩])))
theorem S_analogy_results : FnIs Tryd.prog n_analogy_results [(.agg [.sl, .sl]), .sl] T_analogy_results := ⟨Tryd.f42, [], 4000, Tryd.func42, by kernel_rfl⟩
abbrev n_analogy_key : FuncId := 43
def T_analogy_key : Tree :=
 (.chk (.cmp .geq (.var 1) (.lit 0))
 (.loop 0 [.sl, (.int .i64)] [(.cst (.slice none 0 0)), (.int .i64 (.lit 0))] [] []
 (.ite (.cmp .lss (.var 6) (.var 1))
 (.chk (.pick (.cmp .geq (.var 6) (.lit 0)) (.pick (.cmp .lss (.var 6) (.var 1)) (.some 0) (.lit false)) (.lit false))
 (.load 0 (.off (.var 6) 2 (.lit 0)) [(.int .u32), (.int .u32)] []
 (.alloc
 (.loop 1 [.sl, (.int .i64)] [(.sl 3 (.lit 0) (.var 4) (.var 5)), (.int .i64 (.lit 0))] [⟨[(.int .u32 (.var 7)), (.int .u32 (.var 8))], 46⟩] [⟨[(.int .u32 (.var 7)), (.int .u32 (.var 8))], 46⟩]
 (.ite (.cmp .lss (.var 12) (.lit 2))
 (.chk (.cmp .leq (.lit 0) (.var 12))
 (.chk (.cmp .lss (.var 12) (.lit 2))
 (.ite (.cmp .eql (.var 12) (.lit 0))
 (.alloc
 (.ext false ⟨(.call ⟨.builtin .append, #[(.tmp 0), (.tmp 0)], #[113, 113]⟩), 113, [(.sl 9 (.lit 0) (.var 10) (.var 11)), (.slc 1 0 3 3)]⟩ .sl [⟨[(.int .u32 (.var 7)), (.int .u32 (.var 8))], 46⟩, ⟨[(.int .u8 (.conv .u8 (.var 7))), (.int .u8 (.conv .u8 (.bin .shr .u32 (.var 7) (.lit 8)))), (.int .u8 (.conv .u8 (.bin .shr .u32 (.var 7) (.lit 16))))], 5⟩]
 (.again 1 1 [.sl, (.int .i64)] [(.sl 13 (.lit 0) (.var 14) (.var 15)), (.int .i64 (.bin .add .i64 (.var 12) (.lit 1)))] [⟨[(.int .u32 (.var 7)), (.int .u32 (.var 8))], 46⟩, ⟨[(.int .u8 (.conv .u8 (.var 7))), (.int .u8 (.conv .u8 (.bin .shr .u32 (.var 7) (.lit 8)))), (.int .u8 (.conv .u8 (.bin .shr .u32 (.var 7) (.lit 16))))], 5⟩])))
 (.ite (.cmp .eql (.var 12) (.lit 1))
 (.alloc
 (.ext false ⟨(.call ⟨.builtin .append, #[(.tmp 0), (.tmp 0)], #[113, 113]⟩), 113, [(.sl 9 (.lit 0) (.var 10) (.var 11)), (.slc 1 0 3 3)]⟩ .sl [⟨[(.int .u32 (.var 7)), (.int .u32 (.var 8))], 46⟩, ⟨[(.int .u8 (.conv .u8 (.var 8))), (.int .u8 (.conv .u8 (.bin .shr .u32 (.var 8) (.lit 8)))), (.int .u8 (.conv .u8 (.bin .shr .u32 (.var 8) (.lit 16))))], 5⟩]
 (.again 1 1 [.sl, (.int .i64)] [(.sl 13 (.lit 0) (.var 14) (.var 15)), (.int .i64 (.bin .add .i64 (.var 12) (.lit 1)))] [⟨[(.int .u32 (.var 7)), (.int .u32 (.var 8))], 46⟩, ⟨[(.int .u8 (.conv .u8 (.var 8))), (.int .u8 (.conv .u8 (.bin .shr .u32 (.var 8) (.lit 8)))), (.int .u8 (.conv .u8 (.bin .shr .u32 (.var 8) (.lit 16))))], 5⟩])))
 (.bad "cases")))))
 (.again 0 0 [.sl, (.int .i64)] [(.sl 9 (.lit 0) (.var 10) (.var 11)), (.int .i64 (.bin .add .i64 (.var 6) (.lit 1)))] [⟨[(.int .u32 (.var 7)), (.int .u32 (.var 8))], 46⟩]))))))
 (.extp ⟨(.convert 113 9 (.tmp 0)), 9, [(.sl 3 (.lit 0) (.var 4) (.var 5))]⟩ .val []
 (.ret (.val 7) [])))))
theorem S_analogy_key : FnIs Tryd.prog n_analogy_key [.sl] T_analogy_key := ⟨Tryd.f43, [], 4000, Tryd.func43, by kernel_rfl⟩
abbrev n_slices_MinFunc_____api_Sound___api_Sound_ : FuncId := 44
def T_slices_MinFunc_____api_Sound___api_Sound_ : Tree :=
 (.chk (.cmp .geq (.var 1) (.lit 0))
 (.join 0 [] []
 (.ite (.cmp .lss (.var 1) (.lit 1))
 (.bad "ext sort.go:81")
 (.again 0 0 [] [] []))
 (.chk (.pick (.cmp .lss (.lit 0) (.var 1)) (.some 0) (.lit false))
 (.load 0 (.lit 0) [.sl] []
 (.loop 0 [.sl, (.int .i64)] [(.sl 4 (.lit 0) (.var 5) (.var 6)), (.int .i64 (.lit 1))] [] []
 (.chk (.cmp .geq (.var 1) (.lit 0))
 (.ite (.cmp .lss (.var 10) (.var 1))
 (.chk (.pick (.cmp .geq (.var 10) (.lit 0)) (.pick (.cmp .lss (.var 10) (.var 1)) (.some 0) (.lit false)) (.lit false))
 (.load 0 (.off (.var 10) 1 (.lit 0)) [.sl] []
 (.callv false (.val 3) [(.sl 11 (.lit 0) (.var 12) (.var 13)), (.sl 7 (.lit 0) (.var 8) (.var 9))] (.int .i64) []
 (.join 1 [.sl] []
 (.ite (.cmp .lss (.var 14) (.lit 0))
 (.chk (.pick (.cmp .geq (.var 10) (.lit 0)) (.pick (.cmp .lss (.var 10) (.var 1)) (.some 0) (.lit false)) (.lit false))
 (.load 0 (.off (.var 10) 1 (.lit 0)) [.sl] []
 (.again 1 0 [.sl] [(.sl 15 (.lit 0) (.var 16) (.var 17))] [])))
 (.again 1 0 [.sl] [(.sl 7 (.lit 0) (.var 8) (.var 9))] []))
 (.again 0 0 [.sl, (.int .i64)] [(.sl 15 (.lit 0) (.var 16) (.var 17)), (.int .i64 (.bin .add .i64 (.var 10) (.lit 1)))] [])))))
 (.ret (.sl 7 (.lit 0) (.var 8) (.var 9)) []))))))))
theorem S_slices_MinFunc_____api_Sound___api_Sound_ : FnIs Tryd.prog n_slices_MinFunc_____api_Sound___api_Sound_ [.sl, .val] T_slices_MinFunc_____api_Sound___api_Sound_ := ⟨Tryd.f44, [{ key := 2, tmps := [], join := true, dead := 8455585164 }, { key := 8, tmps := [], join := true }], 4000, Tryd.func44, by kernel_rfl⟩
abbrev n_analogy_Extend_1 : FuncId := 45
def T_analogy_Extend_1 : Tree :=
 (.load 6 (.lit 0) [.val] []
 (.load 6 (.lit 0) [.val] []
 (.call true 43 [(.sl 3 (.lit 0) (.var 4) (.var 5))] .val []
 (.extp ⟨(.lookup 84 (.tmp 0) (.tmp 0) false), 3, [(.val 7), (.val 9)]⟩ (.int .i64) []
 (.call true 43 [(.sl 0 (.lit 0) (.var 1) (.var 2))] .val []
 (.extp ⟨(.lookup 84 (.tmp 0) (.tmp 0) false), 3, [(.val 8), (.val 11)]⟩ (.int .i64) []
 (.ite (.cmp .neq (.bin .sub .i64 (.var 10) (.var 12)) (.lit 0))
 (.ret (.int .i64 (.bin .sub .i64 (.var 10) (.var 12))) [])
 (.call false 46 [(.sl 0 (.lit 0) (.var 1) (.var 2)), (.sl 3 (.lit 0) (.var 4) (.var 5))] (.int .i64) []
 (.ret (.int .i64 (.var 13)) [])))))))))
theorem S_analogy_Extend_1 : FnIs Tryd.prog n_analogy_Extend_1 [.sl, .sl, .ptr] T_analogy_Extend_1 := ⟨Tryd.f45, [], 4000, Tryd.func45, by kernel_rfl⟩
abbrev n_multi_pricer_1 : FuncId := 53
def T_multi_pricer_1 : Tree :=
 (.chk (.cmp .geq (.var 1) (.lit 0))
 (.loop 0 [(.int .i64), (.int .i64)] [(.int .i64 (.lit 0)), (.int .i64 (.lit 0))] [] []
 (.ite (.cmp .lss (.var 6) (.var 1))
 (.chk (.pick (.cmp .geq (.var 6) (.lit 0)) (.pick (.cmp .lss (.var 6) (.var 1)) (.some 0) (.lit false)) (.lit false))
 (.load 0 (.off (.var 6) 1 (.lit 0)) [(.int .i64)] []
 (.chk (.pick (.cmp .leq (.lit 0) (.var 6)) (.cmp .leq (.var 6) (.var 2)) (.lit false))
 (.chk (.cmp .geq (.var 6) (.lit 0))
 (.loop 1 [(.int .i64), (.int .i64)] [(.int .i64 (.var 5)), (.int .i64 (.lit 0))] [] []
 (.ite (.cmp .lss (.var 9) (.var 6))
 (.chk (.pick (.cmp .geq (.ifeq (.var 2) (.lit 0) (.lit 0) (.lit 0)) (.lit 0)) (.pick (.cmp .geq (.var 9) (.lit 0)) (.pick (.cmp .lss (.var 9) (.var 6)) (.some 0) (.lit false)) (.lit false)) (.lit false))
 (.load 0 (.off (.var 9) 1 (.ifeq (.var 2) (.lit 0) (.lit 0) (.lit 0))) [(.int .i64)] []
 (.ite (.pick (.cmp .eql (.var 7) (.lit (-1))) (.cmp .eql (.var 10) (.lit (-1))) (.lit false))
 (.again 1 0 [(.int .i64), (.int .i64)] [(.int .i64 (.var 8)), (.int .i64 (.bin .add .i64 (.var 9) (.lit 1)))] [])
 (.ite (.pick (.cmp .eql (.var 7) (.lit (-1))) (.lit true) (.cmp .eql (.var 10) (.lit (-1))))
 (.chk (.some 3)
 (.load 3 (.lit 1) [(.int .i64)] []
 (.again 1 0 [(.int .i64), (.int .i64)] [(.int .i64 (.bin .add .i64 (.var 8) (.var 11))), (.int .i64 (.bin .add .i64 (.var 9) (.lit 1)))] [])))
 (.load 4 (.lit 0) [.sl] []
 (.chk (.pick (.cmp .geq (.var 6) (.lit 0)) (.pick (.cmp .lss (.var 6) (.var 12)) (.some 11) (.lit false)) (.lit false))
 (.load 11 (.off (.var 6) 1 (.lit 0)) [.sl] []
 (.chk (.pick (.cmp .geq (.var 7) (.lit 0)) (.pick (.cmp .lss (.var 7) (.var 15)) (.some 14) (.lit false)) (.lit false))
 (.load 14 (.off (.var 7) 2 (.lit 0)) [(.int .u32), (.int .u32)] []
 (.load 4 (.lit 0) [.sl] []
 (.chk (.pick (.cmp .geq (.var 9) (.lit 0)) (.pick (.cmp .lss (.var 9) (.var 20)) (.some 19) (.lit false)) (.lit false))
 (.load 19 (.off (.var 9) 1 (.lit 0)) [.sl] []
 (.chk (.pick (.cmp .geq (.var 10) (.lit 0)) (.pick (.cmp .lss (.var 10) (.var 23)) (.some 22) (.lit false)) (.lit false))
 (.load 22 (.off (.var 10) 2 (.lit 0)) [(.int .u32), (.int .u32)] []
 (.load 3 (.lit 0) [.sl, (.int .i64)] []
 (.call false 54 [(.agg [(.int .u32 (.var 17)), (.int .u32 (.var 18))]), (.agg [(.int .u32 (.var 25)), (.int .u32 (.var 26))]), (.agg [(.sl 27 (.lit 0) (.var 28) (.var 29)), (.int .i64 (.var 30))])] (.tup [(.int .i64), (.int .i64)]) []
 (.again 1 0 [(.int .i64), (.int .i64)] [(.int .i64 (.bin .add .i64 (.var 8) (.var 31))), (.int .i64 (.bin .add .i64 (.var 9) (.lit 1)))] [])))))))))))))))))
 (.again 0 0 [(.int .i64), (.int .i64)] [(.int .i64 (.var 8)), (.int .i64 (.bin .add .i64 (.var 6) (.lit 1)))] [])))))))
 (.ret (.int .i64 (.var 5)) []))))
theorem S_multi_pricer_1 : FnIs Tryd.prog n_multi_pricer_1 [.sl, .ptr, .ptr] T_multi_pricer_1 := ⟨Tryd.f53, [], 4000, Tryd.func53, by kernel_rfl⟩
abbrev n_multi_aligned : FuncId := 56
def T_multi_aligned : Tree :=
 (.chk (.cmp .geq (.var 1) (.lit 0))
 (.ext false ⟨(.makeSlice 93 (.tmp 0) (.tmp 0)), 93, [(.int .i64 (.var 1)), (.int .i64 (.var 1))]⟩ .sl []
 (.chk (.cmp .geq (.var 4) (.lit 0))
 (.loop 0 [.bool, (.int .i64)] [(.bool (.lit false)), (.int .i64 (.lit 0))] [] []
 (.ite (.cmp .lss (.var 10) (.var 4))
 (.chk (.pick (.cmp .geq (.var 10) (.lit 0)) (.pick (.cmp .lss (.var 10) (.var 4)) (.some 3) (.lit false)) (.lit false))
 (.load 3 (.off (.var 10) 1 (.lit 0)) [.sl] []
 (.chk (.cmp .geq (.var 12) (.lit 0))
 (.chk (.cmp .geq (.var 1) (.lit 0))
 (.ite (.cmp .neq (.var 12) (.var 1))
 (.ret (.bool (.lit false)) [])
 (.chk (.cmp .geq (.var 12) (.lit 0))
 (.loop 1 [.bool, .bool, (.int .i64)] [(.bool (.var 9)), (.bool (.lit true)), (.int .i64 (.lit 0))] [] []
 (.ite (.cmp .lss (.var 16) (.var 12))
 (.chk (.pick (.cmp .geq (.var 16) (.lit 0)) (.pick (.cmp .lss (.var 16) (.var 12)) (.some 11) (.lit false)) (.lit false))
 (.load 11 (.off (.var 16) 1 (.lit 0)) [(.int .i64)] []
 (.ite (.cmp .eql (.var 17) (.lit (-1)))
 (.again 1 0 [.bool, .bool, (.int .i64)] [(.bool (.var 14)), (.bool (.var 15)), (.int .i64 (.bin .add .i64 (.var 16) (.lit 1)))] [])
 (.chk (.pick (.cmp .geq (.var 16) (.lit 0)) (.pick (.cmp .lss (.var 16) (.var 7)) (.some 6) (.lit false)) (.lit false))
 (.load 6 (.off (.var 16) 1 (.lit 0)) [(.int .i64)] []
 (.ite (.cmp .eql (.var 17) (.var 18))
 (.chk (.pick (.cmp .geq (.var 16) (.lit 0)) (.pick (.cmp .lss (.var 16) (.var 7)) (.some 6) (.lit false)) (.lit false))
 (.load 6 (.off (.var 16) 1 (.lit 0)) [(.int .i64)] []
 (.chk (.pick (.cmp .geq (.var 16) (.lit 0)) (.pick (.cmp .lss (.var 16) (.var 7)) (.some 6) (.lit false)) (.lit false))
 (.store false 6 (.off (.var 16) 1 (.lit 0)) [(.int .i64 (.bin .add .i64 (.var 19) (.lit 1)))] []
 (.again 1 0 [.bool, .bool, (.int .i64)] [(.bool (.var 14)), (.bool (.lit false)), (.int .i64 (.bin .add .i64 (.var 16) (.lit 1)))] [])))))
 (.ret (.bool (.lit false)) [])))))))
 (.ite (.var 15)
 (.ret (.bool (.lit false)) [])
 (.again 0 0 [.bool, (.int .i64)] [(.bool (.var 14)), (.int .i64 (.bin .add .i64 (.var 10) (.lit 1)))] []))))))))))
 (.call false 67 [(.sl 0 (.lit 0) (.var 1) (.var 2)), (.sl 6 (.lit 0) (.var 7) (.var 8)), (.cst (.func (.func 68) #[] #[]))] .bool []
 (.ret (.bool (.var 11)) [])))))))
theorem S_multi_aligned : FnIs Tryd.prog n_multi_aligned [.sl, .sl] T_multi_aligned := ⟨Tryd.f56, [], 4000, Tryd.func56, by kernel_rfl⟩
abbrev n__analogy_change__solve : FuncId := 57
def T__analogy_change__solve : Tree :=
 (.alloc
 (.callv false (.val 0) [(.sl 2 (.lit 0) (.var 3) (.var 4)), (.sl 5 (.lit 0) (.var 6) (.var 7))] (.tup [.sl, .sl]) [⟨[(.val 0), (.val 1)], 83⟩]
 (.callv false (.val 1) [(.sl 11 (.lit 0) (.var 12) (.var 13)), (.sl 14 (.lit 0) (.var 15) (.var 16)), (.sl 8 (.lit 0) (.var 9) (.var 10))] (.tup [.sl, .bool]) [⟨[(.val 0), (.val 1)], 83⟩]
 (.ret (.tup [(.sl 17 (.lit 0) (.var 18) (.var 19)), (.bool (.var 20))]) [⟨[(.val 0), (.val 1)], 83⟩]))))
theorem S__analogy_change__solve : FnIs Tryd.prog n__analogy_change__solve [(.agg [.val, .val]), .sl, .sl, .sl] T__analogy_change__solve := ⟨Tryd.f57, [], 4000, Tryd.func57, by kernel_rfl⟩
abbrev n_analogy_results_1 : FuncId := 58
def T_analogy_results_1 : Tree :=
 (.extp ⟨(.load 83 (.tmp 0)), 83, [(.cst (.pointer (some ⟨0, 0, none⟩)))]⟩ (.agg [.val, .val]) []
 (.chk (.some 1)
 (.load 1 (.lit 0) [.sl] []
 (.chk (.some 1)
 (.load 1 (.lit 1) [.sl] []
 (.load 2 (.lit 0) [.sl] []
 (.call false 57 [(.agg [(.val 3), (.val 4)]), (.sl 5 (.lit 0) (.var 6) (.var 7)), (.sl 8 (.lit 0) (.var 9) (.var 10)), (.sl 11 (.lit 0) (.var 12) (.var 13))] (.tup [.sl, .bool]) []
 (.ite (.var 17)
 (.callv false (.val 0) [(.sl 14 (.lit 0) (.var 15) (.var 16))] .bool []
 (.ite (.not (.var 18))
 (.ret (.tup []) [])
 (.extp ⟨(.load 83 (.tmp 0)), 83, [(.cst (.pointer (some ⟨1, 0, none⟩)))]⟩ (.agg [.val, .val]) []
 (.chk (.some 1)
 (.load 1 (.lit 0) [.sl] []
 (.chk (.some 1)
 (.load 1 (.lit 1) [.sl] []
 (.load 2 (.lit 0) [.sl] []
 (.call false 57 [(.agg [(.val 19), (.val 20)]), (.sl 21 (.lit 0) (.var 22) (.var 23)), (.sl 24 (.lit 0) (.var 25) (.var 26)), (.sl 27 (.lit 0) (.var 28) (.var 29))] (.tup [.sl, .bool]) []
 (.ite (.var 33)
 (.call false 11 [(.sl 14 (.lit 0) (.var 15) (.var 16)), (.sl 30 (.lit 0) (.var 31) (.var 32))] .bool []
 (.ite (.not (.var 34))
 (.callv false (.val 0) [(.sl 30 (.lit 0) (.var 31) (.var 32))] .bool []
 (.ret (.tup []) []))
 (.ret (.tup []) [])))
 (.ret (.tup []) [])))))))))))
 (.extp ⟨(.load 83 (.tmp 0)), 83, [(.cst (.pointer (some ⟨1, 0, none⟩)))]⟩ (.agg [.val, .val]) []
 (.chk (.some 1)
 (.load 1 (.lit 0) [.sl] []
 (.chk (.some 1)
 (.load 1 (.lit 1) [.sl] []
 (.load 2 (.lit 0) [.sl] []
 (.call false 57 [(.agg [(.val 18), (.val 19)]), (.sl 20 (.lit 0) (.var 21) (.var 22)), (.sl 23 (.lit 0) (.var 24) (.var 25)), (.sl 26 (.lit 0) (.var 27) (.var 28))] (.tup [.sl, .bool]) []
 (.ite (.pick (.var 32) (.lit true) (.lit false))
 (.callv false (.val 0) [(.sl 29 (.lit 0) (.var 30) (.var 31))] .bool []
 (.ret (.tup []) []))
 (.ret (.tup []) [])))))))))))))))))
theorem S_analogy_results_1 : FnIs Tryd.prog n_analogy_results_1 [.val, .ptr, .ptr] T_analogy_results_1 := ⟨Tryd.f58, [], 4000, Tryd.func58, by kernel_rfl⟩
abbrev n_slices_EqualFunc_____api_Sound___int___api_Sound_int_ : FuncId := 67
def T_slices_EqualFunc_____api_Sound___int___api_Sound_int_ : Tree :=
 (.chk (.cmp .geq (.var 1) (.lit 0))
 (.chk (.cmp .geq (.var 4) (.lit 0))
 (.ite (.cmp .neq (.var 1) (.var 4))
 (.ret (.bool (.lit false)) [])
 (.chk (.cmp .geq (.var 1) (.lit 0))
 (.loop 0 [.bool, (.int .i64)] [(.bool (.lit false)), (.int .i64 (.lit 0))] [] []
 (.ite (.cmp .lss (.var 8) (.var 1))
 (.chk (.pick (.cmp .geq (.var 8) (.lit 0)) (.pick (.cmp .lss (.var 8) (.var 1)) (.some 0) (.lit false)) (.lit false))
 (.load 0 (.off (.var 8) 1 (.lit 0)) [.sl] []
 (.chk (.pick (.cmp .geq (.var 8) (.lit 0)) (.pick (.cmp .lss (.var 8) (.var 4)) (.some 3) (.lit false)) (.lit false))
 (.load 3 (.off (.var 8) 1 (.lit 0)) [(.int .i64)] []
 (.callv false (.val 6) [(.sl 9 (.lit 0) (.var 10) (.var 11)), (.int .i64 (.var 12))] .bool []
 (.ite (.not (.var 13))
 (.ret (.bool (.lit false)) [])
 (.again 0 0 [.bool, (.int .i64)] [(.bool (.var 7)), (.int .i64 (.bin .add .i64 (.var 8) (.lit 1)))] [])))))))
 (.ret (.bool (.lit true)) [])))))))
theorem S_slices_EqualFunc_____api_Sound___int___api_Sound_int_ : FnIs Tryd.prog n_slices_EqualFunc_____api_Sound___int___api_Sound_int_ [.sl, .sl, .val] T_slices_EqualFunc_____api_Sound___int___api_Sound_int_ := ⟨Tryd.f67, [], 4000, Tryd.func67, by kernel_rfl⟩
abbrev n_multi_aligned_1 : FuncId := 68
def T_multi_aligned_1 : Tree :=
 (.chk (.cmp .geq (.var 1) (.lit 0))
 (.ret (.bool (.cmp .eql (.var 1) (.var 3))) []))
theorem S_multi_aligned_1 : FnIs Tryd.prog n_multi_aligned_1 [.sl, (.int .i64)] T_multi_aligned_1 := ⟨Tryd.f68, [], 4000, Tryd.func68, by kernel_rfl⟩
abbrev n_analogy_ending_1 : FuncId := 96
def T_analogy_ending_1 : Tree :=
 (.call false 97 [(.sl 0 (.lit 0) (.var 1) (.var 2)), (.sl 3 (.lit 0) (.var 4) (.var 5))] (.tup [(.int .i64), (.int .i64)]) []
 (.chk (.pick (.cmp .leq (.lit 0) (.var 6)) (.pick (.cmp .leq (.var 6) (.var 1)) (.cmp .leq (.var 1) (.var 2)) (.lit false)) (.lit false))
 (.chk (.pick (.cmp .leq (.lit 0) (.var 6)) (.pick (.cmp .leq (.var 6) (.var 4)) (.cmp .leq (.var 4) (.var 5)) (.lit false)) (.lit false))
 (.ret (.tup [(.sl 0 (.ifeq (.var 2) (.var 6) (.lit 0) (.off (.var 6) 2 (.lit 0))) (.dif (.var 1) (.var 6)) (.dif (.var 2) (.var 6))), (.sl 3 (.ifeq (.var 5) (.var 6) (.lit 0) (.off (.var 6) 2 (.lit 0))) (.dif (.var 4) (.var 6)) (.dif (.var 5) (.var 6)))]) []))))
theorem S_analogy_ending_1 : FnIs Tryd.prog n_analogy_ending_1 [.sl, .sl] T_analogy_ending_1 := ⟨Tryd.f96, [], 4000, Tryd.func96, by kernel_rfl⟩
abbrev n_analogy_ending_2 : FuncId := 98
def T_analogy_ending_2 : Tree :=
 (.chk (.cmp .geq (.var 7) (.lit 0))
 (.chk (.cmp .geq (.var 1) (.lit 0))
 (.ite (.cmp .lss (.bin .sub .i64 (.var 7) (.var 1)) (.lit 0))
 (.ret (.tup [(.cst (.slice none 0 0)), (.bool (.lit false))]) [])
 (.chk (.pick (.cmp .leq (.lit 0) (.bin .sub .i64 (.var 7) (.var 1))) (.pick (.cmp .leq (.bin .sub .i64 (.var 7) (.var 1)) (.var 7)) (.cmp .leq (.var 7) (.var 8)) (.lit false)) (.lit false))
 (.call false 11 [(.sl 6 (.ifeq (.var 8) (.bin .sub .i64 (.var 7) (.var 1)) (.lit 0) (.off (.bin .sub .i64 (.var 7) (.var 1)) 2 (.lit 0))) (.dif (.var 7) (.bin .sub .i64 (.var 7) (.var 1))) (.dif (.var 8) (.bin .sub .i64 (.var 7) (.var 1)))), (.sl 0 (.lit 0) (.var 1) (.var 2))] .bool []
 (.ite (.not (.var 9))
 (.ret (.tup [(.cst (.slice none 0 0)), (.bool (.lit false))]) [])
 (.chk (.pick (.cmp .leq (.lit 0) (.bin .sub .i64 (.var 7) (.var 1))) (.cmp .leq (.bin .sub .i64 (.var 7) (.var 1)) (.var 8)) (.lit false))
 (.alloc
 (.call false 51 [(.slc 0 0 2 2)] .sl [⟨[(.sl 6 (.ifeq (.var 8) (.lit 0) (.lit 0) (.lit 0)) (.bin .sub .i64 (.var 7) (.var 1)) (.var 8)), (.sl 3 (.lit 0) (.var 4) (.var 5))], 23⟩]
 (.ret (.tup [(.sl 10 (.lit 0) (.var 11) (.var 12)), (.bool (.lit true))]) [⟨[(.sl 6 (.ifeq (.var 8) (.lit 0) (.lit 0) (.lit 0)) (.bin .sub .i64 (.var 7) (.var 1)) (.var 8)), (.sl 3 (.lit 0) (.var 4) (.var 5))], 23⟩]))))))))))
theorem S_analogy_ending_2 : FnIs Tryd.prog n_analogy_ending_2 [.sl, .sl, .sl] T_analogy_ending_2 := ⟨Tryd.f98, [], 4000, Tryd.func98, by kernel_rfl⟩
abbrev n_analogy_beginning_1 : FuncId := 99
def T_analogy_beginning_1 : Tree :=
 (.chk (.cmp .geq (.var 1) (.lit 0))
 (.chk (.cmp .geq (.var 4) (.lit 0))
 (.loop 0 [(.int .i64), (.int .i64)] [(.int .i64 (.var 1)), (.int .i64 (.var 4))] [] []
 (.ite (.pick (.cmp .gtr (.var 6) (.lit 0)) (.cmp .gtr (.var 7) (.lit 0)) (.lit false))
 (.chk (.pick (.cmp .geq (.bin .sub .i64 (.var 6) (.lit 1)) (.lit 0)) (.pick (.cmp .lss (.bin .sub .i64 (.var 6) (.lit 1)) (.var 1)) (.some 0) (.lit false)) (.lit false))
 (.load 0 (.off (.bin .sub .i64 (.var 6) (.lit 1)) 2 (.lit 0)) [(.int .u32), (.int .u32)] []
 (.chk (.pick (.cmp .geq (.bin .sub .i64 (.var 7) (.lit 1)) (.lit 0)) (.pick (.cmp .lss (.bin .sub .i64 (.var 7) (.lit 1)) (.var 4)) (.some 3) (.lit false)) (.lit false))
 (.load 3 (.off (.bin .sub .i64 (.var 7) (.lit 1)) 2 (.lit 0)) [(.int .u32), (.int .u32)] []
 (.ite (.pick (.cmp .eql (.var 8) (.var 10)) (.cmp .eql (.var 9) (.var 11)) (.lit false))
 (.again 0 0 [(.int .i64), (.int .i64)] [(.int .i64 (.bin .sub .i64 (.var 6) (.lit 1))), (.int .i64 (.bin .sub .i64 (.var 7) (.lit 1)))] [])
 (.chk (.pick (.cmp .leq (.lit 0) (.var 6)) (.cmp .leq (.var 6) (.var 2)) (.lit false))
 (.chk (.pick (.cmp .leq (.lit 0) (.var 7)) (.cmp .leq (.var 7) (.var 5)) (.lit false))
 (.ret (.tup [(.sl 0 (.ifeq (.var 2) (.lit 0) (.lit 0) (.lit 0)) (.var 6) (.var 2)), (.sl 3 (.ifeq (.var 5) (.lit 0) (.lit 0) (.lit 0)) (.var 7) (.var 5))]) []))))))))
 (.chk (.pick (.cmp .leq (.lit 0) (.var 6)) (.cmp .leq (.var 6) (.var 2)) (.lit false))
 (.chk (.pick (.cmp .leq (.lit 0) (.var 7)) (.cmp .leq (.var 7) (.var 5)) (.lit false))
 (.ret (.tup [(.sl 0 (.ifeq (.var 2) (.lit 0) (.lit 0) (.lit 0)) (.var 6) (.var 2)), (.sl 3 (.ifeq (.var 5) (.lit 0) (.lit 0) (.lit 0)) (.var 7) (.var 5))]) [])))))))
theorem S_analogy_beginning_1 : FnIs Tryd.prog n_analogy_beginning_1 [.sl, .sl] T_analogy_beginning_1 := ⟨Tryd.f99, [], 4000, Tryd.func99, by kernel_rfl⟩
abbrev n_analogy_beginning_2 : FuncId := 100
def T_analogy_beginning_2 : Tree :=
 (.chk (.cmp .geq (.var 7) (.lit 0))
 (.chk (.cmp .geq (.var 1) (.lit 0))
 (.ite (.cmp .lss (.var 7) (.var 1))
 (.ret (.tup [(.cst (.slice none 0 0)), (.bool (.lit false))]) [])
 (.chk (.cmp .geq (.var 1) (.lit 0))
 (.chk (.pick (.cmp .leq (.lit 0) (.var 1)) (.cmp .leq (.var 1) (.var 8)) (.lit false))
 (.call false 11 [(.sl 6 (.ifeq (.var 8) (.lit 0) (.lit 0) (.lit 0)) (.var 1) (.var 8)), (.sl 0 (.lit 0) (.var 1) (.var 2))] .bool []
 (.ite (.not (.var 9))
 (.ret (.tup [(.cst (.slice none 0 0)), (.bool (.lit false))]) [])
 (.chk (.cmp .geq (.var 1) (.lit 0))
 (.chk (.pick (.cmp .leq (.lit 0) (.var 1)) (.pick (.cmp .leq (.var 1) (.var 7)) (.cmp .leq (.var 7) (.var 8)) (.lit false)) (.lit false))
 (.alloc
 (.call false 51 [(.slc 0 0 2 2)] .sl [⟨[(.sl 3 (.lit 0) (.var 4) (.var 5)), (.sl 6 (.ifeq (.var 8) (.var 1) (.lit 0) (.off (.var 1) 2 (.lit 0))) (.dif (.var 7) (.var 1)) (.dif (.var 8) (.var 1)))], 23⟩]
 (.ret (.tup [(.sl 10 (.lit 0) (.var 11) (.var 12)), (.bool (.lit true))]) [⟨[(.sl 3 (.lit 0) (.var 4) (.var 5)), (.sl 6 (.ifeq (.var 8) (.var 1) (.lit 0) (.off (.var 1) 2 (.lit 0))) (.dif (.var 7) (.var 1)) (.dif (.var 8) (.var 1)))], 23⟩]))))))))))))
theorem S_analogy_beginning_2 : FnIs Tryd.prog n_analogy_beginning_2 [.sl, .sl, .sl] T_analogy_beginning_2 := ⟨Tryd.f100, [], 4000, Tryd.func100, by kernel_rfl⟩
abbrev n_slices_Clone___int_int_ : FuncId := 103
def T_slices_Clone___int_int_ : Tree :=
 (.extp ⟨(.binOp .eql 93 (.tmp 0) (.const (.bool true)) 93), 4, [(.sl 0 (.lit 0) (.var 1) (.var 2)), (.cst (.slice none 0 0))]⟩ .bool []
 (.ite (.var 3)
 (.ret (.cst (.slice none 0 0)) [])
 (.alloc
 (.ext false ⟨(.call ⟨.builtin .append, #[(.tmp 0), (.tmp 0)], #[93, 93]⟩), 93, [(.slc 0 0 0 0), (.sl 0 (.lit 0) (.var 1) (.var 2))]⟩ .sl [⟨[], 3⟩]
 (.ret (.sl 4 (.lit 0) (.var 5) (.var 6)) [⟨[], 3⟩])))))
theorem S_slices_Clone___int_int_ : FnIs Tryd.prog n_slices_Clone___int_int_ [.sl] T_slices_Clone___int_int_ := ⟨Tryd.f103, [], 4000, Tryd.func103, by kernel_rfl⟩
end Go.Proofs.YtpbbnmjkbfbelabDoor
