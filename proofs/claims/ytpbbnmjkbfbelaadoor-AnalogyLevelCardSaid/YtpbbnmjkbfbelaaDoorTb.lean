/- The trees of this seat's functions, printed by a program of mine (SyGen), checked here by the kernel. -/
import Derived.Test.YtpbbnmjkbfbelaaDoorSyDef
import Derived.Test.YtpbbnmjkbfbelaaDoorProg
import Derived.KernelRfl
set_option maxRecDepth 100000
namespace Go.Proofs.YtpbbnmjkbfbelaaDoor
open Go Go.Sy
/-! 14 ablaut/ablautlaw30.works  -/
abbrev n_law30_works : FuncId := 14
def T_law30_works : Tree :=
 (.call false 40 [(.cst (.string ⟨#[112, 97, 116]⟩))] .sl []
 (.call false 40 [(.cst (.string ⟨#[112, 105]⟩))] .sl []
 (.call false 40 [(.cst (.string ⟨#[116, 97, 116]⟩))] .sl []
 (.call false 16 [(.sl 0 (.lit 0) (.var 1) (.var 2)), (.sl 3 (.lit 0) (.var 4) (.var 5)), (.sl 6 (.lit 0) (.var 7) (.var 8))] (.tup [.sl, .bool, (.int .i64)]) []
 (.call false 40 [(.cst (.string ⟨#[112, 97]⟩))] .sl []
 (.call false 40 [(.cst (.string ⟨#[97, 112, 97]⟩))] .sl []
 (.call false 40 [(.cst (.string ⟨#[116, 97]⟩))] .sl []
 (.call false 18 [(.sl 14 (.lit 0) (.var 15) (.var 16)), (.sl 17 (.lit 0) (.var 18) (.var 19)), (.sl 20 (.lit 0) (.var 21) (.var 22))] (.tup [.sl, .bool, (.int .i64)]) []
 (.call false 41 [(.cst (.string ⟨#[112, 97]⟩)), (.cst (.string ⟨#[112, 105]⟩))] (.agg [.sl, .sl]) []
 (.call false 41 [(.cst (.string ⟨#[116, 97]⟩)), (.cst (.string ⟨#[116, 97, 116]⟩))] (.agg [.sl, .sl]) []
 (.alloc
 (.call false 40 [(.cst (.string ⟨#[97, 112]⟩))] .sl [⟨[(.sl 28 (.lit 0) (.var 29) (.var 30)), (.sl 31 (.lit 0) (.var 32) (.var 33)), (.sl 34 (.lit 0) (.var 35) (.var 36)), (.sl 37 (.lit 0) (.var 38) (.var 39))], 69⟩]
 (.call false 40 [(.cst (.string ⟨#[97, 112, 116]⟩))] .sl [⟨[(.sl 28 (.lit 0) (.var 29) (.var 30)), (.sl 31 (.lit 0) (.var 32) (.var 33)), (.sl 34 (.lit 0) (.var 35) (.var 36)), (.sl 37 (.lit 0) (.var 38) (.var 39))], 69⟩]
 (.call false 34 [(.slc 0 0 2 2), (.sl 40 (.lit 0) (.var 41) (.var 42)), (.sl 43 (.lit 0) (.var 44) (.var 45))] (.tup [(.int .i64), .bool, (.int .i64)]) [⟨[(.sl 28 (.lit 0) (.var 29) (.var 30)), (.sl 31 (.lit 0) (.var 32) (.var 33)), (.sl 34 (.lit 0) (.var 35) (.var 36)), (.sl 37 (.lit 0) (.var 38) (.var 39))], 69⟩]
 (.call false 41 [(.cst (.string ⟨#[112, 97]⟩)), (.cst (.string ⟨#[112, 97, 116]⟩))] (.agg [.sl, .sl]) [⟨[(.sl 28 (.lit 0) (.var 29) (.var 30)), (.sl 31 (.lit 0) (.var 32) (.var 33)), (.sl 34 (.lit 0) (.var 35) (.var 36)), (.sl 37 (.lit 0) (.var 38) (.var 39))], 69⟩]
 (.call false 41 [(.cst (.string ⟨#[116, 97]⟩)), (.cst (.string ⟨#[116, 97, 116]⟩))] (.agg [.sl, .sl]) [⟨[(.sl 28 (.lit 0) (.var 29) (.var 30)), (.sl 31 (.lit 0) (.var 32) (.var 33)), (.sl 34 (.lit 0) (.var 35) (.var 36)), (.sl 37 (.lit 0) (.var 38) (.var 39))], 69⟩]
 (.call false 41 [(.cst (.string ⟨#[116, 105]⟩)), (.cst (.string ⟨#[105]⟩))] (.agg [.sl, .sl]) [⟨[(.sl 28 (.lit 0) (.var 29) (.var 30)), (.sl 31 (.lit 0) (.var 32) (.var 33)), (.sl 34 (.lit 0) (.var 35) (.var 36)), (.sl 37 (.lit 0) (.var 38) (.var 39))], 69⟩]
 (.alloc
 (.call false 40 [(.cst (.string ⟨#[112, 105]⟩))] .sl [⟨[(.sl 28 (.lit 0) (.var 29) (.var 30)), (.sl 31 (.lit 0) (.var 32) (.var 33)), (.sl 34 (.lit 0) (.var 35) (.var 36)), (.sl 37 (.lit 0) (.var 38) (.var 39))], 69⟩, ⟨[(.sl 49 (.lit 0) (.var 50) (.var 51)), (.sl 52 (.lit 0) (.var 53) (.var 54)), (.sl 55 (.lit 0) (.var 56) (.var 57)), (.sl 58 (.lit 0) (.var 59) (.var 60)), (.sl 61 (.lit 0) (.var 62) (.var 63)), (.sl 64 (.lit 0) (.var 65) (.var 66))], 69⟩]
 (.call false 22 [(.slc 1 0 3 3), (.sl 67 (.lit 0) (.var 68) (.var 69))] (.tup [.sl, (.int .i64), (.int .i64)]) [⟨[(.sl 28 (.lit 0) (.var 29) (.var 30)), (.sl 31 (.lit 0) (.var 32) (.var 33)), (.sl 34 (.lit 0) (.var 35) (.var 36)), (.sl 37 (.lit 0) (.var 38) (.var 39))], 69⟩, ⟨[(.sl 49 (.lit 0) (.var 50) (.var 51)), (.sl 52 (.lit 0) (.var 53) (.var 54)), (.sl 55 (.lit 0) (.var 56) (.var 57)), (.sl 58 (.lit 0) (.var 59) (.var 60)), (.sl 61 (.lit 0) (.var 62) (.var 63)), (.sl 64 (.lit 0) (.var 65) (.var 66))], 69⟩]
 (.alloc
 (.call false 42 [(.slc 2 0 2 2)] .sl [⟨[(.sl 28 (.lit 0) (.var 29) (.var 30)), (.sl 31 (.lit 0) (.var 32) (.var 33)), (.sl 34 (.lit 0) (.var 35) (.var 36)), (.sl 37 (.lit 0) (.var 38) (.var 39))], 69⟩, ⟨[(.sl 49 (.lit 0) (.var 50) (.var 51)), (.sl 52 (.lit 0) (.var 53) (.var 54)), (.sl 55 (.lit 0) (.var 56) (.var 57)), (.sl 58 (.lit 0) (.var 59) (.var 60)), (.sl 61 (.lit 0) (.var 62) (.var 63)), (.sl 64 (.lit 0) (.var 65) (.var 66))], 69⟩, ⟨[(.cst (.string ⟨#[112, 97, 116]⟩)), (.cst (.string ⟨#[112, 97, 116, 97]⟩))], 9⟩]
 (.alloc
 (.call false 42 [(.slc 3 0 2 2)] .sl [⟨[(.sl 28 (.lit 0) (.var 29) (.var 30)), (.sl 31 (.lit 0) (.var 32) (.var 33)), (.sl 34 (.lit 0) (.var 35) (.var 36)), (.sl 37 (.lit 0) (.var 38) (.var 39))], 69⟩, ⟨[(.sl 49 (.lit 0) (.var 50) (.var 51)), (.sl 52 (.lit 0) (.var 53) (.var 54)), (.sl 55 (.lit 0) (.var 56) (.var 57)), (.sl 58 (.lit 0) (.var 59) (.var 60)), (.sl 61 (.lit 0) (.var 62) (.var 63)), (.sl 64 (.lit 0) (.var 65) (.var 66))], 69⟩, ⟨[(.cst (.string ⟨#[112, 97, 116]⟩)), (.cst (.string ⟨#[112, 97, 116, 97]⟩))], 9⟩, ⟨[(.cst (.string ⟨#[116, 105, 116]⟩)), (.cst (.string ⟨#[116, 117, 116, 97]⟩))], 9⟩]
 (.alloc
 (.call false 24 [(.slc 4 0 2 2), (.int .i64 (.lit 1)), (.int .i64 (.lit 0))] (.tup [.sl, (.int .i64)]) [⟨[(.sl 28 (.lit 0) (.var 29) (.var 30)), (.sl 31 (.lit 0) (.var 32) (.var 33)), (.sl 34 (.lit 0) (.var 35) (.var 36)), (.sl 37 (.lit 0) (.var 38) (.var 39))], 69⟩, ⟨[(.sl 49 (.lit 0) (.var 50) (.var 51)), (.sl 52 (.lit 0) (.var 53) (.var 54)), (.sl 55 (.lit 0) (.var 56) (.var 57)), (.sl 58 (.lit 0) (.var 59) (.var 60)), (.sl 61 (.lit 0) (.var 62) (.var 63)), (.sl 64 (.lit 0) (.var 65) (.var 66))], 69⟩, ⟨[(.cst (.string ⟨#[112, 97, 116]⟩)), (.cst (.string ⟨#[112, 97, 116, 97]⟩))], 9⟩, ⟨[(.cst (.string ⟨#[116, 105, 116]⟩)), (.cst (.string ⟨#[116, 117, 116, 97]⟩))], 9⟩, ⟨[(.sl 75 (.lit 0) (.var 76) (.var 77)), (.sl 78 (.lit 0) (.var 79) (.var 80))], 39⟩]
 (.ite (.pick (.pick (.pick (.pick (.pick (.pick (.pick (.cmp .eql (.var 13) (.lit 0)) (.cmp .eql (.var 27) (.lit 0)) (.lit false)) (.cmp .eql (.var 48) (.lit 0)) (.lit false)) (.cmp .eql (.var 74) (.lit 0)) (.lit false)) (.cmp .eql (.var 84) (.lit 0)) (.lit false)) (.var 12) (.lit false)) (.var 26) (.lit false)) (.var 47) (.lit false))
  (.call false 40 [(.cst (.string ⟨#[116, 105]⟩))] .sl [⟨[(.sl 28 (.lit 0) (.var 29) (.var 30)), (.sl 31 (.lit 0) (.var 32) (.var 33)), (.sl 34 (.lit 0) (.var 35) (.var 36)), (.sl 37 (.lit 0) (.var 38) (.var 39))], 69⟩, ⟨[(.sl 49 (.lit 0) (.var 50) (.var 51)), (.sl 52 (.lit 0) (.var 53) (.var 54)), (.sl 55 (.lit 0) (.var 56) (.var 57)), (.sl 58 (.lit 0) (.var 59) (.var 60)), (.sl 61 (.lit 0) (.var 62) (.var 63)), (.sl 64 (.lit 0) (.var 65) (.var 66))], 69⟩, ⟨[(.cst (.string ⟨#[112, 97, 116]⟩)), (.cst (.string ⟨#[112, 97, 116, 97]⟩))], 9⟩, ⟨[(.cst (.string ⟨#[116, 105, 116]⟩)), (.cst (.string ⟨#[116, 117, 116, 97]⟩))], 9⟩, ⟨[(.sl 75 (.lit 0) (.var 76) (.var 77)), (.sl 78 (.lit 0) (.var 79) (.var 80))], 39⟩]
  (.call false 20 [(.sl 9 (.lit 0) (.var 10) (.var 11)), (.sl 85 (.lit 0) (.var 86) (.var 87))] .bool [⟨[(.sl 28 (.lit 0) (.var 29) (.var 30)), (.sl 31 (.lit 0) (.var 32) (.var 33)), (.sl 34 (.lit 0) (.var 35) (.var 36)), (.sl 37 (.lit 0) (.var 38) (.var 39))], 69⟩, ⟨[(.sl 49 (.lit 0) (.var 50) (.var 51)), (.sl 52 (.lit 0) (.var 53) (.var 54)), (.sl 55 (.lit 0) (.var 56) (.var 57)), (.sl 58 (.lit 0) (.var 59) (.var 60)), (.sl 61 (.lit 0) (.var 62) (.var 63)), (.sl 64 (.lit 0) (.var 65) (.var 66))], 69⟩, ⟨[(.cst (.string ⟨#[112, 97, 116]⟩)), (.cst (.string ⟨#[112, 97, 116, 97]⟩))], 9⟩, ⟨[(.cst (.string ⟨#[116, 105, 116]⟩)), (.cst (.string ⟨#[116, 117, 116, 97]⟩))], 9⟩, ⟨[(.sl 75 (.lit 0) (.var 76) (.var 77)), (.sl 78 (.lit 0) (.var 79) (.var 80))], 39⟩]
  (.ite (.var 88)
   (.call false 40 [(.cst (.string ⟨#[97, 116, 97]⟩))] .sl [⟨[(.sl 28 (.lit 0) (.var 29) (.var 30)), (.sl 31 (.lit 0) (.var 32) (.var 33)), (.sl 34 (.lit 0) (.var 35) (.var 36)), (.sl 37 (.lit 0) (.var 38) (.var 39))], 69⟩, ⟨[(.sl 49 (.lit 0) (.var 50) (.var 51)), (.sl 52 (.lit 0) (.var 53) (.var 54)), (.sl 55 (.lit 0) (.var 56) (.var 57)), (.sl 58 (.lit 0) (.var 59) (.var 60)), (.sl 61 (.lit 0) (.var 62) (.var 63)), (.sl 64 (.lit 0) (.var 65) (.var 66))], 69⟩, ⟨[(.cst (.string ⟨#[112, 97, 116]⟩)), (.cst (.string ⟨#[112, 97, 116, 97]⟩))], 9⟩, ⟨[(.cst (.string ⟨#[116, 105, 116]⟩)), (.cst (.string ⟨#[116, 117, 116, 97]⟩))], 9⟩, ⟨[(.sl 75 (.lit 0) (.var 76) (.var 77)), (.sl 78 (.lit 0) (.var 79) (.var 80))], 39⟩]
   (.call false 20 [(.sl 23 (.lit 0) (.var 24) (.var 25)), (.sl 89 (.lit 0) (.var 90) (.var 91))] .bool [⟨[(.sl 28 (.lit 0) (.var 29) (.var 30)), (.sl 31 (.lit 0) (.var 32) (.var 33)), (.sl 34 (.lit 0) (.var 35) (.var 36)), (.sl 37 (.lit 0) (.var 38) (.var 39))], 69⟩, ⟨[(.sl 49 (.lit 0) (.var 50) (.var 51)), (.sl 52 (.lit 0) (.var 53) (.var 54)), (.sl 55 (.lit 0) (.var 56) (.var 57)), (.sl 58 (.lit 0) (.var 59) (.var 60)), (.sl 61 (.lit 0) (.var 62) (.var 63)), (.sl 64 (.lit 0) (.var 65) (.var 66))], 69⟩, ⟨[(.cst (.string ⟨#[112, 97, 116]⟩)), (.cst (.string ⟨#[112, 97, 116, 97]⟩))], 9⟩, ⟨[(.cst (.string ⟨#[116, 105, 116]⟩)), (.cst (.string ⟨#[116, 117, 116, 97]⟩))], 9⟩, ⟨[(.sl 75 (.lit 0) (.var 76) (.var 77)), (.sl 78 (.lit 0) (.var 79) (.var 80))], 39⟩]
   (.ite (.pick (.var 92) (.cmp .eql (.var 46) (.lit 1)) (.lit false))
    (.call false 40 [(.cst (.string ⟨#[112, 105, 116]⟩))] .sl [⟨[(.sl 28 (.lit 0) (.var 29) (.var 30)), (.sl 31 (.lit 0) (.var 32) (.var 33)), (.sl 34 (.lit 0) (.var 35) (.var 36)), (.sl 37 (.lit 0) (.var 38) (.var 39))], 69⟩, ⟨[(.sl 49 (.lit 0) (.var 50) (.var 51)), (.sl 52 (.lit 0) (.var 53) (.var 54)), (.sl 55 (.lit 0) (.var 56) (.var 57)), (.sl 58 (.lit 0) (.var 59) (.var 60)), (.sl 61 (.lit 0) (.var 62) (.var 63)), (.sl 64 (.lit 0) (.var 65) (.var 66))], 69⟩, ⟨[(.cst (.string ⟨#[112, 97, 116]⟩)), (.cst (.string ⟨#[112, 97, 116, 97]⟩))], 9⟩, ⟨[(.cst (.string ⟨#[116, 105, 116]⟩)), (.cst (.string ⟨#[116, 117, 116, 97]⟩))], 9⟩, ⟨[(.sl 75 (.lit 0) (.var 76) (.var 77)), (.sl 78 (.lit 0) (.var 79) (.var 80))], 39⟩]
    (.call false 20 [(.sl 70 (.lit 0) (.var 71) (.var 72)), (.sl 93 (.lit 0) (.var 94) (.var 95))] .bool [⟨[(.sl 28 (.lit 0) (.var 29) (.var 30)), (.sl 31 (.lit 0) (.var 32) (.var 33)), (.sl 34 (.lit 0) (.var 35) (.var 36)), (.sl 37 (.lit 0) (.var 38) (.var 39))], 69⟩, ⟨[(.sl 49 (.lit 0) (.var 50) (.var 51)), (.sl 52 (.lit 0) (.var 53) (.var 54)), (.sl 55 (.lit 0) (.var 56) (.var 57)), (.sl 58 (.lit 0) (.var 59) (.var 60)), (.sl 61 (.lit 0) (.var 62) (.var 63)), (.sl 64 (.lit 0) (.var 65) (.var 66))], 69⟩, ⟨[(.cst (.string ⟨#[112, 97, 116]⟩)), (.cst (.string ⟨#[112, 97, 116, 97]⟩))], 9⟩, ⟨[(.cst (.string ⟨#[116, 105, 116]⟩)), (.cst (.string ⟨#[116, 117, 116, 97]⟩))], 9⟩, ⟨[(.sl 75 (.lit 0) (.var 76) (.var 77)), (.sl 78 (.lit 0) (.var 79) (.var 80))], 39⟩]
    (.ite (.pick (.var 96) (.cmp .eql (.var 73) (.lit 2)) (.lit false))
     (.alloc
     (.call false 42 [(.slc 5 0 2 2)] .sl [⟨[(.sl 28 (.lit 0) (.var 29) (.var 30)), (.sl 31 (.lit 0) (.var 32) (.var 33)), (.sl 34 (.lit 0) (.var 35) (.var 36)), (.sl 37 (.lit 0) (.var 38) (.var 39))], 69⟩, ⟨[(.sl 49 (.lit 0) (.var 50) (.var 51)), (.sl 52 (.lit 0) (.var 53) (.var 54)), (.sl 55 (.lit 0) (.var 56) (.var 57)), (.sl 58 (.lit 0) (.var 59) (.var 60)), (.sl 61 (.lit 0) (.var 62) (.var 63)), (.sl 64 (.lit 0) (.var 65) (.var 66))], 69⟩, ⟨[(.cst (.string ⟨#[112, 97, 116]⟩)), (.cst (.string ⟨#[112, 97, 116, 97]⟩))], 9⟩, ⟨[(.cst (.string ⟨#[116, 105, 116]⟩)), (.cst (.string ⟨#[116, 117, 116, 97]⟩))], 9⟩, ⟨[(.sl 75 (.lit 0) (.var 76) (.var 77)), (.sl 78 (.lit 0) (.var 79) (.var 80))], 39⟩, ⟨[(.cst (.string ⟨#[112, 97, 116]⟩)), (.cst (.string ⟨#[112, 97, 116, 97]⟩))], 9⟩]
     (.alloc
     (.call false 42 [(.slc 6 0 2 2)] .sl [⟨[(.sl 28 (.lit 0) (.var 29) (.var 30)), (.sl 31 (.lit 0) (.var 32) (.var 33)), (.sl 34 (.lit 0) (.var 35) (.var 36)), (.sl 37 (.lit 0) (.var 38) (.var 39))], 69⟩, ⟨[(.sl 49 (.lit 0) (.var 50) (.var 51)), (.sl 52 (.lit 0) (.var 53) (.var 54)), (.sl 55 (.lit 0) (.var 56) (.var 57)), (.sl 58 (.lit 0) (.var 59) (.var 60)), (.sl 61 (.lit 0) (.var 62) (.var 63)), (.sl 64 (.lit 0) (.var 65) (.var 66))], 69⟩, ⟨[(.cst (.string ⟨#[112, 97, 116]⟩)), (.cst (.string ⟨#[112, 97, 116, 97]⟩))], 9⟩, ⟨[(.cst (.string ⟨#[116, 105, 116]⟩)), (.cst (.string ⟨#[116, 117, 116, 97]⟩))], 9⟩, ⟨[(.sl 75 (.lit 0) (.var 76) (.var 77)), (.sl 78 (.lit 0) (.var 79) (.var 80))], 39⟩, ⟨[(.cst (.string ⟨#[112, 97, 116]⟩)), (.cst (.string ⟨#[112, 97, 116, 97]⟩))], 9⟩, ⟨[(.cst (.string ⟨#[116, 105, 116]⟩)), (.cst (.string ⟨#[116, 105, 116, 97]⟩))], 9⟩]
     (.alloc
     (.call false 26 [(.sl 81 (.lit 0) (.var 82) (.var 83)), (.slc 7 0 2 2)] .bool [⟨[(.sl 28 (.lit 0) (.var 29) (.var 30)), (.sl 31 (.lit 0) (.var 32) (.var 33)), (.sl 34 (.lit 0) (.var 35) (.var 36)), (.sl 37 (.lit 0) (.var 38) (.var 39))], 69⟩, ⟨[(.sl 49 (.lit 0) (.var 50) (.var 51)), (.sl 52 (.lit 0) (.var 53) (.var 54)), (.sl 55 (.lit 0) (.var 56) (.var 57)), (.sl 58 (.lit 0) (.var 59) (.var 60)), (.sl 61 (.lit 0) (.var 62) (.var 63)), (.sl 64 (.lit 0) (.var 65) (.var 66))], 69⟩, ⟨[(.cst (.string ⟨#[112, 97, 116]⟩)), (.cst (.string ⟨#[112, 97, 116, 97]⟩))], 9⟩, ⟨[(.cst (.string ⟨#[116, 105, 116]⟩)), (.cst (.string ⟨#[116, 117, 116, 97]⟩))], 9⟩, ⟨[(.sl 75 (.lit 0) (.var 76) (.var 77)), (.sl 78 (.lit 0) (.var 79) (.var 80))], 39⟩, ⟨[(.cst (.string ⟨#[112, 97, 116]⟩)), (.cst (.string ⟨#[112, 97, 116, 97]⟩))], 9⟩, ⟨[(.cst (.string ⟨#[116, 105, 116]⟩)), (.cst (.string ⟨#[116, 105, 116, 97]⟩))], 9⟩, ⟨[(.sl 97 (.lit 0) (.var 98) (.var 99)), (.sl 100 (.lit 0) (.var 101) (.var 102))], 39⟩]
     (.ret (.bool (.var 103)) [⟨[(.sl 28 (.lit 0) (.var 29) (.var 30)), (.sl 31 (.lit 0) (.var 32) (.var 33)), (.sl 34 (.lit 0) (.var 35) (.var 36)), (.sl 37 (.lit 0) (.var 38) (.var 39))], 69⟩, ⟨[(.sl 49 (.lit 0) (.var 50) (.var 51)), (.sl 52 (.lit 0) (.var 53) (.var 54)), (.sl 55 (.lit 0) (.var 56) (.var 57)), (.sl 58 (.lit 0) (.var 59) (.var 60)), (.sl 61 (.lit 0) (.var 62) (.var 63)), (.sl 64 (.lit 0) (.var 65) (.var 66))], 69⟩, ⟨[(.cst (.string ⟨#[112, 97, 116]⟩)), (.cst (.string ⟨#[112, 97, 116, 97]⟩))], 9⟩, ⟨[(.cst (.string ⟨#[116, 105, 116]⟩)), (.cst (.string ⟨#[116, 117, 116, 97]⟩))], 9⟩, ⟨[(.sl 75 (.lit 0) (.var 76) (.var 77)), (.sl 78 (.lit 0) (.var 79) (.var 80))], 39⟩, ⟨[(.cst (.string ⟨#[112, 97, 116]⟩)), (.cst (.string ⟨#[112, 97, 116, 97]⟩))], 9⟩, ⟨[(.cst (.string ⟨#[116, 105, 116]⟩)), (.cst (.string ⟨#[116, 105, 116, 97]⟩))], 9⟩, ⟨[(.sl 97 (.lit 0) (.var 98) (.var 99)), (.sl 100 (.lit 0) (.var 101) (.var 102))], 39⟩])))))))
     (.ret (.bool (.lit false)) [⟨[(.sl 28 (.lit 0) (.var 29) (.var 30)), (.sl 31 (.lit 0) (.var 32) (.var 33)), (.sl 34 (.lit 0) (.var 35) (.var 36)), (.sl 37 (.lit 0) (.var 38) (.var 39))], 69⟩, ⟨[(.sl 49 (.lit 0) (.var 50) (.var 51)), (.sl 52 (.lit 0) (.var 53) (.var 54)), (.sl 55 (.lit 0) (.var 56) (.var 57)), (.sl 58 (.lit 0) (.var 59) (.var 60)), (.sl 61 (.lit 0) (.var 62) (.var 63)), (.sl 64 (.lit 0) (.var 65) (.var 66))], 69⟩, ⟨[(.cst (.string ⟨#[112, 97, 116]⟩)), (.cst (.string ⟨#[112, 97, 116, 97]⟩))], 9⟩, ⟨[(.cst (.string ⟨#[116, 105, 116]⟩)), (.cst (.string ⟨#[116, 117, 116, 97]⟩))], 9⟩, ⟨[(.sl 75 (.lit 0) (.var 76) (.var 77)), (.sl 78 (.lit 0) (.var 79) (.var 80))], 39⟩]))))
    (.ret (.bool (.lit false)) [⟨[(.sl 28 (.lit 0) (.var 29) (.var 30)), (.sl 31 (.lit 0) (.var 32) (.var 33)), (.sl 34 (.lit 0) (.var 35) (.var 36)), (.sl 37 (.lit 0) (.var 38) (.var 39))], 69⟩, ⟨[(.sl 49 (.lit 0) (.var 50) (.var 51)), (.sl 52 (.lit 0) (.var 53) (.var 54)), (.sl 55 (.lit 0) (.var 56) (.var 57)), (.sl 58 (.lit 0) (.var 59) (.var 60)), (.sl 61 (.lit 0) (.var 62) (.var 63)), (.sl 64 (.lit 0) (.var 65) (.var 66))], 69⟩, ⟨[(.cst (.string ⟨#[112, 97, 116]⟩)), (.cst (.string ⟨#[112, 97, 116, 97]⟩))], 9⟩, ⟨[(.cst (.string ⟨#[116, 105, 116]⟩)), (.cst (.string ⟨#[116, 117, 116, 97]⟩))], 9⟩, ⟨[(.sl 75 (.lit 0) (.var 76) (.var 77)), (.sl 78 (.lit 0) (.var 79) (.var 80))], 39⟩]))))
   (.ret (.bool (.lit false)) [⟨[(.sl 28 (.lit 0) (.var 29) (.var 30)), (.sl 31 (.lit 0) (.var 32) (.var 33)), (.sl 34 (.lit 0) (.var 35) (.var 36)), (.sl 37 (.lit 0) (.var 38) (.var 39))], 69⟩, ⟨[(.sl 49 (.lit 0) (.var 50) (.var 51)), (.sl 52 (.lit 0) (.var 53) (.var 54)), (.sl 55 (.lit 0) (.var 56) (.var 57)), (.sl 58 (.lit 0) (.var 59) (.var 60)), (.sl 61 (.lit 0) (.var 62) (.var 63)), (.sl 64 (.lit 0) (.var 65) (.var 66))], 69⟩, ⟨[(.cst (.string ⟨#[112, 97, 116]⟩)), (.cst (.string ⟨#[112, 97, 116, 97]⟩))], 9⟩, ⟨[(.cst (.string ⟨#[116, 105, 116]⟩)), (.cst (.string ⟨#[116, 117, 116, 97]⟩))], 9⟩, ⟨[(.sl 75 (.lit 0) (.var 76) (.var 77)), (.sl 78 (.lit 0) (.var 79) (.var 80))], 39⟩]))))
  (.ret (.bool (.lit false)) [⟨[(.sl 28 (.lit 0) (.var 29) (.var 30)), (.sl 31 (.lit 0) (.var 32) (.var 33)), (.sl 34 (.lit 0) (.var 35) (.var 36)), (.sl 37 (.lit 0) (.var 38) (.var 39))], 69⟩, ⟨[(.sl 49 (.lit 0) (.var 50) (.var 51)), (.sl 52 (.lit 0) (.var 53) (.var 54)), (.sl 55 (.lit 0) (.var 56) (.var 57)), (.sl 58 (.lit 0) (.var 59) (.var 60)), (.sl 61 (.lit 0) (.var 62) (.var 63)), (.sl 64 (.lit 0) (.var 65) (.var 66))], 69⟩, ⟨[(.cst (.string ⟨#[112, 97, 116]⟩)), (.cst (.string ⟨#[112, 97, 116, 97]⟩))], 9⟩, ⟨[(.cst (.string ⟨#[116, 105, 116]⟩)), (.cst (.string ⟨#[116, 117, 116, 97]⟩))], 9⟩, ⟨[(.sl 75 (.lit 0) (.var 76) (.var 77)), (.sl 78 (.lit 0) (.var 79) (.var 80))], 39⟩]))))))))))))))))))))))))))))
theorem S_law30_works : FnIs Tryd.prog n_law30_works [] T_law30_works := ⟨Tryd.f14, [], 4000, Tryd.func14, by kernel_rfl⟩
/-! 16 ablaut/analogy.Solve  -/
abbrev n_analogy_Solve : FuncId := 16
def T_analogy_Solve : Tree :=
 (.extp ⟨(.load 80 (.tmp 0)), 80, [(.cst (.pointer (some ⟨0, 0, none⟩)))]⟩ (.agg [.val, .val]) []
 (.call false 43 [(.agg [(.val 9), (.val 10)]), (.sl 0 (.lit 0) (.var 1) (.var 2)), (.sl 3 (.lit 0) (.var 4) (.var 5)), (.sl 6 (.lit 0) (.var 7) (.var 8))] (.tup [.sl, .bool, (.int .i64)]) []
 (.ret (.tup [(.sl 11 (.lit 0) (.var 12) (.var 13)), (.bool (.var 14)), (.int .i64 (.var 15))]) [])))
theorem S_analogy_Solve : FnIs Tryd.prog n_analogy_Solve [.sl, .sl, .sl] T_analogy_Solve := ⟨Tryd.f16, [], 4000, Tryd.func16, by kernel_rfl⟩
/-! 18 ablaut/analogy.Front  -/
abbrev n_analogy_Front : FuncId := 18
def T_analogy_Front : Tree :=
 (.extp ⟨(.load 80 (.tmp 0)), 80, [(.cst (.pointer (some ⟨1, 0, none⟩)))]⟩ (.agg [.val, .val]) []
 (.call false 43 [(.agg [(.val 9), (.val 10)]), (.sl 0 (.lit 0) (.var 1) (.var 2)), (.sl 3 (.lit 0) (.var 4) (.var 5)), (.sl 6 (.lit 0) (.var 7) (.var 8))] (.tup [.sl, .bool, (.int .i64)]) []
 (.ret (.tup [(.sl 11 (.lit 0) (.var 12) (.var 13)), (.bool (.var 14)), (.int .i64 (.var 15))]) [])))
theorem S_analogy_Front : FnIs Tryd.prog n_analogy_Front [.sl, .sl, .sl] T_analogy_Front := ⟨Tryd.f18, [], 4000, Tryd.func18, by kernel_rfl⟩
/-! 21 ablaut/ablautlaw30.few  -/
abbrev n_law30_few : FuncId := 21
def T_law30_few : Tree :=
 (.chk (.cmp .geq (.var 1) (.lit 0))
 (.ite (.cmp .gtr (.var 1) (.lit 12))
  (.chk (.cmp .geq (.var 1) (.lit 0))
  (.ite (.cmp .leq (.var 1) (.lit 256))
   (.ret (.bool (.lit false)) [])
   (.chk (.cmp .geq (.var 1) (.lit 0))
   (.ite (.cmp .gtr (.var 1) (.lit 400))
    (.ret (.bool (.lit false)) [])
    (.loop 0 [.bool, (.int .i64)] [(.bool (.lit false)), (.int .i64 (.lit 0))] [] []
     (.chk (.cmp .geq (.var 1) (.lit 0))
     (.ite (.cmp .lss (.var 4) (.var 1))
      (.join 1 [.bool] []
       (.chk (.pick (.cmp .geq (.var 4) (.lit 0)) (.pick (.cmp .lss (.var 4) (.var 1)) (.some 0) (.lit false)) (.lit false))
       (.chk (.pick (.cmp .geq (.off (.var 4) 2 (.lit 0)) (.lit 0)) (.some 0) (.lit false))
       (.load 0 (.off (.var 4) 2 (.lit 0)) [.sl] []
       (.chk (.cmp .geq (.var 6) (.lit 0))
       (.ite (.cmp .gtr (.var 6) (.lit 100))
        (.again 1 0 [.bool] [(.bool (.lit true))] [])
        (.chk (.pick (.cmp .geq (.var 4) (.lit 0)) (.pick (.cmp .lss (.var 4) (.var 1)) (.some 0) (.lit false)) (.lit false))
        (.chk (.pick (.cmp .geq (.off (.var 4) 2 (.lit 0)) (.lit 0)) (.some 0) (.lit false))
        (.load 0 (.off (.lit 1) 1 (.off (.var 4) 2 (.lit 0))) [.sl] []
        (.chk (.cmp .geq (.var 9) (.lit 0))
        (.again 1 0 [.bool] [(.bool (.cmp .gtr (.var 9) (.lit 100)))] []))))))))))
      (.ite (.var 5)
       (.ret (.bool (.lit false)) [])
       (.again 0 0 [.bool, (.int .i64)] [(.bool (.var 3)), (.int .i64 (.bin .add .i64 (.var 4) (.lit 1)))] [])))
      (.ret (.bool (.lit true)) []))))))))
  (.chk (.cmp .geq (.var 1) (.lit 0))
  (.ite (.cmp .gtr (.var 1) (.lit 400))
   (.ret (.bool (.lit false)) [])
   (.loop 0 [.bool, (.int .i64)] [(.bool (.lit false)), (.int .i64 (.lit 0))] [] []
    (.chk (.cmp .geq (.var 1) (.lit 0))
    (.ite (.cmp .lss (.var 4) (.var 1))
     (.join 1 [.bool] []
      (.chk (.pick (.cmp .geq (.var 4) (.lit 0)) (.pick (.cmp .lss (.var 4) (.var 1)) (.some 0) (.lit false)) (.lit false))
      (.chk (.pick (.cmp .geq (.off (.var 4) 2 (.lit 0)) (.lit 0)) (.some 0) (.lit false))
      (.load 0 (.off (.var 4) 2 (.lit 0)) [.sl] []
      (.chk (.cmp .geq (.var 6) (.lit 0))
      (.ite (.cmp .gtr (.var 6) (.lit 100))
       (.again 1 0 [.bool] [(.bool (.lit true))] [])
       (.chk (.pick (.cmp .geq (.var 4) (.lit 0)) (.pick (.cmp .lss (.var 4) (.var 1)) (.some 0) (.lit false)) (.lit false))
       (.chk (.pick (.cmp .geq (.off (.var 4) 2 (.lit 0)) (.lit 0)) (.some 0) (.lit false))
       (.load 0 (.off (.lit 1) 1 (.off (.var 4) 2 (.lit 0))) [.sl] []
       (.chk (.cmp .geq (.var 9) (.lit 0))
       (.again 1 0 [.bool] [(.bool (.cmp .gtr (.var 9) (.lit 100)))] []))))))))))
     (.ite (.var 5)
      (.ret (.bool (.lit false)) [])
      (.again 0 0 [.bool, (.int .i64)] [(.bool (.var 3)), (.int .i64 (.bin .add .i64 (.var 4) (.lit 1)))] [])))
     (.ret (.bool (.lit true)) []))))))))
theorem S_law30_few : FnIs Tryd.prog n_law30_few [.sl] T_law30_few := ⟨Tryd.f21, [{ key := 200006, tmps := [(38, .bool)], join := true, dead := 274876792818 }], 4000, Tryd.func21, by kernel_rfl⟩
/-! 22 ablaut/analogy.Extend  -/
abbrev n_analogy_Extend : FuncId := 22
def T_analogy_Extend : Tree :=
 (.alloc
 (.call false 47 [(.sl 0 (.lit 0) (.var 1) (.var 2)), (.slc 0 0 1 1)] (.int .i64) [⟨[(.sl 3 (.lit 0) (.var 4) (.var 5))], 22⟩]
 (.ite (.cmp .neq (.var 6) (.lit 0))
  (.ret (.tup [(.cst (.slice none 0 0)), (.int .i64 (.lit 0)), (.int .i64 (.var 6))]) [⟨[(.sl 3 (.lit 0) (.var 4) (.var 5))], 22⟩])
  (.ext false ⟨(.makeMap 84 none), 84, []⟩ .val [⟨[(.sl 3 (.lit 0) (.var 4) (.var 5))], 22⟩]
  (.alloc
  (.alloc
  (.chk (.cmp .geq (.var 1) (.lit 0))
  (.loop 0 [(.int .i64), .sl] [(.int .i64 (.lit 0)), (.cst (.slice none 0 0))] [⟨[(.sl 3 (.lit 0) (.var 4) (.var 5))], 22⟩, ⟨[(.val 7)], 84⟩, ⟨[(.cst (.slice none 0 0))], 85⟩] [⟨[(.sl 3 (.lit 0) (.var 4) (.var 5))], 22⟩, ⟨[(.val 7)], 84⟩, ⟨[(.sl 9 (.lit 0) (.var 10) (.var 11))], 85⟩]
   (.ite (.cmp .lss (.var 8) (.var 1))
    (.chk (.pick (.cmp .geq (.var 8) (.lit 0)) (.pick (.cmp .lss (.var 8) (.var 1)) (.some 0) (.lit false)) (.lit false))
    (.load 0 (.off (.var 8) 2 (.lit 0)) [.sl, .sl] [⟨[(.sl 3 (.lit 0) (.var 4) (.var 5))], 22⟩, ⟨[(.val 7)], 84⟩, ⟨[(.sl 9 (.lit 0) (.var 10) (.var 11))], 85⟩]
    (.alloc
    (.call false 48 [(.agg [(.sl 12 (.lit 0) (.var 13) (.var 14)), (.sl 15 (.lit 0) (.var 16) (.var 17))]), (.sl 3 (.lit 0) (.var 4) (.var 5))] .val [⟨[(.sl 3 (.lit 0) (.var 4) (.var 5))], 22⟩, ⟨[(.val 7)], 84⟩, ⟨[(.sl 9 (.lit 0) (.var 10) (.var 11))], 85⟩, ⟨[(.sl 12 (.lit 0) (.var 13) (.var 14)), (.sl 15 (.lit 0) (.var 16) (.var 17))], 69⟩]
    (.range (.val 18) [.sl] [.sl] [(.sl 9 (.lit 0) (.var 10) (.var 11))] [⟨[(.sl 3 (.lit 0) (.var 4) (.var 5))], 22⟩, ⟨[(.val 7)], 84⟩, ⟨[(.sl 9 (.lit 0) (.var 10) (.var 11))], 85⟩, ⟨[(.sl 12 (.lit 0) (.var 13) (.var 14)), (.sl 15 (.lit 0) (.var 16) (.var 17))], 69⟩] [⟨[(.sl 3 (.lit 0) (.var 4) (.var 5))], 22⟩, ⟨[(.val 7)], 84⟩, ⟨[(.sl 19 (.lit 0) (.var 20) (.var 21))], 85⟩, ⟨[(.sl 12 (.lit 0) (.var 13) (.var 14)), (.sl 15 (.lit 0) (.var 16) (.var 17))], 69⟩]
     (.join 0 [.sl] [⟨[(.sl 3 (.lit 0) (.var 4) (.var 5))], 22⟩, ⟨[(.val 7)], 84⟩, ⟨[(.sl 25 (.lit 0) (.var 26) (.var 27))], 85⟩, ⟨[(.sl 12 (.lit 0) (.var 13) (.var 14)), (.sl 15 (.lit 0) (.var 16) (.var 17))], 69⟩]
      (.chk (.cmp .geq (.var 23) (.lit 0))
      (.ite (.cmp .gtr (.var 23) (.lit 32))
       (.again 0 4 [.sl] [(.sl 19 (.lit 0) (.var 20) (.var 21))] [⟨[(.sl 3 (.lit 0) (.var 4) (.var 5))], 22⟩, ⟨[(.val 7)], 84⟩, ⟨[(.sl 19 (.lit 0) (.var 20) (.var 21))], 85⟩, ⟨[(.sl 12 (.lit 0) (.var 13) (.var 14)), (.sl 15 (.lit 0) (.var 16) (.var 17))], 69⟩])
       (.call false 49 [(.sl 22 (.lit 0) (.var 23) (.var 24))] .val [⟨[(.sl 3 (.lit 0) (.var 4) (.var 5))], 22⟩, ⟨[(.val 7)], 84⟩, ⟨[(.sl 19 (.lit 0) (.var 20) (.var 21))], 85⟩, ⟨[(.sl 12 (.lit 0) (.var 13) (.var 14)), (.sl 15 (.lit 0) (.var 16) (.var 17))], 69⟩]
       (.extp ⟨(.lookup 84 (.tmp 0) (.tmp 0) false), 3, [(.val 7), (.val 25)]⟩ (.int .i64) [⟨[(.sl 3 (.lit 0) (.var 4) (.var 5))], 22⟩, ⟨[(.val 7)], 84⟩, ⟨[(.sl 19 (.lit 0) (.var 20) (.var 21))], 85⟩, ⟨[(.sl 12 (.lit 0) (.var 13) (.var 14)), (.sl 15 (.lit 0) (.var 16) (.var 17))], 69⟩]
       (.extu false ⟨(.mapUpdate 84 (.tmp 0) (.tmp 0) (.tmp 0)), 0, [(.val 7), (.val 25), (.int .i64 (.bin .add .i64 (.var 26) (.lit 1)))]⟩ [⟨[(.sl 3 (.lit 0) (.var 4) (.var 5))], 22⟩, ⟨[(.val 7)], 84⟩, ⟨[(.sl 19 (.lit 0) (.var 20) (.var 21))], 85⟩, ⟨[(.sl 12 (.lit 0) (.var 13) (.var 14)), (.sl 15 (.lit 0) (.var 16) (.var 17))], 69⟩]
       (.alloc
       (.ext false ⟨(.call ⟨.builtin .append, #[(.tmp 0), (.tmp 0)], #[85, 85]⟩), 85, [(.sl 19 (.lit 0) (.var 20) (.var 21)), (.slc 4 0 1 1)]⟩ .sl [⟨[(.sl 3 (.lit 0) (.var 4) (.var 5))], 22⟩, ⟨[(.val 7)], 84⟩, ⟨[(.sl 19 (.lit 0) (.var 20) (.var 21))], 85⟩, ⟨[(.sl 12 (.lit 0) (.var 13) (.var 14)), (.sl 15 (.lit 0) (.var 16) (.var 17))], 69⟩, ⟨[(.sl 22 (.lit 0) (.var 23) (.var 24))], 22⟩]
       (.again 0 4 [.sl] [(.sl 27 (.lit 0) (.var 28) (.var 29))] [⟨[(.sl 3 (.lit 0) (.var 4) (.var 5))], 22⟩, ⟨[(.val 7)], 84⟩, ⟨[(.sl 27 (.lit 0) (.var 28) (.var 29))], 85⟩, ⟨[(.sl 12 (.lit 0) (.var 13) (.var 14)), (.sl 15 (.lit 0) (.var 16) (.var 17))], 69⟩, ⟨[(.sl 22 (.lit 0) (.var 23) (.var 24))], 22⟩]))))))))
     (.leave 0 4 [.sl] [(.sl 25 (.lit 0) (.var 26) (.var 27))] [⟨[(.sl 3 (.lit 0) (.var 4) (.var 5))], 22⟩, ⟨[(.val 7)], 84⟩, ⟨[(.sl 25 (.lit 0) (.var 26) (.var 27))], 85⟩, ⟨[(.sl 12 (.lit 0) (.var 13) (.var 14)), (.sl 15 (.lit 0) (.var 16) (.var 17))], 69⟩]))
     (.again 0 3 [(.int .i64), .sl] [(.int .i64 (.bin .add .i64 (.var 8) (.lit 1))), (.sl 19 (.lit 0) (.var 20) (.var 21))] [⟨[(.sl 3 (.lit 0) (.var 4) (.var 5))], 22⟩, ⟨[(.val 7)], 84⟩, ⟨[(.sl 19 (.lit 0) (.var 20) (.var 21))], 85⟩, ⟨[(.sl 12 (.lit 0) (.var 13) (.var 14)), (.sl 15 (.lit 0) (.var 16) (.var 17))], 69⟩]))))))
    (.chk (.cmp .geq (.var 10) (.lit 0))
    (.ite (.cmp .eql (.var 10) (.lit 0))
     (.ret (.tup [(.cst (.slice none 0 0)), (.int .i64 (.lit 0)), (.int .i64 (.lit 5))]) [⟨[(.sl 3 (.lit 0) (.var 4) (.var 5))], 22⟩, ⟨[(.val 7)], 84⟩, ⟨[(.sl 9 (.lit 0) (.var 10) (.var 11))], 85⟩])
     (.call false 50 [(.sl 9 (.lit 0) (.var 10) (.var 11)), (.fn (.func 51) [] [(.loc 1 0)])] .sl [⟨[(.sl 3 (.lit 0) (.var 4) (.var 5))], 22⟩, ⟨[(.val 7)], 84⟩, ⟨[(.sl 9 (.lit 0) (.var 10) (.var 11))], 85⟩]
     (.call false 49 [(.sl 12 (.lit 0) (.var 13) (.var 14))] .val [⟨[(.sl 3 (.lit 0) (.var 4) (.var 5))], 22⟩, ⟨[(.val 7)], 84⟩, ⟨[(.sl 9 (.lit 0) (.var 10) (.var 11))], 85⟩]
     (.extp ⟨(.lookup 84 (.tmp 0) (.tmp 0) false), 3, [(.val 7), (.val 15)]⟩ (.int .i64) [⟨[(.sl 3 (.lit 0) (.var 4) (.var 5))], 22⟩, ⟨[(.val 7)], 84⟩, ⟨[(.sl 9 (.lit 0) (.var 10) (.var 11))], 85⟩]
     (.ret (.tup [(.sl 12 (.lit 0) (.var 13) (.var 14)), (.int .i64 (.var 16)), (.int .i64 (.lit 0))]) [⟨[(.sl 3 (.lit 0) (.var 4) (.var 5))], 22⟩, ⟨[(.val 7)], 84⟩, ⟨[(.sl 9 (.lit 0) (.var 10) (.var 11))], 85⟩])))))))))))))))
theorem S_analogy_Extend : FnIs Tryd.prog n_analogy_Extend [.sl, .sl] T_analogy_Extend := ⟨Tryd.f22, [{ key := 100003, tmps := [], join := true, dead := 71916836085023756 }], 4000, Tryd.func22, by kernel_rfl⟩
/-! 27 ablaut/ablautlaw30.good  -/
abbrev n_law30_good : FuncId := 27
def T_law30_good : Tree :=
 (.loop 0 [.bool, (.int .i64)] [(.bool (.lit false)), (.int .i64 (.lit 0))] [] []
  (.chk (.cmp .geq (.var 1) (.lit 0))
  (.ite (.cmp .lss (.var 4) (.var 1))
   (.chk (.pick (.cmp .geq (.var 4) (.lit 0)) (.pick (.cmp .lss (.var 4) (.var 1)) (.some 0) (.lit false)) (.lit false))
   (.load 0 (.off (.var 4) 1 (.lit 0)) [.sl] []
   (.chk (.cmp .geq (.var 6) (.lit 0))
   (.ite (.cmp .gtr (.var 6) (.lit 32))
    (.ret (.bool (.lit false)) [])
    (.chk (.pick (.cmp .geq (.var 4) (.lit 0)) (.pick (.cmp .lss (.var 4) (.var 1)) (.some 0) (.lit false)) (.lit false))
    (.load 0 (.off (.var 4) 1 (.lit 0)) [.sl] []
    (.call false 61 [(.sl 8 (.lit 0) (.var 9) (.var 10))] (.int .i64) []
    (.ite (.cmp .neq (.var 11) (.lit 0))
     (.ret (.bool (.lit false)) [])
     (.again 0 0 [.bool, (.int .i64)] [(.bool (.var 3)), (.int .i64 (.bin .add .i64 (.var 4) (.lit 1)))] [])))))))))
   (.ret (.bool (.lit true)) []))))
theorem S_law30_good : FnIs Tryd.prog n_law30_good [.sl] T_law30_good := ⟨Tryd.f27, [], 4000, Tryd.func27, by kernel_rfl⟩
/-! 31 ablaut/analogy.Holds  -/
abbrev n_analogy_Holds : FuncId := 31
def T_analogy_Holds : Tree :=
 (.alloc
 (.call false 47 [(.cst (.slice none 0 0)), (.slc 0 0 4 4)] (.int .i64) [⟨[(.sl 0 (.lit 0) (.var 1) (.var 2)), (.sl 3 (.lit 0) (.var 4) (.var 5)), (.sl 6 (.lit 0) (.var 7) (.var 8)), (.sl 9 (.lit 0) (.var 10) (.var 11))], 22⟩]
 (.ite (.cmp .neq (.var 12) (.lit 0))
  (.ret (.tup [(.bool (.lit false)), (.int .i64 (.var 12))]) [⟨[(.sl 0 (.lit 0) (.var 1) (.var 2)), (.sl 3 (.lit 0) (.var 4) (.var 5)), (.sl 6 (.lit 0) (.var 7) (.var 8)), (.sl 9 (.lit 0) (.var 10) (.var 11))], 22⟩])
  (.call false 65 [(.agg [(.sl 0 (.lit 0) (.var 1) (.var 2)), (.sl 3 (.lit 0) (.var 4) (.var 5))]), (.sl 6 (.lit 0) (.var 7) (.var 8)), (.sl 9 (.lit 0) (.var 10) (.var 11))] .bool [⟨[(.sl 0 (.lit 0) (.var 1) (.var 2)), (.sl 3 (.lit 0) (.var 4) (.var 5)), (.sl 6 (.lit 0) (.var 7) (.var 8)), (.sl 9 (.lit 0) (.var 10) (.var 11))], 22⟩]
  (.ret (.tup [(.bool (.var 13)), (.int .i64 (.lit 0))]) [⟨[(.sl 0 (.lit 0) (.var 1) (.var 2)), (.sl 3 (.lit 0) (.var 4) (.var 5)), (.sl 6 (.lit 0) (.var 7) (.var 8)), (.sl 9 (.lit 0) (.var 10) (.var 11))], 22⟩])))))
theorem S_analogy_Holds : FnIs Tryd.prog n_analogy_Holds [.sl, .sl, .sl, .sl] T_analogy_Holds := ⟨Tryd.f31, [], 4000, Tryd.func31, by kernel_rfl⟩
/-! 33 ablaut/ablautlaw30.join  -/
abbrev n_law30_join : FuncId := 33
def T_law30_join : Tree :=
 (.alloc
 (.ext false ⟨(.call ⟨.builtin .append, #[(.tmp 0), (.tmp 0)], #[22, 22]⟩), 22, [(.slc 0 0 0 0), (.sl 0 (.lit 0) (.var 1) (.var 2))]⟩ .sl [⟨[], 31⟩]
 (.ext false ⟨(.call ⟨.builtin .append, #[(.tmp 0), (.tmp 0)], #[22, 22]⟩), 22, [(.sl 6 (.lit 0) (.var 7) (.var 8)), (.sl 3 (.lit 0) (.var 4) (.var 5))]⟩ .sl [⟨[], 31⟩]
 (.ret (.sl 9 (.lit 0) (.var 10) (.var 11)) [⟨[], 31⟩]))))
theorem S_law30_join : FnIs Tryd.prog n_law30_join [.sl, .sl] T_law30_join := ⟨Tryd.f33, [], 4000, Tryd.func33, by kernel_rfl⟩
/-! 34 ablaut/analogy.Explain  -/
abbrev n_analogy_Explain : FuncId := 34
def T_analogy_Explain : Tree :=
 (.alloc
 (.alloc
 (.alloc
 (.call false 47 [(.sl 0 (.lit 0) (.var 1) (.var 2)), (.slc 2 0 2 2)] (.int .i64) [⟨[(.sl 3 (.lit 0) (.var 4) (.var 5))], 22⟩, ⟨[(.sl 6 (.lit 0) (.var 7) (.var 8))], 22⟩, ⟨[(.sl 3 (.lit 0) (.var 4) (.var 5)), (.sl 6 (.lit 0) (.var 7) (.var 8))], 22⟩]
 (.ite (.cmp .neq (.var 9) (.lit 0))
  (.ret (.tup [(.int .i64 (.lit 0)), (.bool (.lit false)), (.int .i64 (.var 9))]) [⟨[(.sl 3 (.lit 0) (.var 4) (.var 5))], 22⟩, ⟨[(.sl 6 (.lit 0) (.var 7) (.var 8))], 22⟩, ⟨[(.sl 3 (.lit 0) (.var 4) (.var 5)), (.sl 6 (.lit 0) (.var 7) (.var 8))], 22⟩])
  (.call false 67 [(.sl 0 (.lit 0) (.var 1) (.var 2)), (.fn (.func 68) [] [(.loc 0 0), (.loc 1 0)])] (.int .i64) [⟨[(.sl 3 (.lit 0) (.var 4) (.var 5))], 22⟩, ⟨[(.sl 6 (.lit 0) (.var 7) (.var 8))], 22⟩, ⟨[(.sl 3 (.lit 0) (.var 4) (.var 5)), (.sl 6 (.lit 0) (.var 7) (.var 8))], 22⟩]
  (.ret (.tup [(.int .i64 (.mx (.var 10) (.lit 0))), (.bool (.cmp .geq (.var 10) (.lit 0))), (.int .i64 (.lit 0))]) [⟨[(.sl 3 (.lit 0) (.var 4) (.var 5))], 22⟩, ⟨[(.sl 6 (.lit 0) (.var 7) (.var 8))], 22⟩, ⟨[(.sl 3 (.lit 0) (.var 4) (.var 5)), (.sl 6 (.lit 0) (.var 7) (.var 8))], 22⟩])))))))
theorem S_analogy_Explain : FnIs Tryd.prog n_analogy_Explain [.sl, .sl, .sl] T_analogy_Explain := ⟨Tryd.f34, [], 4000, Tryd.func34, by kernel_rfl⟩
/-! 36 ablaut/analogy.Count  -/
abbrev n_analogy_Count : FuncId := 36
def T_analogy_Count : Tree :=
 (.alloc
 (.call false 47 [(.sl 0 (.lit 0) (.var 1) (.var 2)), (.slc 0 0 2 2)] (.int .i64) [⟨[(.sl 3 (.lit 0) (.var 4) (.var 5)), (.sl 6 (.lit 0) (.var 7) (.var 8))], 22⟩]
 (.ite (.cmp .neq (.var 9) (.lit 0))
  (.ret (.tup [(.int .i64 (.lit 0)), (.int .i64 (.var 9))]) [⟨[(.sl 3 (.lit 0) (.var 4) (.var 5)), (.sl 6 (.lit 0) (.var 7) (.var 8))], 22⟩])
  (.chk (.cmp .geq (.var 1) (.lit 0))
  (.loop 0 [(.int .i64), (.int .i64)] [(.int .i64 (.lit 0)), (.int .i64 (.lit 0))] [⟨[(.sl 3 (.lit 0) (.var 4) (.var 5)), (.sl 6 (.lit 0) (.var 7) (.var 8))], 22⟩] [⟨[(.sl 3 (.lit 0) (.var 4) (.var 5)), (.sl 6 (.lit 0) (.var 7) (.var 8))], 22⟩]
   (.ite (.cmp .lss (.var 11) (.var 1))
    (.chk (.pick (.cmp .geq (.var 11) (.lit 0)) (.pick (.cmp .lss (.var 11) (.var 1)) (.some 0) (.lit false)) (.lit false))
    (.load 0 (.off (.var 11) 2 (.lit 0)) [.sl, .sl] [⟨[(.sl 3 (.lit 0) (.var 4) (.var 5)), (.sl 6 (.lit 0) (.var 7) (.var 8))], 22⟩]
    (.alloc
    (.call false 65 [(.agg [(.sl 12 (.lit 0) (.var 13) (.var 14)), (.sl 15 (.lit 0) (.var 16) (.var 17))]), (.sl 3 (.lit 0) (.var 4) (.var 5)), (.sl 6 (.lit 0) (.var 7) (.var 8))] .bool [⟨[(.sl 3 (.lit 0) (.var 4) (.var 5)), (.sl 6 (.lit 0) (.var 7) (.var 8))], 22⟩, ⟨[(.sl 12 (.lit 0) (.var 13) (.var 14)), (.sl 15 (.lit 0) (.var 16) (.var 17))], 69⟩]
    (.join 1 [(.int .i64)] [⟨[(.sl 3 (.lit 0) (.var 4) (.var 5)), (.sl 6 (.lit 0) (.var 7) (.var 8))], 22⟩, ⟨[(.sl 12 (.lit 0) (.var 13) (.var 14)), (.sl 15 (.lit 0) (.var 16) (.var 17))], 69⟩]
     (.ite (.var 18)
      (.again 1 2 [(.int .i64)] [(.int .i64 (.bin .add .i64 (.var 10) (.lit 1)))] [⟨[(.sl 3 (.lit 0) (.var 4) (.var 5)), (.sl 6 (.lit 0) (.var 7) (.var 8))], 22⟩, ⟨[(.sl 12 (.lit 0) (.var 13) (.var 14)), (.sl 15 (.lit 0) (.var 16) (.var 17))], 69⟩])
      (.again 1 2 [(.int .i64)] [(.int .i64 (.var 10))] [⟨[(.sl 3 (.lit 0) (.var 4) (.var 5)), (.sl 6 (.lit 0) (.var 7) (.var 8))], 22⟩, ⟨[(.sl 12 (.lit 0) (.var 13) (.var 14)), (.sl 15 (.lit 0) (.var 16) (.var 17))], 69⟩]))
    (.again 0 1 [(.int .i64), (.int .i64)] [(.int .i64 (.var 19)), (.int .i64 (.bin .add .i64 (.var 11) (.lit 1)))] [⟨[(.sl 3 (.lit 0) (.var 4) (.var 5)), (.sl 6 (.lit 0) (.var 7) (.var 8))], 22⟩, ⟨[(.sl 12 (.lit 0) (.var 13) (.var 14)), (.sl 15 (.lit 0) (.var 16) (.var 17))], 69⟩]))))))
    (.ret (.tup [(.int .i64 (.var 10)), (.int .i64 (.lit 0))]) [⟨[(.sl 3 (.lit 0) (.var 4) (.var 5)), (.sl 6 (.lit 0) (.var 7) (.var 8))], 22⟩])))))))
theorem S_analogy_Count : FnIs Tryd.prog n_analogy_Count [.sl, .sl, .sl] T_analogy_Count := ⟨Tryd.f36, [{ key := 9, tmps := [], join := true, dead := 16627004472 }], 4000, Tryd.func36, by kernel_rfl⟩
/-! 40 ablaut/ablautlaw30.spell  -/
abbrev n_law30_spell : FuncId := 40
def T_law30_spell : Tree :=
 (.loop 0 [.sl, (.int .i64)] [(.cst (.slice none 0 0)), (.int .i64 (.lit 0))] [] []
  (.extp ⟨(.call ⟨.builtin .len, #[(.tmp 0)], #[9]⟩), 3, [(.val 0)]⟩ (.int .i64) []
  (.ite (.cmp .lss (.var 4) (.var 5))
   (.extp ⟨(.index 9 (.tmp 0) (.tmp 0)), 5, [(.val 0), (.int .i64 (.var 4))]⟩ (.int .u8) []
   (.join 1 [.sl] []
    (.ite (.cmp .eql (.var 6) (.lit 112))
     (.alloc
     (.ext false ⟨(.call ⟨.builtin .append, #[(.tmp 0), (.tmp 0)], #[22, 22]⟩), 22, [(.sl 1 (.lit 0) (.var 2) (.var 3)), (.slc 0 0 1 1)]⟩ .sl [⟨[(.int .u32 (.lit 1)), (.int .u32 (.lit 2))], 31⟩]
     (.again 1 0 [.sl] [(.sl 7 (.lit 0) (.var 8) (.var 9))] [⟨[(.int .u32 (.lit 1)), (.int .u32 (.lit 2))], 31⟩])))
     (.join 2 [.sl] []
      (.ite (.cmp .eql (.var 6) (.lit 97))
       (.alloc
       (.ext false ⟨(.call ⟨.builtin .append, #[(.tmp 0), (.tmp 0)], #[22, 22]⟩), 22, [(.sl 1 (.lit 0) (.var 2) (.var 3)), (.slc 0 0 1 1)]⟩ .sl [⟨[(.int .u32 (.lit 2)), (.int .u32 (.lit 1))], 31⟩]
       (.again 2 0 [.sl] [(.sl 7 (.lit 0) (.var 8) (.var 9))] [⟨[(.int .u32 (.lit 2)), (.int .u32 (.lit 1))], 31⟩])))
       (.join 3 [.sl] []
        (.ite (.cmp .eql (.var 6) (.lit 116))
         (.alloc
         (.ext false ⟨(.call ⟨.builtin .append, #[(.tmp 0), (.tmp 0)], #[22, 22]⟩), 22, [(.sl 1 (.lit 0) (.var 2) (.var 3)), (.slc 0 0 1 1)]⟩ .sl [⟨[(.int .u32 (.lit 4)), (.int .u32 (.lit 0))], 31⟩]
         (.again 3 0 [.sl] [(.sl 7 (.lit 0) (.var 8) (.var 9))] [⟨[(.int .u32 (.lit 4)), (.int .u32 (.lit 0))], 31⟩])))
         (.join 4 [.sl] []
          (.ite (.cmp .eql (.var 6) (.lit 105))
           (.alloc
           (.ext false ⟨(.call ⟨.builtin .append, #[(.tmp 0), (.tmp 0)], #[22, 22]⟩), 22, [(.sl 1 (.lit 0) (.var 2) (.var 3)), (.slc 0 0 1 1)]⟩ .sl [⟨[(.int .u32 (.lit 6)), (.int .u32 (.lit 1))], 31⟩]
           (.again 4 0 [.sl] [(.sl 7 (.lit 0) (.var 8) (.var 9))] [⟨[(.int .u32 (.lit 6)), (.int .u32 (.lit 1))], 31⟩])))
           (.alloc
           (.ext false ⟨(.call ⟨.builtin .append, #[(.tmp 0), (.tmp 0)], #[22, 22]⟩), 22, [(.sl 1 (.lit 0) (.var 2) (.var 3)), (.slc 0 0 1 1)]⟩ .sl [⟨[(.int .u32 (.lit 0)), (.int .u32 (.lit 4))], 31⟩]
           (.again 4 0 [.sl] [(.sl 7 (.lit 0) (.var 8) (.var 9))] [⟨[(.int .u32 (.lit 0)), (.int .u32 (.lit 4))], 31⟩]))))
         (.again 3 0 [.sl] [(.sl 7 (.lit 0) (.var 8) (.var 9))] [])))
       (.again 2 0 [.sl] [(.sl 7 (.lit 0) (.var 8) (.var 9))] [])))
     (.again 1 0 [.sl] [(.sl 7 (.lit 0) (.var 8) (.var 9))] [])))
   (.again 0 0 [.sl, (.int .i64)] [(.sl 7 (.lit 0) (.var 8) (.var 9)), (.int .i64 (.bin .add .i64 (.var 4) (.lit 1)))] [])))
   (.ret (.sl 1 (.lit 0) (.var 2) (.var 3)) []))))
theorem S_law30_spell : FnIs Tryd.prog n_law30_spell [.val] T_law30_spell := ⟨Tryd.f40, [{ key := 8, tmps := [], join := true, dead := 8726282755810 }, { key := 10, tmps := [], join := true }, { key := 12, tmps := [], join := true }, { key := 14, tmps := [], join := true }], 4000, Tryd.func40, by kernel_rfl⟩
/-! 41 ablaut/ablautlaw30.pair  -/
abbrev n_law30_pair : FuncId := 41
def T_law30_pair : Tree :=
 (.alloc
 (.call false 40 [(.val 0)] .sl [⟨[(.cst (.slice none 0 0)), (.cst (.slice none 0 0))], 69⟩]
 (.call false 40 [(.val 1)] .sl [⟨[(.cst (.slice none 0 0)), (.cst (.slice none 0 0))], 69⟩]
 (.ret (.agg [(.sl 2 (.lit 0) (.var 3) (.var 4)), (.sl 5 (.lit 0) (.var 6) (.var 7))]) [⟨[(.sl 2 (.lit 0) (.var 3) (.var 4)), (.sl 5 (.lit 0) (.var 6) (.var 7))], 69⟩]))))
theorem S_law30_pair : FnIs Tryd.prog n_law30_pair [.val, .val] T_law30_pair := ⟨Tryd.f41, [], 4000, Tryd.func41, by kernel_rfl⟩
/-! 42 ablaut/ablautlaw30.row  -/
abbrev n_law30_row : FuncId := 42
def T_law30_row : Tree :=
 (.loop 0 [.sl, (.int .i64)] [(.cst (.slice none 0 0)), (.int .i64 (.lit 0))] [] []
  (.chk (.cmp .geq (.var 1) (.lit 0))
  (.ite (.cmp .lss (.var 6) (.var 1))
   (.chk (.pick (.cmp .geq (.var 6) (.lit 0)) (.pick (.cmp .lss (.var 6) (.var 1)) (.some 0) (.lit false)) (.lit false))
   (.load 0 (.off (.var 6) 1 (.lit 0)) [.val] []
   (.extp ⟨(.binOp .eql 9 (.tmp 0) (.const (.bool true)) 9), 4, [(.val 7), (.cst (.string ⟨#[45]⟩))]⟩ .bool []
   (.join 1 [.sl] []
    (.ite (.var 8)
     (.alloc
     (.ext false ⟨(.call ⟨.builtin .append, #[(.tmp 0), (.tmp 0)], #[39, 39]⟩), 39, [(.sl 3 (.lit 0) (.var 4) (.var 5)), (.slc 0 0 1 1)]⟩ .sl [⟨[(.bool (.lit false)), (.cst (.slice none 0 0))], 41⟩]
     (.again 1 0 [.sl] [(.sl 9 (.lit 0) (.var 10) (.var 11))] [⟨[(.bool (.lit false)), (.cst (.slice none 0 0))], 41⟩])))
     (.chk (.pick (.cmp .geq (.var 6) (.lit 0)) (.pick (.cmp .lss (.var 6) (.var 1)) (.some 0) (.lit false)) (.lit false))
     (.load 0 (.off (.var 6) 1 (.lit 0)) [.val] []
     (.call false 40 [(.val 9)] .sl []
     (.alloc
     (.ext false ⟨(.call ⟨.builtin .append, #[(.tmp 0), (.tmp 0)], #[39, 39]⟩), 39, [(.sl 3 (.lit 0) (.var 4) (.var 5)), (.slc 0 0 1 1)]⟩ .sl [⟨[(.bool (.lit true)), (.sl 10 (.lit 0) (.var 11) (.var 12))], 41⟩]
     (.again 1 0 [.sl] [(.sl 13 (.lit 0) (.var 14) (.var 15))] [⟨[(.bool (.lit true)), (.sl 10 (.lit 0) (.var 11) (.var 12))], 41⟩])))))))
   (.again 0 0 [.sl, (.int .i64)] [(.sl 9 (.lit 0) (.var 10) (.var 11)), (.int .i64 (.bin .add .i64 (.var 6) (.lit 1)))] [])))))
   (.ret (.sl 3 (.lit 0) (.var 4) (.var 5)) []))))
theorem S_law30_row : FnIs Tryd.prog n_law30_row [.sl] T_law30_row := ⟨Tryd.f42, [{ key := 6, tmps := [], join := true, dead := 1073708770 }], 4000, Tryd.func42, by kernel_rfl⟩
/-! 43 ablaut/analogy.one  -/
abbrev n_analogy_one : FuncId := 43
def T_analogy_one : Tree :=
 (.alloc
 (.alloc
 (.call false 47 [(.cst (.slice none 0 0)), (.slc 1 0 3 3)] (.int .i64) [⟨[(.val 0), (.val 1)], 80⟩, ⟨[(.sl 2 (.lit 0) (.var 3) (.var 4)), (.sl 5 (.lit 0) (.var 6) (.var 7)), (.sl 8 (.lit 0) (.var 9) (.var 10))], 22⟩]
 (.ite (.cmp .neq (.var 11) (.lit 0))
  (.ret (.tup [(.cst (.slice none 0 0)), (.bool (.lit false)), (.int .i64 (.var 11))]) [⟨[(.val 0), (.val 1)], 80⟩, ⟨[(.sl 2 (.lit 0) (.var 3) (.var 4)), (.sl 5 (.lit 0) (.var 6) (.var 7)), (.sl 8 (.lit 0) (.var 9) (.var 10))], 22⟩])
  (.call false 72 [(.agg [(.val 0), (.val 1)]), (.sl 2 (.lit 0) (.var 3) (.var 4)), (.sl 5 (.lit 0) (.var 6) (.var 7)), (.sl 8 (.lit 0) (.var 9) (.var 10))] (.tup [.sl, .bool]) [⟨[(.val 0), (.val 1)], 80⟩, ⟨[(.sl 2 (.lit 0) (.var 3) (.var 4)), (.sl 5 (.lit 0) (.var 6) (.var 7)), (.sl 8 (.lit 0) (.var 9) (.var 10))], 22⟩]
  (.chk (.cmp .geq (.var 13) (.lit 0))
  (.ite (.cmp .gtr (.var 13) (.lit 32))
   (.ret (.tup [(.cst (.slice none 0 0)), (.bool (.lit false)), (.int .i64 (.lit 11))]) [⟨[(.val 0), (.val 1)], 80⟩, ⟨[(.sl 2 (.lit 0) (.var 3) (.var 4)), (.sl 5 (.lit 0) (.var 6) (.var 7)), (.sl 8 (.lit 0) (.var 9) (.var 10))], 22⟩])
   (.ret (.tup [(.sl 12 (.lit 0) (.var 13) (.var 14)), (.bool (.var 15)), (.int .i64 (.lit 0))]) [⟨[(.val 0), (.val 1)], 80⟩, ⟨[(.sl 2 (.lit 0) (.var 3) (.var 4)), (.sl 5 (.lit 0) (.var 6) (.var 7)), (.sl 8 (.lit 0) (.var 9) (.var 10))], 22⟩]))))))))
theorem S_analogy_one : FnIs Tryd.prog n_analogy_one [(.agg [.val, .val]), .sl, .sl, .sl] T_analogy_one := ⟨Tryd.f43, [], 4000, Tryd.func43, by kernel_rfl⟩
/-! 47 ablaut/analogy.check  -/
abbrev n_analogy_check : FuncId := 47
def T_analogy_check : Tree :=
 (.chk (.cmp .geq (.var 1) (.lit 0))
 (.ite (.cmp .gtr (.var 1) (.lit 256))
  (.ret (.int .i64 (.lit 12)) [])
  (.chk (.cmp .geq (.var 1) (.lit 0))
  (.loop 0 [(.int .i64), (.int .i64)] [(.int .i64 (.lit 0)), (.int .i64 (.lit 0))] [] []
   (.ite (.cmp .lss (.var 7) (.var 1))
    (.chk (.pick (.cmp .geq (.var 7) (.lit 0)) (.pick (.cmp .lss (.var 7) (.var 1)) (.some 0) (.lit false)) (.lit false))
    (.load 0 (.off (.var 7) 2 (.lit 0)) [.sl, .sl] []
    (.alloc
    (.alloc
    (.call false 47 [(.cst (.slice none 0 0)), (.slc 1 0 2 2)] (.int .i64) [⟨[(.sl 8 (.lit 0) (.var 9) (.var 10)), (.sl 11 (.lit 0) (.var 12) (.var 13))], 69⟩, ⟨[(.sl 8 (.lit 0) (.var 9) (.var 10)), (.sl 11 (.lit 0) (.var 12) (.var 13))], 22⟩]
    (.ite (.cmp .neq (.var 14) (.lit 0))
     (.ret (.int .i64 (.var 14)) [⟨[(.sl 8 (.lit 0) (.var 9) (.var 10)), (.sl 11 (.lit 0) (.var 12) (.var 13))], 69⟩, ⟨[(.sl 8 (.lit 0) (.var 9) (.var 10)), (.sl 11 (.lit 0) (.var 12) (.var 13))], 22⟩])
     (.again 0 0 [(.int .i64), (.int .i64)] [(.int .i64 (.var 6)), (.int .i64 (.bin .add .i64 (.var 7) (.lit 1)))] [⟨[(.sl 8 (.lit 0) (.var 9) (.var 10)), (.sl 11 (.lit 0) (.var 12) (.var 13))], 69⟩, ⟨[(.sl 8 (.lit 0) (.var 9) (.var 10)), (.sl 11 (.lit 0) (.var 12) (.var 13))], 22⟩])))))))
    (.chk (.cmp .geq (.var 4) (.lit 0))
    (.loop 0 [(.int .i64), (.int .i64)] [(.int .i64 (.var 6)), (.int .i64 (.lit 0))] [] []
     (.ite (.cmp .lss (.var 9) (.var 4))
      (.chk (.pick (.cmp .geq (.var 9) (.lit 0)) (.pick (.cmp .lss (.var 9) (.var 4)) (.some 3) (.lit false)) (.lit false))
      (.load 3 (.off (.var 9) 1 (.lit 0)) [.sl] []
      (.call false 61 [(.sl 10 (.lit 0) (.var 11) (.var 12))] (.int .i64) []
      (.ite (.cmp .neq (.var 13) (.lit 0))
       (.ret (.int .i64 (.var 13)) [])
       (.again 0 0 [(.int .i64), (.int .i64)] [(.int .i64 (.var 8)), (.int .i64 (.bin .add .i64 (.var 9) (.lit 1)))] [])))))
      (.ret (.int .i64 (.lit 0)) [])))))))))
theorem S_analogy_check : FnIs Tryd.prog n_analogy_check [.sl, .sl] T_analogy_check := ⟨Tryd.f47, [], 4000, Tryd.func47, by kernel_rfl⟩
/-! 48 ablaut/analogy.results  -/
abbrev n_analogy_results : FuncId := 48
def T_analogy_results : Tree :=
 (.alloc
 (.alloc
 (.ret (.fn (.func 75) [] [(.loc 0 0), (.loc 1 0)]) [⟨[(.sl 0 (.lit 0) (.var 1) (.var 2)), (.sl 3 (.lit 0) (.var 4) (.var 5))], 69⟩, ⟨[(.sl 6 (.lit 0) (.var 7) (.var 8))], 22⟩])))
theorem S_analogy_results : FnIs Tryd.prog n_analogy_results [(.agg [.sl, .sl]), .sl] T_analogy_results := ⟨Tryd.f48, [], 4000, Tryd.func48, by kernel_rfl⟩
/-! 49 ablaut/analogy.key BAD [cases] -/
abbrev n_analogy_key : FuncId := 49
def T_analogy_key : Tree :=
 (.chk (.cmp .geq (.var 1) (.lit 0))
 (.loop 0 [.sl, (.int .i64)] [(.cst (.slice none 0 0)), (.int .i64 (.lit 0))] [] []
  (.ite (.cmp .lss (.var 6) (.var 1))
   (.chk (.pick (.cmp .geq (.var 6) (.lit 0)) (.pick (.cmp .lss (.var 6) (.var 1)) (.some 0) (.lit false)) (.lit false))
   (.load 0 (.off (.var 6) 2 (.lit 0)) [(.int .u32), (.int .u32)] []
   (.alloc
   (.loop 1 [.sl, (.int .i64)] [(.sl 3 (.lit 0) (.var 4) (.var 5)), (.int .i64 (.lit 0))] [⟨[(.int .u32 (.var 7)), (.int .u32 (.var 8))], 31⟩] [⟨[(.int .u32 (.var 7)), (.int .u32 (.var 8))], 31⟩]
    (.ite (.cmp .lss (.var 12) (.lit 2))
     (.chk (.cmp .leq (.lit 0) (.var 12))
     (.chk (.cmp .lss (.var 12) (.lit 2))
     (.ite (.cmp .eql (.var 12) (.lit 0))
      (.alloc
      (.ext false ⟨(.call ⟨.builtin .append, #[(.tmp 0), (.tmp 0)], #[107, 107]⟩), 107, [(.sl 9 (.lit 0) (.var 10) (.var 11)), (.slc 1 0 3 3)]⟩ .sl [⟨[(.int .u32 (.var 7)), (.int .u32 (.var 8))], 31⟩, ⟨[(.int .u8 (.conv .u8 (.var 7))), (.int .u8 (.conv .u8 (.bin .shr .u32 (.var 7) (.lit 8)))), (.int .u8 (.conv .u8 (.bin .shr .u32 (.var 7) (.lit 16))))], 5⟩]
      (.again 1 1 [.sl, (.int .i64)] [(.sl 13 (.lit 0) (.var 14) (.var 15)), (.int .i64 (.bin .add .i64 (.var 12) (.lit 1)))] [⟨[(.int .u32 (.var 7)), (.int .u32 (.var 8))], 31⟩, ⟨[(.int .u8 (.conv .u8 (.var 7))), (.int .u8 (.conv .u8 (.bin .shr .u32 (.var 7) (.lit 8)))), (.int .u8 (.conv .u8 (.bin .shr .u32 (.var 7) (.lit 16))))], 5⟩])))
      (.ite (.cmp .eql (.var 12) (.lit 1))
       (.alloc
       (.ext false ⟨(.call ⟨.builtin .append, #[(.tmp 0), (.tmp 0)], #[107, 107]⟩), 107, [(.sl 9 (.lit 0) (.var 10) (.var 11)), (.slc 1 0 3 3)]⟩ .sl [⟨[(.int .u32 (.var 7)), (.int .u32 (.var 8))], 31⟩, ⟨[(.int .u8 (.conv .u8 (.var 8))), (.int .u8 (.conv .u8 (.bin .shr .u32 (.var 8) (.lit 8)))), (.int .u8 (.conv .u8 (.bin .shr .u32 (.var 8) (.lit 16))))], 5⟩]
       (.again 1 1 [.sl, (.int .i64)] [(.sl 13 (.lit 0) (.var 14) (.var 15)), (.int .i64 (.bin .add .i64 (.var 12) (.lit 1)))] [⟨[(.int .u32 (.var 7)), (.int .u32 (.var 8))], 31⟩, ⟨[(.int .u8 (.conv .u8 (.var 8))), (.int .u8 (.conv .u8 (.bin .shr .u32 (.var 8) (.lit 8)))), (.int .u8 (.conv .u8 (.bin .shr .u32 (.var 8) (.lit 16))))], 5⟩])))
       (.bad "cases")))))
     (.again 0 0 [.sl, (.int .i64)] [(.sl 9 (.lit 0) (.var 10) (.var 11)), (.int .i64 (.bin .add .i64 (.var 6) (.lit 1)))] [⟨[(.int .u32 (.var 7)), (.int .u32 (.var 8))], 31⟩]))))))
   (.extp ⟨(.convert 107 9 (.tmp 0)), 9, [(.sl 3 (.lit 0) (.var 4) (.var 5))]⟩ .val []
   (.ret (.val 7) [])))))
theorem S_analogy_key : FnIs Tryd.prog n_analogy_key [.sl] T_analogy_key := ⟨Tryd.f49, [], 4000, Tryd.func49, by kernel_rfl⟩
/-! 50 slices.MinFunc[[][]ablaut/api.Sound,[]ablaut/api.Sound] BAD [ext sort.go:81] -/
abbrev n_slices_MinFunc_____api_Sound___api_Sound_ : FuncId := 50
def T_slices_MinFunc_____api_Sound___api_Sound_ : Tree :=
 (.chk (.cmp .geq (.var 1) (.lit 0))
 (.join 0 [] []
  (.ite (.cmp .lss (.var 1) (.lit 1))
   (.bad "ext sort.go:81")
   (.again 0 0 [] [] []))
 (.chk (.pick (.cmp .lss (.lit 0) (.var 1)) (.some 0) (.lit false))
 (.load 0 (.lit 0) [.sl] []
 (.loop 0 [.sl, (.int .i64)] [(.sl 4 (.lit 0) (.var 5) (.var 6)), (.int .i64 (.lit 1))] [] []
  (.chk (.cmp .geq (.var 1) (.lit 0))
  (.ite (.cmp .lss (.var 10) (.var 1))
   (.chk (.pick (.cmp .geq (.var 10) (.lit 0)) (.pick (.cmp .lss (.var 10) (.var 1)) (.some 0) (.lit false)) (.lit false))
   (.load 0 (.off (.var 10) 1 (.lit 0)) [.sl] []
   (.callv false (.val 3) [(.sl 11 (.lit 0) (.var 12) (.var 13)), (.sl 7 (.lit 0) (.var 8) (.var 9))] (.int .i64) []
   (.join 1 [.sl] []
    (.ite (.cmp .lss (.var 14) (.lit 0))
     (.chk (.pick (.cmp .geq (.var 10) (.lit 0)) (.pick (.cmp .lss (.var 10) (.var 1)) (.some 0) (.lit false)) (.lit false))
     (.load 0 (.off (.var 10) 1 (.lit 0)) [.sl] []
     (.again 1 0 [.sl] [(.sl 15 (.lit 0) (.var 16) (.var 17))] [])))
     (.again 1 0 [.sl] [(.sl 7 (.lit 0) (.var 8) (.var 9))] []))
   (.again 0 0 [.sl, (.int .i64)] [(.sl 15 (.lit 0) (.var 16) (.var 17)), (.int .i64 (.bin .add .i64 (.var 10) (.lit 1)))] [])))))
   (.ret (.sl 7 (.lit 0) (.var 8) (.var 9)) []))))))))
theorem S_slices_MinFunc_____api_Sound___api_Sound_ : FnIs Tryd.prog n_slices_MinFunc_____api_Sound___api_Sound_ [.sl, .val] T_slices_MinFunc_____api_Sound___api_Sound_ := ⟨Tryd.f50, [{ key := 2, tmps := [], join := true, dead := 8455585164 }, { key := 8, tmps := [], join := true }], 4000, Tryd.func50, by kernel_rfl⟩
/-! 51 ablaut/analogy.Extend$1  -/
abbrev n_analogy_Extend_1 : FuncId := 51
def T_analogy_Extend_1 : Tree :=
 (.load 6 (.lit 0) [.val] []
 (.load 6 (.lit 0) [.val] []
 (.call true 49 [(.sl 3 (.lit 0) (.var 4) (.var 5))] .val []
 (.extp ⟨(.lookup 84 (.tmp 0) (.tmp 0) false), 3, [(.val 7), (.val 9)]⟩ (.int .i64) []
 (.call true 49 [(.sl 0 (.lit 0) (.var 1) (.var 2))] .val []
 (.extp ⟨(.lookup 84 (.tmp 0) (.tmp 0) false), 3, [(.val 8), (.val 11)]⟩ (.int .i64) []
 (.ite (.cmp .neq (.bin .sub .i64 (.var 10) (.var 12)) (.lit 0))
  (.ret (.int .i64 (.bin .sub .i64 (.var 10) (.var 12))) [])
  (.call false 38 [(.sl 0 (.lit 0) (.var 1) (.var 2)), (.sl 3 (.lit 0) (.var 4) (.var 5))] (.int .i64) []
  (.ret (.int .i64 (.var 13)) [])))))))))
theorem S_analogy_Extend_1 : FnIs Tryd.prog n_analogy_Extend_1 [.sl, .sl, .ptr] T_analogy_Extend_1 := ⟨Tryd.f51, [], 4000, Tryd.func51, by kernel_rfl⟩
/-! 65 ablaut/analogy.supports  -/
abbrev n_analogy_supports : FuncId := 65
def T_analogy_supports : Tree :=
 (.alloc
 (.alloc
 (.alloc
 (.call false 48 [(.agg [(.sl 0 (.lit 0) (.var 1) (.var 2)), (.sl 3 (.lit 0) (.var 4) (.var 5))]), (.sl 6 (.lit 0) (.var 7) (.var 8))] .val [⟨[(.sl 0 (.lit 0) (.var 1) (.var 2)), (.sl 3 (.lit 0) (.var 4) (.var 5))], 69⟩, ⟨[(.sl 9 (.lit 0) (.var 10) (.var 11))], 22⟩, ⟨[(.bool (.lit false))], 4⟩]
 (.range (.val 12) [.sl] [.bool] [(.bool (.lit false))] [⟨[(.sl 0 (.lit 0) (.var 1) (.var 2)), (.sl 3 (.lit 0) (.var 4) (.var 5))], 69⟩, ⟨[(.sl 9 (.lit 0) (.var 10) (.var 11))], 22⟩, ⟨[(.bool (.lit false))], 4⟩] [⟨[(.sl 0 (.lit 0) (.var 1) (.var 2)), (.sl 3 (.lit 0) (.var 4) (.var 5))], 69⟩, ⟨[(.sl 9 (.lit 0) (.var 10) (.var 11))], 22⟩, ⟨[(.bool (.var 13))], 4⟩]
  (.call false 29 [(.sl 14 (.lit 0) (.var 15) (.var 16)), (.sl 9 (.lit 0) (.var 10) (.var 11))] .bool [⟨[(.sl 0 (.lit 0) (.var 1) (.var 2)), (.sl 3 (.lit 0) (.var 4) (.var 5))], 69⟩, ⟨[(.sl 9 (.lit 0) (.var 10) (.var 11))], 22⟩, ⟨[(.bool (.var 13))], 4⟩]
  (.ite (.var 17)
   (.leave 1 3 [.bool] [(.bool (.lit true))] [⟨[(.sl 0 (.lit 0) (.var 1) (.var 2)), (.sl 3 (.lit 0) (.var 4) (.var 5))], 69⟩, ⟨[(.sl 9 (.lit 0) (.var 10) (.var 11))], 22⟩, ⟨[(.bool (.lit true))], 4⟩])
   (.leave 0 3 [.bool] [(.bool (.var 13))] [⟨[(.sl 0 (.lit 0) (.var 1) (.var 2)), (.sl 3 (.lit 0) (.var 4) (.var 5))], 69⟩, ⟨[(.sl 9 (.lit 0) (.var 10) (.var 11))], 22⟩, ⟨[(.bool (.var 13))], 4⟩])))
  (.ite (.cmp .eql (.var 14) (.lit 1))
   (.ret (.bool (.var 13)) [⟨[(.sl 0 (.lit 0) (.var 1) (.var 2)), (.sl 3 (.lit 0) (.var 4) (.var 5))], 69⟩, ⟨[(.sl 9 (.lit 0) (.var 10) (.var 11))], 22⟩, ⟨[(.bool (.var 13))], 4⟩])
   (.ret (.bool (.lit false)) [⟨[(.sl 0 (.lit 0) (.var 1) (.var 2)), (.sl 3 (.lit 0) (.var 4) (.var 5))], 69⟩, ⟨[(.sl 9 (.lit 0) (.var 10) (.var 11))], 22⟩, ⟨[(.bool (.lit false))], 4⟩])))))))
theorem S_analogy_supports : FnIs Tryd.prog n_analogy_supports [(.agg [.sl, .sl]), .sl, .sl] T_analogy_supports := ⟨Tryd.f65, [], 4000, Tryd.func65, by kernel_rfl⟩
/-! 67 slices.IndexFunc[[]ablaut/api.Pair,ablaut/api.Pair]  -/
abbrev n_slices_IndexFunc___api_Pair_api_Pair_ : FuncId := 67
def T_slices_IndexFunc___api_Pair_api_Pair_ : Tree :=
 (.chk (.cmp .geq (.var 1) (.lit 0))
 (.loop 0 [(.int .i64), (.int .i64)] [(.int .i64 (.lit 0)), (.int .i64 (.lit 0))] [] []
  (.ite (.cmp .lss (.var 5) (.var 1))
   (.chk (.pick (.cmp .geq (.var 5) (.lit 0)) (.pick (.cmp .lss (.var 5) (.var 1)) (.some 0) (.lit false)) (.lit false))
   (.load 0 (.off (.var 5) 2 (.lit 0)) [.sl, .sl] []
   (.callv false (.val 3) [(.agg [(.sl 6 (.lit 0) (.var 7) (.var 8)), (.sl 9 (.lit 0) (.var 10) (.var 11))])] .bool []
   (.ite (.var 12)
    (.ret (.int .i64 (.var 5)) [])
    (.again 0 0 [(.int .i64), (.int .i64)] [(.int .i64 (.var 4)), (.int .i64 (.bin .add .i64 (.var 5) (.lit 1)))] [])))))
   (.ret (.int .i64 (.lit (-1))) []))))
theorem S_slices_IndexFunc___api_Pair_api_Pair_ : FnIs Tryd.prog n_slices_IndexFunc___api_Pair_api_Pair_ [.sl, .val] T_slices_IndexFunc___api_Pair_api_Pair_ := ⟨Tryd.f67, [], 4000, Tryd.func67, by kernel_rfl⟩
/-! 68 ablaut/analogy.Explain$1  -/
abbrev n_analogy_Explain_1 : FuncId := 68
def T_analogy_Explain_1 : Tree :=
 (.alloc
 (.load 6 (.lit 0) [.sl] [⟨[(.sl 0 (.lit 0) (.var 1) (.var 2)), (.sl 3 (.lit 0) (.var 4) (.var 5))], 69⟩]
 (.load 7 (.lit 0) [.sl] [⟨[(.sl 0 (.lit 0) (.var 1) (.var 2)), (.sl 3 (.lit 0) (.var 4) (.var 5))], 69⟩]
 (.call false 65 [(.agg [(.sl 0 (.lit 0) (.var 1) (.var 2)), (.sl 3 (.lit 0) (.var 4) (.var 5))]), (.sl 8 (.lit 0) (.var 9) (.var 10)), (.sl 11 (.lit 0) (.var 12) (.var 13))] .bool [⟨[(.sl 0 (.lit 0) (.var 1) (.var 2)), (.sl 3 (.lit 0) (.var 4) (.var 5))], 69⟩]
 (.ret (.bool (.var 14)) [⟨[(.sl 0 (.lit 0) (.var 1) (.var 2)), (.sl 3 (.lit 0) (.var 4) (.var 5))], 69⟩])))))
theorem S_analogy_Explain_1 : FnIs Tryd.prog n_analogy_Explain_1 [(.agg [.sl, .sl]), .ptr, .ptr] T_analogy_Explain_1 := ⟨Tryd.f68, [], 4000, Tryd.func68, by kernel_rfl⟩
/-! 72 (ablaut/analogy.change).solve  -/
abbrev n__analogy_change__solve : FuncId := 72
def T__analogy_change__solve : Tree :=
 (.alloc
 (.callv false (.val 0) [(.sl 2 (.lit 0) (.var 3) (.var 4)), (.sl 5 (.lit 0) (.var 6) (.var 7))] (.tup [.sl, .sl]) [⟨[(.val 0), (.val 1)], 80⟩]
 (.callv false (.val 1) [(.sl 11 (.lit 0) (.var 12) (.var 13)), (.sl 14 (.lit 0) (.var 15) (.var 16)), (.sl 8 (.lit 0) (.var 9) (.var 10))] (.tup [.sl, .bool]) [⟨[(.val 0), (.val 1)], 80⟩]
 (.ret (.tup [(.sl 17 (.lit 0) (.var 18) (.var 19)), (.bool (.var 20))]) [⟨[(.val 0), (.val 1)], 80⟩]))))
theorem S__analogy_change__solve : FnIs Tryd.prog n__analogy_change__solve [(.agg [.val, .val]), .sl, .sl, .sl] T__analogy_change__solve := ⟨Tryd.f72, [], 4000, Tryd.func72, by kernel_rfl⟩
/-! 75 ablaut/analogy.results$1  -/
abbrev n_analogy_results_1 : FuncId := 75
def T_analogy_results_1 : Tree :=
 (.extp ⟨(.load 80 (.tmp 0)), 80, [(.cst (.pointer (some ⟨0, 0, none⟩)))]⟩ (.agg [.val, .val]) []
 (.chk (.some 1)
 (.load 1 (.lit 0) [.sl] []
 (.chk (.some 1)
 (.load 1 (.lit 1) [.sl] []
 (.load 2 (.lit 0) [.sl] []
 (.call false 72 [(.agg [(.val 3), (.val 4)]), (.sl 5 (.lit 0) (.var 6) (.var 7)), (.sl 8 (.lit 0) (.var 9) (.var 10)), (.sl 11 (.lit 0) (.var 12) (.var 13))] (.tup [.sl, .bool]) []
 (.ite (.var 17)
  (.callv false (.val 0) [(.sl 14 (.lit 0) (.var 15) (.var 16))] .bool []
  (.ite (.not (.var 18))
   (.ret (.tup []) [])
   (.extp ⟨(.load 80 (.tmp 0)), 80, [(.cst (.pointer (some ⟨1, 0, none⟩)))]⟩ (.agg [.val, .val]) []
   (.chk (.some 1)
   (.load 1 (.lit 0) [.sl] []
   (.chk (.some 1)
   (.load 1 (.lit 1) [.sl] []
   (.load 2 (.lit 0) [.sl] []
   (.call false 72 [(.agg [(.val 19), (.val 20)]), (.sl 21 (.lit 0) (.var 22) (.var 23)), (.sl 24 (.lit 0) (.var 25) (.var 26)), (.sl 27 (.lit 0) (.var 28) (.var 29))] (.tup [.sl, .bool]) []
   (.ite (.var 33)
    (.call false 29 [(.sl 14 (.lit 0) (.var 15) (.var 16)), (.sl 30 (.lit 0) (.var 31) (.var 32))] .bool []
    (.ite (.not (.var 34))
     (.callv false (.val 0) [(.sl 30 (.lit 0) (.var 31) (.var 32))] .bool []
     (.ret (.tup []) []))
     (.ret (.tup []) [])))
    (.ret (.tup []) [])))))))))))
  (.extp ⟨(.load 80 (.tmp 0)), 80, [(.cst (.pointer (some ⟨1, 0, none⟩)))]⟩ (.agg [.val, .val]) []
  (.chk (.some 1)
  (.load 1 (.lit 0) [.sl] []
  (.chk (.some 1)
  (.load 1 (.lit 1) [.sl] []
  (.load 2 (.lit 0) [.sl] []
  (.call false 72 [(.agg [(.val 18), (.val 19)]), (.sl 20 (.lit 0) (.var 21) (.var 22)), (.sl 23 (.lit 0) (.var 24) (.var 25)), (.sl 26 (.lit 0) (.var 27) (.var 28))] (.tup [.sl, .bool]) []
  (.ite (.pick (.var 32) (.lit true) (.lit false))
   (.callv false (.val 0) [(.sl 29 (.lit 0) (.var 30) (.var 31))] .bool []
   (.ret (.tup []) []))
   (.ret (.tup []) [])))))))))))))))))
theorem S_analogy_results_1 : FnIs Tryd.prog n_analogy_results_1 [.val, .ptr, .ptr] T_analogy_results_1 := ⟨Tryd.f75, [], 4000, Tryd.func75, by kernel_rfl⟩
/-! 107 ablaut/analogy.ending$1  -/
abbrev n_analogy_ending_1 : FuncId := 107
def T_analogy_ending_1 : Tree :=
 (.call false 28 [(.sl 0 (.lit 0) (.var 1) (.var 2)), (.sl 3 (.lit 0) (.var 4) (.var 5))] (.tup [(.int .i64), (.int .i64)]) []
 (.chk (.pick (.cmp .leq (.lit 0) (.var 6)) (.pick (.cmp .leq (.var 6) (.var 1)) (.cmp .leq (.var 1) (.var 2)) (.lit false)) (.lit false))
 (.chk (.pick (.cmp .leq (.lit 0) (.var 6)) (.pick (.cmp .leq (.var 6) (.var 4)) (.cmp .leq (.var 4) (.var 5)) (.lit false)) (.lit false))
 (.ret (.tup [(.sl 0 (.ifeq (.var 2) (.var 6) (.lit 0) (.off (.var 6) 2 (.lit 0))) (.dif (.var 1) (.var 6)) (.dif (.var 2) (.var 6))), (.sl 3 (.ifeq (.var 5) (.var 6) (.lit 0) (.off (.var 6) 2 (.lit 0))) (.dif (.var 4) (.var 6)) (.dif (.var 5) (.var 6)))]) []))))
theorem S_analogy_ending_1 : FnIs Tryd.prog n_analogy_ending_1 [.sl, .sl] T_analogy_ending_1 := ⟨Tryd.f107, [], 4000, Tryd.func107, by kernel_rfl⟩
/-! 108 ablaut/analogy.ending$2  -/
abbrev n_analogy_ending_2 : FuncId := 108
def T_analogy_ending_2 : Tree :=
 (.chk (.cmp .geq (.var 7) (.lit 0))
 (.chk (.cmp .geq (.var 1) (.lit 0))
 (.ite (.cmp .lss (.bin .sub .i64 (.var 7) (.var 1)) (.lit 0))
  (.ret (.tup [(.cst (.slice none 0 0)), (.bool (.lit false))]) [])
  (.chk (.pick (.cmp .leq (.lit 0) (.bin .sub .i64 (.var 7) (.var 1))) (.pick (.cmp .leq (.bin .sub .i64 (.var 7) (.var 1)) (.var 7)) (.cmp .leq (.var 7) (.var 8)) (.lit false)) (.lit false))
  (.call false 29 [(.sl 6 (.ifeq (.var 8) (.bin .sub .i64 (.var 7) (.var 1)) (.lit 0) (.off (.bin .sub .i64 (.var 7) (.var 1)) 2 (.lit 0))) (.dif (.var 7) (.bin .sub .i64 (.var 7) (.var 1))) (.dif (.var 8) (.bin .sub .i64 (.var 7) (.var 1)))), (.sl 0 (.lit 0) (.var 1) (.var 2))] .bool []
  (.ite (.not (.var 9))
   (.ret (.tup [(.cst (.slice none 0 0)), (.bool (.lit false))]) [])
   (.chk (.pick (.cmp .leq (.lit 0) (.bin .sub .i64 (.var 7) (.var 1))) (.cmp .leq (.bin .sub .i64 (.var 7) (.var 1)) (.var 8)) (.lit false))
   (.alloc
   (.call false 58 [(.slc 0 0 2 2)] .sl [⟨[(.sl 6 (.ifeq (.var 8) (.lit 0) (.lit 0) (.lit 0)) (.bin .sub .i64 (.var 7) (.var 1)) (.var 8)), (.sl 3 (.lit 0) (.var 4) (.var 5))], 22⟩]
   (.ret (.tup [(.sl 10 (.lit 0) (.var 11) (.var 12)), (.bool (.lit true))]) [⟨[(.sl 6 (.ifeq (.var 8) (.lit 0) (.lit 0) (.lit 0)) (.bin .sub .i64 (.var 7) (.var 1)) (.var 8)), (.sl 3 (.lit 0) (.var 4) (.var 5))], 22⟩]))))))))))
theorem S_analogy_ending_2 : FnIs Tryd.prog n_analogy_ending_2 [.sl, .sl, .sl] T_analogy_ending_2 := ⟨Tryd.f108, [], 4000, Tryd.func108, by kernel_rfl⟩
/-! 109 ablaut/analogy.beginning$1  -/
abbrev n_analogy_beginning_1 : FuncId := 109
def T_analogy_beginning_1 : Tree :=
 (.chk (.cmp .geq (.var 1) (.lit 0))
 (.chk (.cmp .geq (.var 4) (.lit 0))
 (.loop 0 [(.int .i64), (.int .i64)] [(.int .i64 (.var 1)), (.int .i64 (.var 4))] [] []
  (.ite (.pick (.cmp .gtr (.var 6) (.lit 0)) (.cmp .gtr (.var 7) (.lit 0)) (.lit false))
   (.chk (.pick (.cmp .geq (.bin .sub .i64 (.var 6) (.lit 1)) (.lit 0)) (.pick (.cmp .lss (.bin .sub .i64 (.var 6) (.lit 1)) (.var 1)) (.some 0) (.lit false)) (.lit false))
   (.load 0 (.off (.bin .sub .i64 (.var 6) (.lit 1)) 2 (.lit 0)) [(.int .u32), (.int .u32)] []
   (.chk (.pick (.cmp .geq (.bin .sub .i64 (.var 7) (.lit 1)) (.lit 0)) (.pick (.cmp .lss (.bin .sub .i64 (.var 7) (.lit 1)) (.var 4)) (.some 3) (.lit false)) (.lit false))
   (.load 3 (.off (.bin .sub .i64 (.var 7) (.lit 1)) 2 (.lit 0)) [(.int .u32), (.int .u32)] []
   (.ite (.pick (.cmp .eql (.var 8) (.var 10)) (.cmp .eql (.var 9) (.var 11)) (.lit false))
    (.again 0 0 [(.int .i64), (.int .i64)] [(.int .i64 (.bin .sub .i64 (.var 6) (.lit 1))), (.int .i64 (.bin .sub .i64 (.var 7) (.lit 1)))] [])
    (.chk (.pick (.cmp .leq (.lit 0) (.var 6)) (.cmp .leq (.var 6) (.var 2)) (.lit false))
    (.chk (.pick (.cmp .leq (.lit 0) (.var 7)) (.cmp .leq (.var 7) (.var 5)) (.lit false))
    (.ret (.tup [(.sl 0 (.ifeq (.var 2) (.lit 0) (.lit 0) (.lit 0)) (.var 6) (.var 2)), (.sl 3 (.ifeq (.var 5) (.lit 0) (.lit 0) (.lit 0)) (.var 7) (.var 5))]) []))))))))
   (.chk (.pick (.cmp .leq (.lit 0) (.var 6)) (.cmp .leq (.var 6) (.var 2)) (.lit false))
   (.chk (.pick (.cmp .leq (.lit 0) (.var 7)) (.cmp .leq (.var 7) (.var 5)) (.lit false))
   (.ret (.tup [(.sl 0 (.ifeq (.var 2) (.lit 0) (.lit 0) (.lit 0)) (.var 6) (.var 2)), (.sl 3 (.ifeq (.var 5) (.lit 0) (.lit 0) (.lit 0)) (.var 7) (.var 5))]) [])))))))
theorem S_analogy_beginning_1 : FnIs Tryd.prog n_analogy_beginning_1 [.sl, .sl] T_analogy_beginning_1 := ⟨Tryd.f109, [], 4000, Tryd.func109, by kernel_rfl⟩
/-! 110 ablaut/analogy.beginning$2  -/
abbrev n_analogy_beginning_2 : FuncId := 110
def T_analogy_beginning_2 : Tree :=
 (.chk (.cmp .geq (.var 7) (.lit 0))
 (.chk (.cmp .geq (.var 1) (.lit 0))
 (.ite (.cmp .lss (.var 7) (.var 1))
  (.ret (.tup [(.cst (.slice none 0 0)), (.bool (.lit false))]) [])
  (.chk (.cmp .geq (.var 1) (.lit 0))
  (.chk (.pick (.cmp .leq (.lit 0) (.var 1)) (.cmp .leq (.var 1) (.var 8)) (.lit false))
  (.call false 29 [(.sl 6 (.ifeq (.var 8) (.lit 0) (.lit 0) (.lit 0)) (.var 1) (.var 8)), (.sl 0 (.lit 0) (.var 1) (.var 2))] .bool []
  (.ite (.not (.var 9))
   (.ret (.tup [(.cst (.slice none 0 0)), (.bool (.lit false))]) [])
   (.chk (.cmp .geq (.var 1) (.lit 0))
   (.chk (.pick (.cmp .leq (.lit 0) (.var 1)) (.pick (.cmp .leq (.var 1) (.var 7)) (.cmp .leq (.var 7) (.var 8)) (.lit false)) (.lit false))
   (.alloc
   (.call false 58 [(.slc 0 0 2 2)] .sl [⟨[(.sl 3 (.lit 0) (.var 4) (.var 5)), (.sl 6 (.ifeq (.var 8) (.var 1) (.lit 0) (.off (.var 1) 2 (.lit 0))) (.dif (.var 7) (.var 1)) (.dif (.var 8) (.var 1)))], 22⟩]
   (.ret (.tup [(.sl 10 (.lit 0) (.var 11) (.var 12)), (.bool (.lit true))]) [⟨[(.sl 3 (.lit 0) (.var 4) (.var 5)), (.sl 6 (.ifeq (.var 8) (.var 1) (.lit 0) (.off (.var 1) 2 (.lit 0))) (.dif (.var 7) (.var 1)) (.dif (.var 8) (.var 1)))], 22⟩]))))))))))))
theorem S_analogy_beginning_2 : FnIs Tryd.prog n_analogy_beginning_2 [.sl, .sl, .sl] T_analogy_beginning_2 := ⟨Tryd.f110, [], 4000, Tryd.func110, by kernel_rfl⟩
end Go.Proofs.YtpbbnmjkbfbelaaDoor
