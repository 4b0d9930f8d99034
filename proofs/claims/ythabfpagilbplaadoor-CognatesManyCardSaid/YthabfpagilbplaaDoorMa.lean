/- Chapter 19: average linkage of eight words and eight empty ones. Printed by many19.py. -/
import Derived.Test.YthabfpagilbplaaDoorBl
set_option linter.unusedSimpArgs false
set_option linter.unusedVariables false
namespace Go.Proofs.YthabfpagilbplaaDoor
open Go Go.Sy Go.RowKit
def tabT (i k : Nat) : Int × Int := if i = k then (0, 0) else if i % 2 = k % 2 then (0, if i % 2 = 0 then 64 else 0) else (34359738368, 32)
def ratT (lab : List Int) (a b : Nat) : Int × Int := ratC 1073741824 (s1 lab (fun i k => (tabT i k).1) a b, s1 lab (fun i k => (tabT i k).2) a b)
theorem s1_congr {lab : List Int} {X Y : Nat → Nat → Int} (h : ∀ i k, i < lab.length → k < lab.length → X i k = Y i k) (x y : Int) : s1 lab X x y = s1 lab Y x y := sm_congr fun i hi => by
  split
  · exact sm_congr fun k hk => by
      split
      · exact h i k hi hk
      · rfl
  · rfl
theorem ratS_T {ws : List Int} {l : List FD} {lab : List Int} (hT : ∀ i k, i < lab.length → k < lab.length → tabX ws 1073741824 l i k = tabT i k) : ratS ws 1073741824 l lab = ratT lab := funext fun x => funext fun y => by
  unfold ratS ratT sumS
  rw [s1_congr (X := fun i k => (tabX ws 1073741824 l i k).1) (Y := fun i k => (tabT i k).1) (fun i k hi hk => by show (tabX ws 1073741824 l i k).1 = _; rw [hT i k hi hk]), s1_congr (X := fun i k => (tabX ws 1073741824 l i k).2) (Y := fun i k => (tabT i k).2) (fun i k hi hk => by show (tabX ws 1073741824 l i k).2 = _; rw [hT i k hi hk])]
theorem leastA_T {ws : List Int} {l : List FD} {lab : List Int} (hT : ∀ i k, i < lab.length → k < lab.length → tabX ws 1073741824 l i k = tabT i k) : leastA ws 1073741824 l lab = leastL (ratT lab) lab (pairsN lab).length := by
  unfold leastA
  rw [ratS_T hT]
theorem avgT_one {ws : List Int} {l : List FD} {N D : Int} {m : Nat} {lab lab' : List Int} {a b : Nat} {r : Int × Int} (hT : ∀ i k, i < lab.length → k < lab.length → tabX ws 1073741824 l i k = tabT i k)
    (hr : leastL (ratT lab) lab (pairsN lab).length = ⟨a, b, r⟩) (hle : leF r (N, D) = true) (hu : uniteL lab a b = lab') : avgN ws 1073741824 l N D (m + 1) lab = avgN ws 1073741824 l N D m lab' := by
  conv => lhs; unfold avgN
  rw [leastA_T hT, hr]
  simp only []
  rw [if_neg (by rw [hle]; simp), hu]
theorem leF_zero {N D d : Int} (hN : 0 ≤ N) (hd : 0 ≤ d) : leF (0, d) (N, D) = true := by
  unfold leF
  rw [Int.zero_mul]
  exact decide_eq_true (Int.mul_nonneg hN hd)
theorem avgT_end {ws : List Int} {l : List FD} {N D : Int} {m : Nat} {lab : List Int} (hT : ∀ i k, i < lab.length → k < lab.length → tabX ws 1073741824 l i k = tabT i k)
    (hr : (leastL (ratT lab) lab (pairsN lab).length).i < 0 ∨ leF (leastL (ratT lab) lab (pairsN lab).length).r (N, D) = false) : avgN ws 1073741824 l N D m lab = lab :=
  avg_stop (by rw [leastA_T hT]; exact hr) m
def lb0 : List Int := [0, 1, 2, 3, 4, 5, 6, 7, 8, 9, 10, 11, 12, 13, 14, 15]
def lb1 : List Int := [0, 1, 0, 3, 4, 5, 6, 7, 8, 9, 10, 11, 12, 13, 14, 15]
def lb2 : List Int := [0, 1, 0, 3, 0, 5, 6, 7, 8, 9, 10, 11, 12, 13, 14, 15]
def lb3 : List Int := [0, 1, 0, 3, 0, 5, 0, 7, 8, 9, 10, 11, 12, 13, 14, 15]
def lb4 : List Int := [0, 1, 0, 3, 0, 5, 0, 7, 0, 9, 10, 11, 12, 13, 14, 15]
def lb5 : List Int := [0, 1, 0, 3, 0, 5, 0, 7, 0, 9, 0, 11, 12, 13, 14, 15]
def lb6 : List Int := [0, 1, 0, 3, 0, 5, 0, 7, 0, 9, 0, 11, 0, 13, 14, 15]
def lb7 : List Int := [0, 1, 0, 3, 0, 5, 0, 7, 0, 9, 0, 11, 0, 13, 0, 15]
def lb8 : List Int := [0, 1, 0, 1, 0, 5, 0, 7, 0, 9, 0, 11, 0, 13, 0, 15]
def lb9 : List Int := [0, 1, 0, 1, 0, 1, 0, 7, 0, 9, 0, 11, 0, 13, 0, 15]
def lb10 : List Int := [0, 1, 0, 1, 0, 1, 0, 1, 0, 9, 0, 11, 0, 13, 0, 15]
def lb11 : List Int := [0, 1, 0, 1, 0, 1, 0, 1, 0, 1, 0, 11, 0, 13, 0, 15]
def lb12 : List Int := [0, 1, 0, 1, 0, 1, 0, 1, 0, 1, 0, 1, 0, 13, 0, 15]
def lb13 : List Int := [0, 1, 0, 1, 0, 1, 0, 1, 0, 1, 0, 1, 0, 1, 0, 15]
def lb14 : List Int := [0, 1, 0, 1, 0, 1, 0, 1, 0, 1, 0, 1, 0, 1, 0, 1]
def lb15 : List Int := [0, 0, 0, 0, 0, 0, 0, 0, 0, 0, 0, 0, 0, 0, 0, 0]
theorem ls0 : leastL (ratT lb0) lb0 (pairsN lb0).length = ⟨((0 : Nat) : Int), ((2 : Nat) : Int), (0, 68719476736)⟩ := by kernel_rfl
theorem lu0 : uniteL lb0 ((0 : Nat) : Int) ((2 : Nat) : Int) = lb1 := by kernel_rfl
theorem ls1 : leastL (ratT lb1) lb1 (pairsN lb1).length = ⟨((0 : Nat) : Int), ((4 : Nat) : Int), (0, 137438953472)⟩ := by kernel_rfl
theorem lu1 : uniteL lb1 ((0 : Nat) : Int) ((4 : Nat) : Int) = lb2 := by kernel_rfl
theorem ls2 : leastL (ratT lb2) lb2 (pairsN lb2).length = ⟨((0 : Nat) : Int), ((6 : Nat) : Int), (0, 206158430208)⟩ := by kernel_rfl
theorem lu2 : uniteL lb2 ((0 : Nat) : Int) ((6 : Nat) : Int) = lb3 := by kernel_rfl
theorem ls3 : leastL (ratT lb3) lb3 (pairsN lb3).length = ⟨((0 : Nat) : Int), ((8 : Nat) : Int), (0, 274877906944)⟩ := by kernel_rfl
theorem lu3 : uniteL lb3 ((0 : Nat) : Int) ((8 : Nat) : Int) = lb4 := by kernel_rfl
theorem ls4 : leastL (ratT lb4) lb4 (pairsN lb4).length = ⟨((0 : Nat) : Int), ((10 : Nat) : Int), (0, 343597383680)⟩ := by kernel_rfl
theorem lu4 : uniteL lb4 ((0 : Nat) : Int) ((10 : Nat) : Int) = lb5 := by kernel_rfl
theorem ls5 : leastL (ratT lb5) lb5 (pairsN lb5).length = ⟨((0 : Nat) : Int), ((12 : Nat) : Int), (0, 412316860416)⟩ := by kernel_rfl
theorem lu5 : uniteL lb5 ((0 : Nat) : Int) ((12 : Nat) : Int) = lb6 := by kernel_rfl
theorem ls6 : leastL (ratT lb6) lb6 (pairsN lb6).length = ⟨((0 : Nat) : Int), ((14 : Nat) : Int), (0, 481036337152)⟩ := by kernel_rfl
theorem lu6 : uniteL lb6 ((0 : Nat) : Int) ((14 : Nat) : Int) = lb7 := by kernel_rfl
theorem ls7 : leastL (ratT lb7) lb7 (pairsN lb7).length = ⟨((1 : Nat) : Int), ((3 : Nat) : Int), (0, 1)⟩ := by kernel_rfl
theorem lu7 : uniteL lb7 ((1 : Nat) : Int) ((3 : Nat) : Int) = lb8 := by kernel_rfl
theorem ls8 : leastL (ratT lb8) lb8 (pairsN lb8).length = ⟨((1 : Nat) : Int), ((5 : Nat) : Int), (0, 1)⟩ := by kernel_rfl
theorem lu8 : uniteL lb8 ((1 : Nat) : Int) ((5 : Nat) : Int) = lb9 := by kernel_rfl
theorem ls9 : leastL (ratT lb9) lb9 (pairsN lb9).length = ⟨((1 : Nat) : Int), ((7 : Nat) : Int), (0, 1)⟩ := by kernel_rfl
theorem lu9 : uniteL lb9 ((1 : Nat) : Int) ((7 : Nat) : Int) = lb10 := by kernel_rfl
theorem ls10 : leastL (ratT lb10) lb10 (pairsN lb10).length = ⟨((1 : Nat) : Int), ((9 : Nat) : Int), (0, 1)⟩ := by kernel_rfl
theorem lu10 : uniteL lb10 ((1 : Nat) : Int) ((9 : Nat) : Int) = lb11 := by kernel_rfl
theorem ls11 : leastL (ratT lb11) lb11 (pairsN lb11).length = ⟨((1 : Nat) : Int), ((11 : Nat) : Int), (0, 1)⟩ := by kernel_rfl
theorem lu11 : uniteL lb11 ((1 : Nat) : Int) ((11 : Nat) : Int) = lb12 := by kernel_rfl
theorem ls12 : leastL (ratT lb12) lb12 (pairsN lb12).length = ⟨((1 : Nat) : Int), ((13 : Nat) : Int), (0, 1)⟩ := by kernel_rfl
theorem lu12 : uniteL lb12 ((1 : Nat) : Int) ((13 : Nat) : Int) = lb13 := by kernel_rfl
theorem ls13 : leastL (ratT lb13) lb13 (pairsN lb13).length = ⟨((1 : Nat) : Int), ((15 : Nat) : Int), (0, 1)⟩ := by kernel_rfl
theorem lu13 : uniteL lb13 ((1 : Nat) : Int) ((15 : Nat) : Int) = lb14 := by kernel_rfl
theorem ls14 : leastL (ratT lb14) lb14 (pairsN lb14).length = ⟨((0 : Nat) : Int), ((1 : Nat) : Int), (2199023255552, 2199023255552)⟩ := by kernel_rfl
theorem lu14 : uniteL lb14 ((0 : Nat) : Int) ((1 : Nat) : Int) = lb15 := by kernel_rfl
section
variable {ws : List Int} {l : List FD} (hT : ∀ i k, i < 16 → k < 16 → tabX ws 1073741824 l i k = tabT i k)
include hT
theorem avg_most {N D : Int} (hN : 0 ≤ N) (m : Nat) : avgN ws 1073741824 l N D (m + 14) lb0 = avgN ws 1073741824 l N D m lb14 := by
  rw [avgT_one (lab := lb0) (a := 0) (b := 2) (r := (0, 68719476736)) hT ls0 (leF_zero hN (by decide)) lu0]
  rw [avgT_one (lab := lb1) (a := 0) (b := 4) (r := (0, 137438953472)) hT ls1 (leF_zero hN (by decide)) lu1]
  rw [avgT_one (lab := lb2) (a := 0) (b := 6) (r := (0, 206158430208)) hT ls2 (leF_zero hN (by decide)) lu2]
  rw [avgT_one (lab := lb3) (a := 0) (b := 8) (r := (0, 274877906944)) hT ls3 (leF_zero hN (by decide)) lu3]
  rw [avgT_one (lab := lb4) (a := 0) (b := 10) (r := (0, 343597383680)) hT ls4 (leF_zero hN (by decide)) lu4]
  rw [avgT_one (lab := lb5) (a := 0) (b := 12) (r := (0, 412316860416)) hT ls5 (leF_zero hN (by decide)) lu5]
  rw [avgT_one (lab := lb6) (a := 0) (b := 14) (r := (0, 481036337152)) hT ls6 (leF_zero hN (by decide)) lu6]
  rw [avgT_one (lab := lb7) (a := 1) (b := 3) (r := (0, 1)) hT ls7 (leF_zero hN (by decide)) lu7]
  rw [avgT_one (lab := lb8) (a := 1) (b := 5) (r := (0, 1)) hT ls8 (leF_zero hN (by decide)) lu8]
  rw [avgT_one (lab := lb9) (a := 1) (b := 7) (r := (0, 1)) hT ls9 (leF_zero hN (by decide)) lu9]
  rw [avgT_one (lab := lb10) (a := 1) (b := 9) (r := (0, 1)) hT ls10 (leF_zero hN (by decide)) lu10]
  rw [avgT_one (lab := lb11) (a := 1) (b := 11) (r := (0, 1)) hT ls11 (leF_zero hN (by decide)) lu11]
  rw [avgT_one (lab := lb12) (a := 1) (b := 13) (r := (0, 1)) hT ls12 (leF_zero hN (by decide)) lu12]
  rw [avgT_one (lab := lb13) (a := 1) (b := 15) (r := (0, 1)) hT ls13 (leF_zero hN (by decide)) lu13]
theorem avg_all : avgN ws 1073741824 l 9223372036854775807 9223372036854775807 136 lb0 = lb15 := by
  rw [show (136 : Nat) = 122 + 14 from rfl, avg_most hT (by decide), avgT_one (lab := lb14) (m := 121) (a := 0) (b := 1) (r := (2199023255552, 2199023255552)) hT ls14 (by kernel_rfl) lu14, avgT_end (lab := lb15) hT (by exact .inl (of_decide_eq_true (by kernel_rfl)))]
theorem avg_two : avgN ws 1073741824 l 9223372036854775806 9223372036854775807 136 lb0 = lb14 := by
  rw [show (136 : Nat) = 122 + 14 from rfl, avg_most hT (by decide), avgT_end (lab := lb14) hT (by exact .inr (by kernel_rfl))]
end
end Go.Proofs.YthabfpagilbplaaDoor
