/- Chapter 19: what CognatesMany asks, plainly; slices.Repeat of rows and of forms. -/
import Derived.Test.YthabfpagilbplaaDoorMa
import Derived.Test.YthabfpagilbplaaDoorRw
import Derived.Test.YthabfpagilbplaaDoorBk
set_option linter.unusedSimpArgs false
set_option linter.unusedVariables false
namespace Go.Proofs.YthabfpagilbplaaDoor
open Go Go.Sy Go.RowKit
def bF : FD := ⟨false, ⟨none, 0, []⟩⟩
def bE : ED := ⟨.string ByteArray.empty, none, 0, []⟩
def want (r : Nat) : Int := if r = 3 then 12 else 0
theorem four {P : Nat → Prop} (h0 : P 0) (h1 : P 1) (h2 : P 2) (h3 : P 3) {r : Nat} (h : r < 4) : P r := by
  match r, h with
  | 0, _ => exact h0
  | 1, _ => exact h1
  | 2, _ => exact h2
  | 3, _ => exact h3
theorem check_many {r : Nat} (h : r < 4) : check19 [2, 2, 2] 3 (List.replicate (14 + r) bF) 1 1 = want r :=
  four (P := fun r => check19 [2, 2, 2] 3 (List.replicate (14 + r) bF) 1 1 = want r) (by kernel_rfl) (by kernel_rfl) (by kernel_rfl) (by kernel_rfl) h
theorem labels_many {r : Nat} (h : r < 4) : (labelsE [2, 2, 2] 3 (List.replicate (14 + r) bF) 1 1).2 = want r ∧ (want r ≠ 0 → (labelsE [2, 2, 2] 3 (List.replicate (14 + r) bF) 1 1).1.length = 0) := by
  unfold labelsE
  rw [check_many h]
  split
  · exact ⟨rfl, fun _ => rfl⟩
  · rename_i h0
    exact ⟨by simpa using Eq.symm (show want r = 0 by simpa using h0), fun h1 => absurd h1 h0⟩
theorem average_many {r : Nat} (h : r < 4) : (averageE [2, 2, 2] 3 (List.replicate (14 + r) bF) 1 1).2 = want r ∧ (want r ≠ 0 → (averageE [2, 2, 2] 3 (List.replicate (14 + r) bF) 1 1).1.length = 0) := by
  unfold averageE
  rw [check_many h]
  split
  · exact ⟨rfl, fun _ => rfl⟩
  · rename_i h0
    exact ⟨by simpa using Eq.symm (show want r = 0 by simpa using h0), fun h1 => absurd h1 h0⟩
theorem table_many {r : Nat} (h : r < 4) : (tableE [2, 2, 2] 3 (List.replicate (254 + r) bE) 1 1).2 = want r :=
  four (P := fun r => (tableE [2, 2, 2] 3 (List.replicate (254 + r) bE) 1 1).2 = want r) (by kernel_rfl) (by kernel_rfl) (by kernel_rfl) (by kernel_rfl) h
theorem table_none : (tableE [2, 2, 2] 3 (List.replicate 257 bE) 1 1).1 = [] := by kernel_rfl
theorem sets_many {r : Nat} (h : r < 4) : (setsE (List.replicate (254 + r) 0)).2 = want r :=
  four (P := fun r => (setsE (List.replicate (254 + r) 0)).2 = want r) (by kernel_rfl) (by kernel_rfl) (by kernel_rfl) (by kernel_rfl) h
theorem sets_none : (setsE (List.replicate 257 0)).1 = [] := by kernel_rfl
theorem three_of {r : Nat} (h : want r ≠ 0) : r = 3 := by unfold want at h; split at h; assumption; exact absurd rfl h
theorem wrong_many {r : Nat} (h : r < 4) : wrongW (List.replicate (254 + r) 0) (List.replicate (254 + r) 0) = want r :=
  four (P := fun r => wrongW (List.replicate (254 + r) 0) (List.replicate (254 + r) 0) = want r) (by kernel_rfl) (by kernel_rfl) (by kernel_rfl) (by kernel_rfl) h
theorem wrong_one {r : Nat} (h : r < 4) : wrongW [0] (List.replicate (254 + r) 0) = if r = 3 then 12 else 2 :=
  four (P := fun r => wrongW [0] (List.replicate (254 + r) 0) = if r = 3 then 12 else 2) (by kernel_rfl) (by kernel_rfl) (by kernel_rfl) (by kernel_rfl) h
theorem compare_many {r : Nat} (h : r < 4) : (compareE (List.replicate (254 + r) 0) (List.replicate (254 + r) 0)).2 = want r := by
  unfold compareE
  rw [wrong_many h]
  split
  · rfl
  · rename_i h0; simpa using Eq.symm (show want r = 0 by simpa using h0)
theorem cubed_many {r : Nat} (h : r < 4) : (cubedE [0] (List.replicate (254 + r) 0)).2 = if r = 3 then 12 else 2 := by
  unfold cubedE
  rw [wrong_one h]
  by_cases h3 : r = 3
  · rw [if_pos h3, if_pos (by decide)]
  · rw [if_neg h3, if_pos (by decide)]
section
variable (p : Option Addr) (cp : Nat)
theorem shared_many {r : Nat} (h : r < 4) : (sharedE (List.replicate (254 + r) ⟨p, cp, [1, 2]⟩) 0 1).2 = want r :=
  four (P := fun r => (sharedE (List.replicate (254 + r) ⟨p, cp, [1, 2]⟩) 0 1).2 = want r) (by kernel_rfl) (by kernel_rfl) (by kernel_rfl) (by kernel_rfl) h
theorem shared_two {r : Nat} (h : r < 4) : (sharedE (List.replicate (254 + r) ⟨p, cp, [1, 2]⟩) 0 2).2 = if r = 3 then 12 else 3 :=
  four (P := fun r => (sharedE (List.replicate (254 + r) ⟨p, cp, [1, 2]⟩) 0 2).2 = if r = 3 then 12 else 3) (by kernel_rfl) (by kernel_rfl) (by kernel_rfl) (by kernel_rfl) h
theorem labels_five (q : Option Addr) (cq : Nat) : labelsE [2, 2, 2] 3 [⟨true, ⟨p, cp, List.replicate 33 (0, 0)⟩⟩, ⟨false, ⟨q, cq, [(0, 0)]⟩⟩] 1 0 = ([], 2) := by kernel_rfl
theorem labels_long : labelsE [2, 2, 2] 3 [⟨true, ⟨p, cp, List.replicate 33 (0, 0)⟩⟩, bF] 1 0 = ([], 11) := by kernel_rfl
def altF (i : Nat) : FD := if i % 2 = 0 then ⟨true, ⟨p, cp, List.replicate 32 (7, 0)⟩⟩ else ⟨true, ⟨none, 0, []⟩⟩
def alt : List FD := (List.range 16).map (altF p cp)
theorem altF_w (i : Nat) : (altF p cp i).w.w = if i % 2 = 0 then List.replicate 32 (7, 0) else [] := by unfold altF; split <;> rfl
theorem alt_tab (i k : Nat) (hi : i < 16) (hk : k < 16) : tabX [2, 2, 2] 1073741824 (alt p cp) i k = tabT i k := by
  unfold tabX tabT
  by_cases hik : i = k
  · rw [if_pos hik, if_pos hik]
  · rw [if_neg hik, if_neg hik]
    have h1 : (alt p cp)[i]? = some (altF p cp i) := by simp [alt, List.getElem?_map, hi]
    have h2 : (alt p cp)[k]? = some (altF p cp k) := by simp [alt, List.getElem?_map, hk]
    have hh : ∀ i, (altF p cp i).has = true := fun i => by unfold altF; split <;> rfl
    unfold pairX
    rw [h1, h2]
    simp only [hh, Bool.and_self, if_true, altF_w]
    have hs : ∀ w : List Snd, rst (dC [2, 2, 2] 1073741824) 1073741824 w w = 0 := fun w => rst_self (d := dC [2, 2, 2] 1073741824) (by decide) (fun x y => (distC_pos (by kernel_rfl)).1) (fun x => dC_self x) _
    have hb : rst (dC [2, 2, 2] 1073741824) 1073741824 (List.replicate 32 (7, 0)) [] = 34359738368 := by kernel_rfl
    have hb' : rst (dC [2, 2, 2] 1073741824) 1073741824 [] (List.replicate 32 (7, 0)) = 34359738368 := by kernel_rfl
    rcases Nat.mod_two_eq_zero_or_one i with a | a <;> rcases Nat.mod_two_eq_zero_or_one k with b | b
    · rw [if_pos a, if_pos b, if_pos (by omega), if_pos a, hs]; rfl
    · rw [if_pos a, if_neg (by omega), if_neg (by omega), hb]; rfl
    · rw [if_neg (by omega), if_pos b, if_neg (by omega), hb']; rfl
    · rw [if_neg (by omega), if_neg (by omega), if_pos (by omega), if_neg (by omega), hs]; rfl
theorem alt_all : averageE [2, 2, 2] 1073741824 (alt p cp) 9223372036854775807 9223372036854775807 = (lb15, 0) := by
  unfold averageE
  rw [if_neg (by rw [show check19 [2, 2, 2] 1073741824 (alt p cp) 9223372036854775807 9223372036854775807 = 0 by kernel_rfl]; simp), show aloneL ((alt p cp).map (·.has)) = lb0 by kernel_rfl, show mu lb0 = 136 by kernel_rfl, avg_all (alt_tab p cp)]
theorem alt_two : averageE [2, 2, 2] 1073741824 (alt p cp) 9223372036854775806 9223372036854775807 = (lb14, 0) := by
  unfold averageE
  rw [if_neg (by rw [show check19 [2, 2, 2] 1073741824 (alt p cp) 9223372036854775806 9223372036854775807 = 0 by kernel_rfl]; simp), show aloneL ((alt p cp).map (·.has)) = lb0 by kernel_rfl, show mu lb0 = 136 by kernel_rfl, avg_two (alt_tab p cp)]
end
end Go.Proofs.YthabfpagilbplaaDoor
