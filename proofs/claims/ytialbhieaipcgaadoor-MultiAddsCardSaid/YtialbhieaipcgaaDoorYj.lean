/- Chapter 18: columns without a word; what is refined; plain law. -/
import Derived.Test.YtialbhieaipcgaaDoorYg
set_option linter.unusedSimpArgs false
set_option linter.unusedVariables false
namespace Go.Sy
open Go Go.RowKit
/-- An alignment has no more columns than sounds. -/
theorem rows_len_le {n : Nat} : ∀ (cols : List (List Int)) (x y : Nat → Int), (∀ c ∈ cols, c.length = n ∧ ∃ z ∈ c, z ≠ -1) → (∀ k, k < n → rowGo (x k) (rowOf cols k) = some (y k)) → (cols.length : Int) ≤ sm n fun k => y k - x k
  | [], x, y, _, h => by
    have : ∀ m, m ≤ n → sm m (fun k => y k - x k) = 0 := fun m hm => sm_zero fun k hk => by
      have := h k (by omega)
      simp only [rowOf, List.map_nil, rowGo, Option.some.injEq] at this
      omega
    rw [this n (Nat.le_refl _)]; exact Int.le_refl _
  | c :: cols, x, y, hc, h => by
    obtain ⟨hcl, z, hz, hne⟩ := hc c (List.mem_cons_self ..)
    obtain ⟨a, ha, rfl⟩ := List.mem_iff_getElem.1 hz
    have hrow : ∀ k, k < n → rowGo (if labAt c k = -1 then x k else x k + 1) (rowOf cols k) = some (y k) := fun k hk => by
      have := h k hk
      have e : rowOf (c :: cols) k = labAt c k :: rowOf cols k := rfl
      rw [e] at this
      simp only [rowGo] at this
      by_cases h1 : labAt c k = -1
      · rw [if_pos h1] at this ⊢; exact this
      · rw [if_neg h1] at this ⊢
        split at this
        · exact this
        · cases this
    have ih := rows_len_le cols (fun k => if labAt c k = -1 then x k else x k + 1) y (fun d hd => hc d (List.mem_cons_of_mem _ hd)) hrow
    have hlt := sm_lt (n := n) (g := fun k => y k - if labAt c k = -1 then x k else x k + 1) (h := fun k => y k - x k) (fun i hi => by
      by_cases h : labAt c i = -1
      · rw [if_pos h]; omega
      · rw [if_neg h]; omega) a (by omega) (by rw [← labAt_get ha] at hne; rw [if_neg hne]; omega)
    rw [List.length_cons]
    omega
theorem al_len {W : List (List Snd)} {cols : List (List Int)} (h : isAl W cols = true) (h8 : W.length ≤ 8) (hw : ∀ k, k < W.length → wl W k ≤ 32) : cols.length ≤ 256 := by
  obtain ⟨h1, h2⟩ := isAl_of h
  have h3 := rows_len_le cols (fun _ => 0) (fun k => wl W k) h1 h2
  have h4 := sm_le_mul (n := W.length) (g := fun k => wl W k - 0) (B := 32) fun k hk => by have := hw k hk; omega
  omega
section
variable (ws : List Int) (gap : Int) (W : List (List Snd))
/-- A word taken out and added again. -/
def addR (cols : List (List Int)) (k : Nat) : List (List Int) := insE (columnE ws gap W) (withoutS cols k) (W.length - 1) k (W.getD k []).length
def stepR (cols : List (List Int)) (k : Nat) : List (List Int) := if costE ws gap W (addR ws gap W cols k) < costE ws gap W cols then addR ws gap W cols k else cols
def passR : Nat → List (List Int) → List (List Int)
  | 0, c => c
  | k + 1, c => stepR ws gap W (passR k c) k
/-- What is refined. -/
inductive RefR : List (List Int) → List (List Int) → Prop
  | done (c : List (List Int)) (h : ¬ costE ws gap W (passR ws gap W W.length c) < costE ws gap W c) : RefR c c
  | step (c r : List (List Int)) (h : costE ws gap W (passR ws gap W W.length c) < costE ws gap W c) (hr : RefR (passR ws gap W W.length c) r) : RefR c r
end
section
variable {ws : List Int} {gap : Int} {W : List (List Snd)}
end
end Go.Sy
