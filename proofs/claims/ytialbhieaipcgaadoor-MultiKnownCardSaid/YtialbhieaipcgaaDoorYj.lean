/- Chapter 18: columns without a word; what is refined; plain law. -/
import Derived.Test.YtialbhieaipcgaaDoorYg
set_option linter.unusedSimpArgs false
set_option linter.unusedVariables false
namespace Go.Sy
open Go Go.RowKit
theorem withoutS_mem' {cols : List (List Int)} {k : Nat} {x : List Int} (h : x ∈ withoutS cols k) : ∃ c ∈ cols, x = c.eraseIdx k := by
  unfold withoutS at h
  obtain ⟨c, hc, rfl⟩ := List.mem_map.1 (List.mem_filter.1 h).1
  exact ⟨c, hc, rfl⟩
theorem labAt_erase (col : List Int) (k r : Nat) : labAt (col.eraseIdx k) r = labAt col (if r < k then r else r + 1) := by
  unfold labAt
  rw [List.getElem?_eraseIdx]
  by_cases h : r < k
  · rw [if_pos h, if_pos h]
  · rw [if_neg h, if_neg h]
/-- The rows of columns without a word. -/
theorem without_rows {n k : Nat} (hk : k < n) : ∀ (cols : List (List Int)), (∀ c ∈ cols, c.length = n) → ∀ r, r < n - 1 → ∀ x, rowGo x (rowOf (withoutS cols k) r) = rowGo x (rowOf cols (if r < k then r else r + 1))
  | [], _, r, _, x => rfl
  | c :: cols, hl, r, hr, x => by
    have ih := without_rows hk cols (fun d hd => hl d (List.mem_cons_of_mem _ hd)) r hr
    have hcl := hl c (List.mem_cons_self ..)
    have hlab := labAt_erase c k r
    have hw : withoutS (c :: cols) k = if hasS (c.eraseIdx k) = true then c.eraseIdx k :: withoutS cols k else withoutS cols k := by
      unfold withoutS
      rw [List.map_cons, List.filter_cons]
    rw [hw]
    generalize (if r < k then r else r + 1) = r' at *
    rw [show rowOf (c :: cols) r' = labAt c r' :: rowOf cols r' from rfl]
    by_cases hs : hasS (c.eraseIdx k) = true
    · rw [if_pos hs]
      show rowGo x (labAt (c.eraseIdx k) r :: rowOf (withoutS cols k) r) = _
      rw [hlab]
      simp only [rowGo]
      split
      · exact ih x
      · split
        · exact ih _
        · rfl
    · rw [if_neg hs]
      have hrl : r < (c.eraseIdx k).length := by rw [List.length_eraseIdx, if_pos (by omega)]; omega
      have hm : labAt c r' = -1 := by
        rw [← hlab, labAt_get hrl]
        have h1 : hasS (c.eraseIdx k) = false := by simpa using hs
        unfold hasS at h1
        by_cases h2 : (c.eraseIdx k)[r] = -1
        · exact h2
        · rw [Bool.eq_false_iff] at h1
          exact absurd (List.any_eq_true.2 ⟨_, List.getElem_mem hrl, by simpa using h2⟩) h1
      rw [hm]
      show _ = rowGo x (-1 :: rowOf cols _)
      simp only [rowGo]
      exact ih x
theorem without_al {W : List (List Snd)} {cols : List (List Int)} {k : Nat} (hk : k < W.length) (h : isAl W cols = true) : isAl (W.eraseIdx k) (withoutS cols k) = true := by
  obtain ⟨h1, h2⟩ := isAl_of h
  have hWe : (W.eraseIdx k).length = W.length - 1 := by rw [List.length_eraseIdx, if_pos hk]
  refine isAl_yes (fun i hi => ?_) fun r hr => ?_
  · have hm := List.getElem_mem hi
    have hs := (List.mem_filter.1 hm).2
    obtain ⟨c, hc, e⟩ := withoutS_mem' hm
    unfold colOk
    rw [Bool.and_eq_true]
    refine ⟨decide_eq_true ?_, hs⟩
    rw [e, List.length_eraseIdx, (h1 c hc).1, if_pos hk, hWe]
  · rw [hWe] at hr
    rw [without_rows hk cols (fun c hc => (h1 c hc).1) r hr 0, h2 _ (by split <;> omega)]
    congr 1
    unfold wl
    rw [List.getElem?_eraseIdx]
    by_cases hrk : r < k
    · rw [if_pos hrk, if_pos hrk]
    · rw [if_neg hrk, if_neg hrk]
/-- An alignment has no more columns than sounds. -/
theorem rows_len_le {n : Nat} : ∀ (cols : List (List Int)) (x y : Nat → Int), (∀ c ∈ cols, c.length = n ∧ ∃ z ∈ c, z ≠ -1) → (∀ k, k < n → rowGo (x k) (rowOf cols k) = some (y k)) → (cols.length : Int) ≤ sm n fun k => y k - x k
  | [], x, y, _, h => by
    have : ∀ m, m ≤ n → sm m (fun k => y k - x k) = 0 := fun m hm => sm_zero fun k hk => by
      have := h k (by omega)
      simp only [rowOf, List.map_nil, rowGo, Option.some.injEq] at this
      omega
    rw [this n (Nat.le_refl _)]; exact Int.le_refl _
  | c :: cols, x, y, hc, h => by
    obtain ⟨hcl, z, hz, hne⟩ := hc c (List.mem_cons_self ..)
    obtain ⟨a, ha, rfl⟩ := List.mem_iff_getElem.1 hz
    have hrow : ∀ k, k < n → rowGo (if labAt c k = -1 then x k else x k + 1) (rowOf cols k) = some (y k) := fun k hk => by
      have := h k hk
      have e : rowOf (c :: cols) k = labAt c k :: rowOf cols k := rfl
      rw [e] at this
      simp only [rowGo] at this
      by_cases h1 : labAt c k = -1
      · rw [if_pos h1] at this ⊢; exact this
      · rw [if_neg h1] at this ⊢
        split at this
        · exact this
        · cases this
    have ih := rows_len_le cols (fun k => if labAt c k = -1 then x k else x k + 1) y (fun d hd => hc d (List.mem_cons_of_mem _ hd)) hrow
    have hlt := sm_lt (n := n) (g := fun k => y k - if labAt c k = -1 then x k else x k + 1) (h := fun k => y k - x k) (fun i hi => by
      by_cases h : labAt c i = -1
      · rw [if_pos h]; omega
      · rw [if_neg h]; omega) a (by omega) (by rw [← labAt_get ha] at hne; rw [if_neg hne]; omega)
    rw [List.length_cons]
    omega
theorem al_len {W : List (List Snd)} {cols : List (List Int)} (h : isAl W cols = true) (h8 : W.length ≤ 8) (hw : ∀ k, k < W.length → wl W k ≤ 32) : cols.length ≤ 256 := by
  obtain ⟨h1, h2⟩ := isAl_of h
  have h3 := rows_len_le cols (fun _ => 0) (fun k => wl W k) h1 h2
  have h4 := sm_le_mul (n := W.length) (g := fun k => wl W k - 0) (B := 32) fun k hk => by have := hw k hk; omega
  omega
section
variable (ws : List Int) (gap : Int) (W : List (List Snd))
/-- A word taken out and added again. -/
def addR (cols : List (List Int)) (k : Nat) : List (List Int) := insE (columnE ws gap W) (withoutS cols k) (W.length - 1) k (W.getD k []).length
def stepR (cols : List (List Int)) (k : Nat) : List (List Int) := if costE ws gap W (addR ws gap W cols k) < costE ws gap W cols then addR ws gap W cols k else cols
def passR : Nat → List (List Int) → List (List Int)
  | 0, c => c
  | k + 1, c => stepR ws gap W (passR k c) k
/-- What is refined. -/
inductive RefR : List (List Int) → List (List Int) → Prop
  | done (c : List (List Int)) (h : ¬ costE ws gap W (passR ws gap W W.length c) < costE ws gap W c) : RefR c c
  | step (c r : List (List Int)) (h : costE ws gap W (passR ws gap W W.length c) < costE ws gap W c) (hr : RefR (passR ws gap W W.length c) r) : RefR c r
end
section
variable {ws : List Int} {gap : Int} {W : List (List Snd)}
theorem step_le (c : List (List Int)) (k : Nat) : costE ws gap W (stepR ws gap W c k) ≤ costE ws gap W c ∧ (costE ws gap W (stepR ws gap W c k) = costE ws gap W c → stepR ws gap W c k = c) := by
  unfold stepR
  by_cases h : costE ws gap W (addR ws gap W c k) < costE ws gap W c
  · rw [if_pos h]; exact ⟨by omega, fun h' => by omega⟩
  · rw [if_neg h]; exact ⟨Int.le_refl _, fun _ => rfl⟩
theorem pass_le (c : List (List Int)) : ∀ k, costE ws gap W (passR ws gap W k c) ≤ costE ws gap W c ∧ (costE ws gap W (passR ws gap W k c) = costE ws gap W c → passR ws gap W k c = c)
  | 0 => ⟨Int.le_refl _, fun _ => rfl⟩
  | k + 1 => by
    have h1 := pass_le c k
    have h2 := step_le (ws := ws) (gap := gap) (W := W) (passR ws gap W k c) k
    refine ⟨by show costE ws gap W (stepR ws gap W (passR ws gap W k c) k) ≤ _; omega, fun h => ?_⟩
    have h3 : costE ws gap W (stepR ws gap W (passR ws gap W k c) k) = costE ws gap W c := h
    have h4 := h1.2 (by omega)
    show stepR ws gap W (passR ws gap W k c) k = c
    rw [h2.2 (by omega), h4]
theorem without_len {cols : List (List Int)} {k : Nat} (hk : k < W.length) (hal : isAl W cols = true) : ∀ x ∈ withoutS cols k, x.length = W.length - 1 := fun x hx => by
  have := (isAl_ent (without_al hk hal) x hx).1
  rw [this, List.length_eraseIdx, if_pos hk]
theorem addR_nn (hc : checkC ws gap = 0) (h8 : W.length ≤ 8) {cols : List (List Int)} {k : Nat} (hk : k < W.length) (hal : isAl W cols = true) : ∀ w i j, 0 ≤ cI (columnE ws gap W) (withoutS cols k) (W.length - 1) k w i j :=
  cI_nonneg hc W (by omega) (without_len hk hal) k
theorem addR_al (hc : checkC ws gap = 0) (h8 : W.length ≤ 8) {cols : List (List Int)} {k : Nat} (hk : k < W.length) (hal : isAl W cols = true) : isAl W (addR ws gap W cols k) = true :=
  insE_al (by omega) (by omega) (addR_nn hc h8 hk hal) (without_al hk hal)
theorem step_al (hc : checkC ws gap = 0) (h8 : W.length ≤ 8) {cols : List (List Int)} {k : Nat} (hk : k < W.length) (hal : isAl W cols = true) : isAl W (stepR ws gap W cols k) = true := by
  unfold stepR
  split
  · exact addR_al hc h8 hk hal
  · exact hal
theorem pass_al (hc : checkC ws gap = 0) (h8 : W.length ≤ 8) {cols : List (List Int)} (hal : isAl W cols = true) : ∀ k, k ≤ W.length → isAl W (passR ws gap W k cols) = true
  | 0, _ => hal
  | k + 1, hk => step_al hc h8 (by omega) (pass_al hc h8 hal k (by omega))
theorem cost_nn (hc : checkC ws gap = 0) (h8 : W.length ≤ 8) {cols : List (List Int)} (hal : isAl W cols = true) : 0 ≤ costE ws gap W cols := by
  have key : ∀ cols : List (List Int), (∀ c ∈ cols, c.length ≤ 8) → 0 ≤ costE ws gap W cols := fun cols => by
    induction cols with
    | nil => intro _; exact Int.le_refl _
    | cons c cols ih =>
      intro h
      rw [costE_cons]
      have h1 := (columnE_bound hc W c (h c (List.mem_cons_self ..))).1
      have h2 := ih fun d hd => h d (List.mem_cons_of_mem _ hd)
      omega
  exact key cols fun c hcm => by have := (isAl_ent hal c hcm).1; omega
/-- An open way's column has entries of the words. -/
theorem addR_ent {cols : List (List Int)} {k : Nat} (hk : k < W.length) (hal : isAl W cols = true) {w i j : Nat} (h : openI (withoutS cols k).length (W.getD k []).length i j w) : (lookS (withoutS cols k) (W.length - 1) k i j w).length = W.length ∧ EntOk W (lookS (withoutS cols k) (W.length - 1) k i j w) := by
  have hl := without_len hk hal
  have hent := isAl_ent (without_al hk hal)
  refine ⟨by rw [lookS_len' (by omega) hl (open_lt h).1]; omega, lookS_ent (by omega) (fun x hx => ⟨hl x hx, fun i hi => ?_⟩) (wl_getD W k) h⟩
  have := (hent x hx).2 i hi
  have e : wl (W.eraseIdx k) i = wl W (if i < k then i else i + 1) := by
    unfold wl
    rw [List.getElem?_eraseIdx]
    by_cases h : i < k
    · rw [if_pos h, if_pos h]
    · rw [if_neg h, if_neg h]
  rw [e] at this
  exact this
end
end Go.Sy
