/- Chapter 18: columns with a word more are an alignment, and cost least; plain law. -/
import Derived.Test.YtpbbnmjkbfbelabDoorXi
set_option linter.unusedSimpArgs false
set_option linter.unusedVariables false
namespace Go.Sy
open Go Go.RowKit
theorem newS_ins' (n k : Nat) (x : Int) (h : k ≤ n) : newS (n + 1) k x = insS (List.replicate n (-1)) k x := (Go.Proofs.YtpbbnmjkbfbelabDoor.newS_ins _ _ _ h).symm
def offW (p r : Nat) : Nat := if r < p then r else r - 1
theorem lookS_at {cols : List (List Int)} {n p i : Nat} {j : Int} (hp : p ≤ n) (hl : ∀ x ∈ cols, x.length = n) {w r : Nat} (hi : w = 1 ∨ w = 2 → i < cols.length) (hw : w = 1 ∨ w = 2 ∨ w = 3) (hr : r < n + 1) :
    labAt (lookS cols n p i j w) r = if r = p then (if w = 2 then -1 else j) else if w = 3 then -1 else labAt (cols.getD i []) (offW p r) := by
  have hx : ∀ h : i < cols.length, (cols.getD i []).length = n := fun h => by rw [getD_at _ _ _ h]; exact hl _ (List.getElem_mem h)
  have hin : ∀ (l : List Int) (x : Int), p ≤ l.length → labAt (insS l p x) r = if r = p then x else labAt l (offW p r) := fun l x hpl => by
    rw [insS_at l x hpl]
    unfold offW
    by_cases h1 : r < p
    · rw [if_pos h1, if_neg (by omega), if_pos h1]
    · rw [if_neg h1, if_neg h1]
  unfold lookS
  rcases hw with rfl | rfl | rfl
  · rw [if_pos (by decide), hin _ _ (by rw [hx (hi (.inl rfl))]; exact hp)]
    by_cases h : r = p <;> simp [h]
  · rw [if_neg (by decide), if_pos (by decide), hin _ _ (by rw [hx (hi (.inr rfl))]; exact hp)]
    by_cases h : r = p <;> simp [h]
  · rw [if_neg (by decide), if_neg (by decide), newS_ins' _ _ _ hp, hin _ _ (by rw [List.length_replicate]; exact hp)]
    by_cases h : r = p
    · simp [h]
    · rw [if_neg h, if_neg h, if_pos rfl]
      unfold labAt
      have : offW p r < n := by unfold offW; split <;> omega
      rw [List.getElem?_replicate, if_pos this]; rfl
theorem drop_cons {cols : List (List Int)} {i : Nat} (h : i < cols.length) : cols.drop i = cols.getD i [] :: cols.drop (i + 1) := by
  rw [getD_at _ _ _ h]; exact List.drop_eq_getElem_cons h
section
variable {cost : List Int → Int} {cols : List (List Int)} {n p wn : Nat}
theorem outI_rows (hc : ∀ w i j, 0 ≤ cI cost cols n p w i j) (hp : p ≤ n) (hl : ∀ x ∈ cols, x.length = n) : ∀ k i j, i ≤ cols.length → j ≤ wn → cols.length - i + (wn - j) ≤ k →
    rowGo j (rowOf (outI (cI cost cols n p) cols.length wn (fun w i j => lookS cols n p i j w) k i j) p) = some (wn : Int) ∧
    ∀ r, r < n + 1 → r ≠ p → ∀ x, rowGo x (rowOf (outI (cI cost cols n p) cols.length wn (fun w i j => lookS cols n p i j w) k i j) r) = rowGo x (rowOf (cols.drop i) (offW p r)) := by
  intro k
  induction k with
  | zero =>
    intro i j hi hj hk
    obtain rfl : i = cols.length := by omega
    obtain rfl : j = wn := by omega
    rw [outI_end, List.drop_length]
    exact ⟨rfl, fun r hr hne x => rfl⟩
  | succ k ih =>
    intro i j hi hj hk
    by_cases hne : i = cols.length ∧ j = wn
    · obtain ⟨rfl, rfl⟩ := hne
      rw [outI_end, List.drop_length]
      exact ⟨rfl, fun r hr hne x => rfl⟩
    · rw [outI_go _ _ _ _ hne]
      have ho := way_open hc hi hj hne
      obtain ⟨o1, o2⟩ := open_lt ho
      have hg := @after_grows i j (wayI (cI cost cols n p) cols.length wn i j)
      generalize wayI (cI cost cols n p) cols.length wn i j = w at *
      obtain ⟨hw, h1, h2⟩ := ho
      obtain ⟨ih1, ih2⟩ := ih (afterS i j w).1 (afterS i j w).2 h1 h2 (by omega)
      have hla := fun r (hr : r < n + 1) => lookS_at (j := (j : Int)) hp hl o1 hw hr
      refine ⟨?_, fun r hr hne x => ?_⟩
      · have e := hla p (by omega)
        rw [if_pos rfl] at e
        unfold rowOf at ih1 ⊢
        rw [List.map_cons]
        rcases hw with rfl | rfl | rfl
        · rw [if_neg (by decide)] at e
          rw [e]
          simp only [rowGo]
          rw [if_neg (by omega), if_pos trivial]
          exact ih1
        · rw [if_pos rfl] at e
          rw [e]
          simp only [rowGo]
          rw [if_pos trivial]
          exact ih1
        · rw [if_neg (by decide)] at e
          rw [e]
          simp only [rowGo]
          rw [if_neg (by omega), if_pos trivial]
          exact ih1
      · have ih2 := ih2 r hr hne
        have e := hla r hr
        rw [if_neg hne] at e
        unfold rowOf at ih2 ⊢
        rw [List.map_cons]
        rcases hw with rfl | rfl | rfl
        · rw [if_neg (by decide)] at e
          rw [e, drop_cons (o1 (.inl rfl)), List.map_cons]
          simp only [rowGo]
          split
          · exact ih2 x
          · split
            · exact ih2 _
            · rfl
        · rw [if_neg (by decide)] at e
          rw [e, drop_cons (o1 (.inr rfl)), List.map_cons]
          simp only [rowGo]
          split
          · exact ih2 x
          · split
            · exact ih2 _
            · rfl
        · rw [if_pos rfl] at e
          rw [e]
          simp only [rowGo]
          exact ih2 x
end
theorem wl_erase (W : List (List Snd)) {p r : Nat} (hp : r ≠ p) : wl (W.eraseIdx p) (offW p r) = wl W r := by
  unfold wl offW
  rw [List.getElem?_eraseIdx]
  by_cases h : r < p
  · rw [if_pos h, if_pos h]
  · rw [if_neg h, if_neg (by omega), show r - 1 + 1 = r by omega]
theorem insE_al {cost : List Int → Int} {cols : List (List Int)} {W : List (List Snd)} {n p : Nat} (hW : W.length = n + 1) (hp : p ≤ n) (hc : ∀ w i j, 0 ≤ cI cost cols n p w i j) (h : isAl (W.eraseIdx p) cols = true) : isAl W (insE cost cols n p (W.getD p []).length) = true := by
  obtain ⟨h1, h2⟩ := isAl_of h
  have hWe : (W.eraseIdx p).length = n := by rw [List.length_eraseIdx, if_pos (by omega)]; omega
  rw [hWe] at h1 h2
  have hl : ∀ x ∈ cols, x.length = n := fun x hx => (h1 x hx).1
  have hrows := outI_rows (wn := (W.getD p []).length) hc hp hl (cols.length + (W.getD p []).length) 0 0 (Nat.zero_le _) (Nat.zero_le _) (by omega)
  refine isAl_yes (fun i hi => ?_) fun k hk => ?_
  · refine outI_mem hc (p := fun x => colOk W.length x = true) (fun w i j ho => ?_) _ _ _ (Nat.zero_le _) (Nat.zero_le _) _ (List.getElem_mem hi)
    have o1 := (open_lt ho).1
    have hlen := lookS_len' (j := (j : Int)) hp hl o1
    unfold colOk
    rw [Bool.and_eq_true]
    refine ⟨decide_eq_true (by rw [hlen, hW]), List.any_eq_true.2 ?_⟩
    have hla := fun r (hr : r < n + 1) => lookS_at (j := (j : Int)) hp hl o1 ho.1 hr
    have key : ∀ r, r < n + 1 → labAt (lookS cols n p i j w) r ≠ -1 → ∃ x ∈ lookS cols n p i j w, (x != -1) = true := fun r hr hne => by
      have hr' : r < (lookS cols n p i j w).length := by rw [hlen]; exact hr
      exact ⟨_, List.getElem_mem hr', by rw [labAt_get hr'] at hne; simpa using hne⟩
    rcases ho.1 with rfl | rfl | rfl
    · refine key p (by omega) ?_
      rw [hla p (by omega), if_pos rfl, if_neg (by decide)]; omega
    · have hi := o1 (.inr rfl)
      obtain ⟨_, x, hx, hne⟩ := h1 (cols.getD i []) (by rw [getD_at _ _ _ hi]; exact List.getElem_mem hi)
      obtain ⟨d, hd, rfl⟩ := List.mem_iff_getElem.1 hx
      have hdn : d < n := by rw [← hl (cols.getD i []) (by rw [getD_at _ _ _ hi]; exact List.getElem_mem hi)]; exact hd
      have hof : offW p (if d < p then d else d + 1) = d := by
        unfold offW
        by_cases h : d < p
        · rw [if_pos h, if_pos h]
        · rw [if_neg h, if_neg (by omega)]; omega
      have hrp : (if d < p then d else d + 1) ≠ p := by split <;> omega
      have hrn : (if d < p then d else d + 1) < n + 1 := by split <;> omega
      refine key _ hrn ?_
      rw [hla _ hrn, if_neg hrp, if_neg (by decide), hof, labAt_get hd]
      exact hne
    · refine key p (by omega) ?_
      rw [hla p (by omega), if_pos rfl, if_neg (by decide)]; omega
  · rw [hW] at hk
    by_cases hkp : k = p
    · subst hkp
      rw [wl_getD]
      exact hrows.1
    · rw [← wl_erase W hkp]
      have := hrows.2 k hk hkp 0
      rw [List.drop_zero] at this
      unfold insE
      rw [this]
      exact h2 _ (by unfold offW; split <;> omega)
theorem progE_al {ws : List Int} {gap : Int} (hc : checkC ws gap = 0) (W : List (List Snd)) (h8 : W.length ≤ 8) : ∀ k, k ≤ W.length → isAl (W.take k) (progE ws gap W k) = true
  | 0, _ => by
    rw [List.take_zero]; rfl
  | k + 1, hk => by
    have ih := progE_al hc W h8 k (by omega)
    have hlen : (W.take (k + 1)).length = k + 1 := by rw [List.length_take]; omega
    have he : (W.take (k + 1)).eraseIdx k = W.take k := by
      rw [List.eraseIdx_eq_take_drop_succ, List.take_take, Nat.min_eq_left (by omega), List.drop_eq_nil_of_le (by omega), List.append_nil]
    have hg : (W.take (k + 1)).getD k [] = W.getD k [] := getD_take _ _ _ _ (by omega)
    have := insE_al (cost := columnE ws gap W) (cols := progE ws gap W k) hlen (Nat.le_refl k) (cI_nonneg hc W (by omega) (fun x hx => (progE_ent hc W k (by omega) x hx).1) k) (by rw [he]; exact ih)
    rw [hg] at this
    rw [progE_step]; exact this
end Go.Sy
