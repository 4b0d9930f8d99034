/- Alignments: the first of the smallest cost has that cost; none costs less; what is left without its first pair is none. -/
import Derived.Test.YtedfogpnmpmggaaDoorBc
set_option linter.unusedSimpArgs false
set_option linter.unusedVariables false
namespace Go.Sy
open Go Go.RowKit
section
variable {d : Snd → Snd → Int} {g : Int} {a b : List Snd} {i j : Nat}
theorem RA_both (hi : i < a.length) (hj : j < b.length) : RA d g a b i j ≤ d a[i] b[j] + RA d g a b (i + 1) (j + 1) := by
  unfold RA; rw [List.drop_eq_getElem_cons hi, List.drop_eq_getElem_cons hj]; exact rst_sub ..
theorem RA_one (hi : i < a.length) : RA d g a b i j ≤ g + RA d g a b (i + 1) j := by
  unfold RA; rw [List.drop_eq_getElem_cons hi]; exact rst_del ..
theorem RA_two (hj : j < b.length) : RA d g a b i j ≤ g + RA d g a b i (j + 1) := by
  unfold RA; rw [List.drop_eq_getElem_cons hj]; exact rst_ins ..
theorem RA_end (hi : a.length ≤ i) (hj : b.length ≤ j) : RA d g a b i j = 0 := by
  unfold RA; rw [List.drop_of_length_le hi, List.drop_of_length_le hj]; exact rst_nn ..
theorem stepsA_mem {x : Stp} (h : x ∈ stepsA d g a b i j) : (∃ (hi : i < a.length) (hj : j < b.length), x = (i + 1, j + 1, d a[i] b[j])) ∨ (i < a.length ∧ x = (i + 1, j, g)) ∨ (j < b.length ∧ x = (i, j + 1, g)) := by
  unfold stepsA at h
  rcases Nat.lt_or_ge i a.length with hi | hi <;> rcases Nat.lt_or_ge j b.length with hj | hj
  · rw [List.getElem?_eq_getElem hi, List.getElem?_eq_getElem hj] at h
    simp only [List.mem_cons, List.not_mem_nil, or_false] at h
    rcases h with h | h | h
    · exact .inl ⟨hi, hj, h⟩
    · exact .inr (.inl ⟨hi, h⟩)
    · exact .inr (.inr ⟨hj, h⟩)
  · rw [List.getElem?_eq_getElem hi, List.getElem?_eq_none hj] at h
    simp only [List.mem_cons, List.not_mem_nil, or_false] at h
    exact .inr (.inl ⟨hi, h⟩)
  · rw [List.getElem?_eq_none hi, List.getElem?_eq_getElem hj] at h
    simp only [List.mem_cons, List.not_mem_nil, or_false] at h
    exact .inr (.inr ⟨hj, h⟩)
  · rw [List.getElem?_eq_none hi, List.getElem?_eq_none hj] at h
    simp at h
theorem cheapA_ne (h : i < a.length ∨ j < b.length) : cheapA d g a b i j ≠ [] := by
  refine List.ne_nil_of_length_pos ?_
  suffices ∃ x, x ∈ cheapA d g a b i j by obtain ⟨x, hx⟩ := this; exact List.length_pos_of_mem hx
  unfold cheapA
  simp only [List.mem_filter, beq_iff_eq]
  unfold stepsA
  rcases Nat.lt_or_ge i a.length with hi | hi <;> rcases Nat.lt_or_ge j b.length with hj | hj
  · rw [List.getElem?_eq_getElem hi, List.getElem?_eq_getElem hj]
    have hc := rst_cc d g a[i] (a.drop (i + 1)) b[j] (b.drop (j + 1))
    have hd : d a[i] b[j] + RA d g a b (i + 1) (j + 1) = RA d g a b i j ∨ g + RA d g a b (i + 1) j = RA d g a b i j ∨ g + RA d g a b i (j + 1) = RA d g a b i j := by
      simp only [RA, List.drop_eq_getElem_cons hi, List.drop_eq_getElem_cons hj]
      omega
    rcases hd with e | e | e
    · exact ⟨_, List.mem_cons_self, e⟩
    · exact ⟨(i + 1, j, g), by simp, e⟩
    · exact ⟨(i, j + 1, g), by simp, e⟩
  · rw [List.getElem?_eq_getElem hi, List.getElem?_eq_none hj]
    refine ⟨(i + 1, j, g), by simp, ?_⟩
    simp only [RA, List.drop_eq_getElem_cons hi, List.drop_of_length_le hj, rst_cn]
  · rw [List.getElem?_eq_none hi, List.getElem?_eq_getElem hj]
    refine ⟨(i, j + 1, g), by simp, ?_⟩
    simp only [RA, List.drop_eq_getElem_cons hj, List.drop_of_length_le hi, rst_nc]
  · omega
theorem scoreA_alg (n : Nat) (i j : Nat) (h : (a.length - i) + (b.length - j) ≤ n) : scoreA d g a b (algA d g a b n i j) i j = some (RA d g a b i j) := by
  induction n generalizing i j with
  | zero =>
    rw [algA, scoreA, if_pos (by omega), RA_end (by omega) (by omega)]
  | succ n ih =>
    rw [algA]
    by_cases he : a.length ≤ i ∧ b.length ≤ j
    · have : cheapA d g a b i j = [] := by
        unfold cheapA stepsA
        rw [List.getElem?_eq_none he.1, List.getElem?_eq_none he.2]; rfl
      rw [this]
      show scoreA d g a b [] i j = _
      rw [scoreA, if_pos he, RA_end he.1 he.2]
    · cases hc : cheapA d g a b i j with
      | nil => exact absurd hc (cheapA_ne (by omega))
      | cons x l =>
        have hx : x ∈ cheapA d g a b i j := by rw [hc]; simp
        unfold cheapA at hx
        obtain ⟨hm, hcost⟩ := List.mem_filter.1 hx
        rw [beq_iff_eq] at hcost
        show scoreA d g a b (_ :: _) i j = _
        rw [scoreA_cons]
        rcases stepsA_mem hm with ⟨hi, hj, rfl⟩ | ⟨hi, rfl⟩ | ⟨hj, rfl⟩
        · rw [stepQ_both hi hj (by simp) (by simp), Option.bind_some, ih _ _ (by simp only; omega), ← hcost]; rfl
        · rw [stepQ_one hi (by simp) (by simp), Option.bind_some, ih _ _ (by simp only; omega), ← hcost]; rfl
        · rw [stepQ_two hj (by simp) (by simp), Option.bind_some, ih _ _ (by simp only; omega), ← hcost]; rfl
theorem scoreA_algn : scoreA d g a b (algn d g a b) 0 0 = some (rst d g a b) := by
  unfold algn
  rw [scoreA_alg _ 0 0 (by omega)]; rfl
theorem stepQ_inv {x : Int × Int} {s : Stp} (h : stepQ d g a b i j x = some s) : (i < a.length ∧ j < b.length ∧ x = ((i : Int), (j : Int)) ∧ s.1 = i + 1 ∧ s.2.1 = j + 1) ∨ (i < a.length ∧ x = ((i : Int), -1) ∧ s.1 = i + 1 ∧ s.2.1 = j) ∨ (j < b.length ∧ x = (-1, (j : Int)) ∧ s.1 = i ∧ s.2.1 = j + 1) := by
  unfold stepQ at h
  rcases Nat.lt_or_ge i a.length with hi | hi <;> rcases Nat.lt_or_ge j b.length with hj | hj
  · rw [List.getElem?_eq_getElem hi, List.getElem?_eq_getElem hj] at h
    simp only at h
    split at h
    · cases h; rename_i e; exact .inl ⟨hi, hj, e, rfl, rfl⟩
    · split at h
      · cases h; rename_i e; exact .inr (.inl ⟨hi, e, rfl, rfl⟩)
      · split at h
        · cases h; rename_i e; exact .inr (.inr ⟨hj, e, rfl, rfl⟩)
        · cases h
  · rw [List.getElem?_eq_getElem hi, List.getElem?_eq_none hj] at h
    simp only at h
    split at h
    · cases h; rename_i e; exact .inr (.inl ⟨hi, e, rfl, rfl⟩)
    · cases h
  · rw [List.getElem?_eq_none hi, List.getElem?_eq_getElem hj] at h
    simp only at h
    split at h
    · cases h; rename_i e; exact .inr (.inr ⟨hj, e, rfl, rfl⟩)
    · cases h
  · rw [List.getElem?_eq_none hi, List.getElem?_eq_none hj] at h
    cases h
def cnt1 (l : List (Int × Int)) : Nat := (l.filter fun x => decide (0 ≤ x.1)).length
def cnt2 (l : List (Int × Int)) : Nat := (l.filter fun x => decide (0 ≤ x.2)).length
theorem cnt1_cons (x : Int × Int) (l : List (Int × Int)) : cnt1 (x :: l) = (if 0 ≤ x.1 then 1 else 0) + cnt1 l := by
  unfold cnt1; rw [List.filter_cons]; by_cases h : 0 ≤ x.1 <;> simp [h]; omega
theorem cnt2_cons (x : Int × Int) (l : List (Int × Int)) : cnt2 (x :: l) = (if 0 ≤ x.2 then 1 else 0) + cnt2 l := by
  unfold cnt2; rw [List.filter_cons]; by_cases h : 0 ≤ x.2 <;> simp [h]; omega
theorem scoreA_cnt (l : List (Int × Int)) (i j : Nat) (hi : i ≤ a.length) (hj : j ≤ b.length) {s : Int} (h : scoreA d g a b l i j = some s) : cnt1 l + i = a.length ∧ cnt2 l + j = b.length := by
  induction l generalizing i j s with
  | nil =>
    rw [scoreA] at h
    split at h
    · exact ⟨by simp [cnt1]; omega, by simp [cnt2]; omega⟩
    · cases h
  | cons x l ih =>
    rw [scoreA_cons] at h
    cases hq : stepQ d g a b i j x with
    | none => rw [hq] at h; cases h
    | some t =>
      rw [hq, Option.bind_some] at h
      cases hr : scoreA d g a b l t.1 t.2.1 with
      | none => rw [hr] at h; cases h
      | some r =>
        rw [cnt1_cons, cnt2_cons]
        rcases stepQ_inv hq with ⟨h1, h2, rfl, e1, e2⟩ | ⟨h1, rfl, e1, e2⟩ | ⟨h2, rfl, e1, e2⟩
        · have := ih _ _ (by omega) (by omega) hr
          rw [e1, e2] at this
          simp only [Int.natCast_nonneg, if_true]; omega
        · have := ih _ _ (by omega) (by omega) hr
          rw [e1, e2] at this
          simp only [Int.natCast_nonneg, if_true]; simp; omega
        · have := ih _ _ (by omega) (by omega) hr
          rw [e1, e2] at this
          simp only [Int.natCast_nonneg, if_true]; simp; omega
theorem scoreA_tail {x : Int × Int} {l : List (Int × Int)} {s : Int} (h : scoreA d g a b (x :: l) 0 0 = some s) : scoreA d g a b l 0 0 = none := by
  cases hl : scoreA d g a b l 0 0 with
  | none => rfl
  | some r =>
    have h1 := scoreA_cnt _ 0 0 (Nat.zero_le _) (Nat.zero_le _) h
    have h2 := scoreA_cnt _ 0 0 (Nat.zero_le _) (Nat.zero_le _) hl
    rw [cnt1_cons, cnt2_cons] at h1
    exfalso
    rw [scoreA_cons] at h
    cases hq : stepQ d g a b 0 0 x with
    | none => rw [hq] at h; cases h
    | some t =>
      rcases stepQ_inv hq with ⟨_, _, rfl, _⟩ | ⟨_, rfl, _⟩ | ⟨_, rfl, _⟩ <;> simp at h1 <;> omega
/-- What a walk from the start has cost so far. -/
def Walked (d : Snd → Snd → Int) (g : Int) (a b : List Snd) (out : List (Int × Int)) (s : Int) (i j : Nat) : Prop := ∀ rest, scoreA d g a b (out ++ rest) 0 0 = (scoreA d g a b rest i j).map (s + ·)
theorem Walked.nil : Walked d g a b [] 0 0 0 := fun rest => by cases h : scoreA d g a b rest 0 0 <;> simp [h]
theorem Walked.step {out : List (Int × Int)} {s c : Int} {i' j' : Nat} {x : Int × Int} (h : Walked d g a b out s i j) (hx : stepQ d g a b i j x = some (i', j', c)) : Walked d g a b (out ++ [x]) (s + c) i' j' := fun rest => by
  rw [List.append_assoc]
  show scoreA d g a b (out ++ (x :: rest)) 0 0 = _
  rw [h, scoreA_cons, hx, Option.bind_some, map_map_add]
theorem Walked.done {out : List (Int × Int)} {s : Int} (h : Walked d g a b out s i j) (hi : a.length ≤ i) (hj : b.length ≤ j) : scoreA d g a b out 0 0 = some s := by
  have := h []
  rw [List.append_nil, scoreA, if_pos ⟨hi, hj⟩] at this
  rw [this]; simp
theorem way_bound (a b : List Snd) : way d g a b ≤ 3 ^ (a.length + b.length) := by
  refine pair_ind (M := fun a b => way d g a b ≤ 3 ^ (a.length + b.length)) (by rw [way_nn]; decide) ?_ ?_ ?_ a b
  · intro y b h
    rw [way_nc, List.length_cons, ← Nat.add_assoc, Nat.pow_succ]; omega
  · intro x a h
    rw [way_cn, List.length_cons, show a.length + 1 + ([] : List Snd).length = (a.length + ([] : List Snd).length) + 1 by omega, Nat.pow_succ]; omega
  · intro x a y b h1 h2 h3
    rw [way_cc]
    simp only [List.length_cons] at *
    rw [show a.length + (b.length + 1) = a.length + b.length + 1 by omega, Nat.pow_succ] at h2
    rw [show a.length + 1 + b.length = a.length + b.length + 1 by omega, Nat.pow_succ] at h3
    rw [show a.length + 1 + (b.length + 1) = a.length + b.length + 1 + 1 by omega, Nat.pow_succ, Nat.pow_succ]
    unfold sat
    split <;> split <;> split <;> omega
end
end Go.Sy
