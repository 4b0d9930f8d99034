/- Plain facts: columns, candidates, states of all nodes. -/
import Derived.Test.YtkhcfbdjmpodbaaDoorK7
set_option linter.unusedSimpArgs false
set_option linter.unusedVariables false
namespace Go.Sy
open Go Go.RowKit Go.Proofs.YtkhcfbdjmpodbaaDoor
theorem wordsW_at {l : List FD} {i : Nat} (hi : i < l.length) (hb : hasB l i = true) : (wordsW l).getD (rankF l i) [] = l[i].w.w := by
  have := wordsL_at (Nat.le_refl l.length) hi hb
  unfold wordsW
  rw [List.getD_eq_getElem?_getD, List.getElem?_map, this]; rfl
theorem rank_lt {l : List FD} {i : Nat} (hi : i < l.length) (hb : hasB l i = true) : rankF l i < rankF l l.length := by
  have h1 : rankF l (i + 1) = rankF l i + 1 := by show _ + _ = _; rw [if_pos hb]
  have h2 := rankF_mono l (show i + 1 ≤ l.length by omega)
  omega
theorem entC_at {l : List FD} {W : List (List Snd)} {col : List Int} {i : Nat} (hi : i < l.length) : (entC l W col (rankF l l.length))[i]? = some (if hasB l i = true then cellE (W.getD (rankF l i) []) (labAt col (rankF l i)) else (0, (0, 0))) := by
  unfold entC
  rw [List.getElem?_map, List.getElem?_range hi, Option.map_some]
  congr 1
  by_cases hb : hasB l i = true
  · rw [if_pos hb, hb, decide_eq_true (rank_lt hi hb)]; rfl
  · rw [if_neg hb, show hasB l i = false by simpa using hb]; rfl
theorem goodF_of {f : FD} (h : goodF f = true) : f.w.w.length ≤ 8 ∧ checkW f.w.w = 0 ∧ (f.has = false → f.w.w = []) := by
  unfold goodF at h
  simp only [Bool.and_eq_true, Bool.or_eq_true, decide_eq_true_eq] at h
  refine ⟨h.1.1, h.1.2, fun h1 => ?_⟩
  rcases h.2 with h2 | h2
  · rw [h1] at h2; cases h2
  · exact List.length_eq_zero_iff.1 h2
structure ColsOk (l : List FD) (cols : List (List CE)) : Prop where
  most : cols.length ≤ 40
  len : ∀ col ∈ cols, col.length = l.length
  ok : ∀ col ∈ cols, ∀ y ∈ col, okCE y
  has : ∀ col ∈ cols, ∀ i y, col[i]? = some y → (y.1 ≠ 0 ↔ hasB l i = true)
theorem AlOk.cols {l : List FD} {ws : List Int} {gap : Int} {cols : List (List CE)} (h : AlOk l ws gap cols) : ColsOk l cols := by
  have h5 := h.five
  have hrk := rankF_le l l.length
  have hWl := wordsW_len l
  obtain ⟨_, _, hal⟩ := checkA_zero h.al
  have hent := isAl_ent hal
  have hcells := h.cells
  have cell : ∀ col0 ∈ progE ws gap (wordsW l) (wordsW l).length, ∀ i (hi : i < l.length), hasB l i = true → okCE (cellE ((wordsW l).getD (rankF l i) []) (labAt col0 (rankF l i))) ∧ (cellE ((wordsW l).getD (rankF l i) []) (labAt col0 (rankF l i))).1 ≠ 0 := fun col0 hc0 i hi hb => by
    obtain ⟨hl0, he⟩ := hent col0 hc0
    have hr := rank_lt hi hb
    have hx := he (rankF l i) (by omega)
    have hw := wordsW_at hi hb
    rw [wl_getD, hw] at hx
    rw [hw]
    unfold cellE
    by_cases hm : labAt col0 (rankF l i) = -1
    · rw [if_pos hm]; exact ⟨.inr (.inl ⟨rfl, rfl⟩), by decide⟩
    · rw [if_neg hm]
      have hlt : (labAt col0 (rankF l i)).toNat < l[i].w.w.length := by omega
      rw [getD_at _ _ _ hlt]
      have hv := (checkW_zero (goodF_of (h.good _ (List.getElem_mem hi))).2.1).2 _ (List.getElem_mem hlt)
      exact ⟨.inr (.inr ⟨rfl, hv, Sok.of_valid hv⟩), by show (2 : Int) ≠ 0; decide⟩
  refine ⟨?_, fun col hc => ?_, fun col hc y hy => ?_, fun col hc i y hi => ?_⟩
  · rw [hcells]
    unfold entryC
    rw [List.length_map]
    have h1 := progE_len ws gap (wordsW l) (wordsW l).length
    have h2 := sumL8_le (W := wordsW l) (fun w hw => by obtain ⟨f, hf, _, rfl⟩ := wordsW_mem hw; exact (goodF_of (h.good f hf)).1) (wordsW l).length
    omega
  · rw [hcells] at hc
    obtain ⟨col0, _, rfl⟩ := List.mem_map.1 hc
    exact entC_len ..
  · rw [hcells] at hc
    obtain ⟨col0, hc0, rfl⟩ := List.mem_map.1 hc
    obtain ⟨i, hi⟩ := List.mem_iff_getElem?.1 hy
    have hil : i < l.length := by
      have := (List.getElem?_eq_some_iff.1 hi).1
      rwa [entC_len] at this
    rw [entC_at hil] at hi
    cases hi
    split
    · rename_i hb; exact (cell col0 hc0 i hil hb).1
    · exact .inl ⟨rfl, rfl⟩
  · rw [hcells] at hc
    obtain ⟨col0, hc0, rfl⟩ := List.mem_map.1 hc
    have hil : i < l.length := by
      have := (List.getElem?_eq_some_iff.1 hi).1
      rwa [entC_len] at this
    rw [entC_at hil] at hi
    cases hi
    split
    · rename_i hb
      exact ⟨fun _ => hb, fun _ => (cell col0 hc0 i hil hb).2⟩
    · rename_i hb
      exact ⟨fun h => absurd rfl h, fun h => absurd h hb⟩
def addC (cs : List Snd) (x : CE) : List Snd := if x.1 ≠ 2 ∨ x.2 ∈ cs then cs else cs ++ [x.2]
def candsC (cs : List Snd) (l : List CE) : List Snd := l.foldl addC cs
def candsE (cols : List (List CE)) : List Snd := cols.foldl candsC []
theorem addC_mem {cs : List Snd} {x : CE} {s : Snd} (h : s ∈ cs) : s ∈ addC cs x := by
  unfold addC; split
  · exact h
  · exact List.mem_append_left _ h
theorem candsC_mem {cs : List Snd} {l : List CE} {s : Snd} (h : s ∈ cs) : s ∈ candsC cs l := by
  induction l generalizing cs with
  | nil => exact h
  | cons x l ih => exact ih (addC_mem h)
theorem candsC_has {cs : List Snd} {l : List CE} {x : CE} (hx : x ∈ l) (h2 : x.1 = 2) : x.2 ∈ candsC cs l := by
  induction l generalizing cs with
  | nil => cases hx
  | cons y l ih =>
    rcases List.mem_cons.1 hx with rfl | hx
    · show x.2 ∈ candsC (addC cs x) l
      refine candsC_mem ?_
      unfold addC
      split
      · rename_i h; rcases h with h | h
        · exact absurd h2 h
        · exact h
      · exact List.mem_append_right _ (by simp)
    · exact ih hx
theorem cands_keep {cols : List (List CE)} {cs : List Snd} {s : Snd} (h : s ∈ cs) : s ∈ cols.foldl candsC cs := by
  induction cols generalizing cs with
  | nil => exact h
  | cons l cols ih => exact ih (candsC_mem h)
theorem cands_has {cols : List (List CE)} {cs : List Snd} {l : List CE} {x : CE} (hl : l ∈ cols) (hx : x ∈ l) (h2 : x.1 = 2) : x.2 ∈ cols.foldl candsC cs := by
  induction cols generalizing cs with
  | nil => cases hl
  | cons k cols ih =>
    rcases List.mem_cons.1 hl with rfl | hl
    · show x.2 ∈ List.foldl candsC (candsC cs l) cols
      exact cands_keep (candsC_has hx h2)
    · exact ih hl
theorem addC_ok {cs : List Snd} {x : CE} (h : OkC cs) (hx : okCE x) : OkC (addC cs x) := by
  unfold addC
  split
  · exact h
  · rename_i hn
    have h2 : x.1 = 2 := Decidable.not_not.1 fun e => hn (.inl e)
    have hv : Go.Sy.valid x.2 = true := by
      rcases hx with ⟨e, _⟩ | ⟨e, _⟩ | ⟨_, e, _⟩
      · omega
      · omega
      · exact e
    refine ⟨fun s hs => ?_, ?_⟩
    · rcases List.mem_append.1 hs with hs | hs
      · exact h.valid s hs
      · rw [List.mem_singleton] at hs; subst hs; exact hv
    · rw [List.nodup_append]
      refine ⟨h.nodup, by simp, fun a ha b hb e => ?_⟩
      rw [List.mem_singleton] at hb
      subst hb; subst e
      exact hn (.inr ha)
theorem candsC_ok {cs : List Snd} {l : List CE} (h : OkC cs) (hx : ∀ y ∈ l, okCE y) : OkC (candsC cs l) := by
  induction l generalizing cs with
  | nil => exact h
  | cons x l ih => exact ih (addC_ok h (hx x (.head _))) fun y hy => hx y (.tail _ hy)
theorem cands_ok {cols : List (List CE)} {cs : List Snd} (h : OkC cs) (hx : ∀ l ∈ cols, ∀ y ∈ l, okCE y) : OkC (cols.foldl candsC cs) := by
  induction cols generalizing cs with
  | nil => exact h
  | cons l cols ih => exact ih (candsC_ok h (hx l (.head _))) fun k hk => hx k (.tail _ hk)
theorem addC_le (cs : List Snd) (x : CE) : (addC cs x).length ≤ cs.length + 1 := by unfold addC; split <;> simp
theorem candsC_le (cs : List Snd) (l : List CE) : (candsC cs l).length ≤ cs.length + l.length := by
  induction l generalizing cs with
  | nil => exact Nat.le_refl _
  | cons x l ih =>
    have h1 := ih (addC cs x)
    have h2 := addC_le cs x
    show (candsC (addC cs x) l).length ≤ _
    rw [List.length_cons]; omega
theorem cands_le {n : Nat} {cols : List (List CE)} {cs : List Snd} (h : ∀ l ∈ cols, l.length ≤ n) : (cols.foldl candsC cs).length ≤ cs.length + cols.length * n := by
  induction cols generalizing cs with
  | nil => simp
  | cons l cols ih =>
    have h1 := ih (cs := candsC cs l) fun k hk => h k (.tail _ hk)
    have h2 := candsC_le cs l
    have h3 := h l (.head _)
    show (cols.foldl candsC (candsC cs l)).length ≤ _
    rw [List.length_cons, Nat.succ_mul]; omega
theorem candsE_ok {l : List FD} {cols : List (List CE)} (h : ColsOk l cols) : OkC (candsE cols) := cands_ok ⟨nofun, List.nodup_nil⟩ h.ok
theorem candsE_known {l : List FD} {cols : List (List CE)} (h : ColsOk l cols) : ∀ col ∈ cols, ∀ y ∈ col, knownCE (candsE cols) y := fun col hc y hy => ⟨h.ok col hc y hy, fun h2 => cands_has hc hy h2⟩
theorem colsOk_cols {l : List FD} {cols : List (List CE)} {t : List ND} (h : ColsOk l cols) (hl : l.length = (leavesL t).length) : OkCols (candsE cols) t cols := ⟨by have := h.most; omega, fun col hc => by rw [h.len col hc, hl], candsE_known h⟩
def allS (t : List ND) (col : List CE) (y : CE) : Nat → List CE
  | 0 => List.replicate t.length y
  | j + 1 => if (col.getD j (0, (0, 0))).1 ≠ 0 then (allS t col y j).set (labAt (leavesL t) j).toNat (col.getD j (0, (0, 0))) else allS t col y j
theorem allS_len (t : List ND) (col : List CE) (y : CE) (j : Nat) : (allS t col y j).length = t.length := by
  induction j with
  | zero => exact List.length_replicate
  | succ j ih => unfold allS; split <;> simp [ih]
theorem allS_mem {t : List ND} {col : List CE} {y : CE} {p : CE → Prop} (hy : p y) (hc : ∀ z ∈ col, z.1 ≠ 0 → p z) : ∀ {j : Nat}, j ≤ col.length → ∀ z ∈ allS t col y j, p z
  | 0, _, z, hz => by rw [List.eq_of_mem_replicate hz]; exact hy
  | j + 1, hj, z, hz => by
    have ih := allS_mem (t := t) hy hc (j := j) (by omega)
    unfold allS at hz
    split at hz
    · rename_i hn
      rcases List.mem_or_eq_of_mem_set hz with hz | rfl
      · exact ih z hz
      · rw [getD_at _ _ _ (by omega)] at hn ⊢
        exact hc _ (List.getElem_mem (by omega)) hn
    · exact ih z hz
theorem allS_leaf {t : List ND} {col : List CE} {y : CE} (hl : col.length = (leavesL t).length) : ∀ {j : Nat}, j ≤ col.length → ∀ i, i < j → (col.getD i (0, (0, 0))).1 ≠ 0 → (allS t col y j)[(labAt (leavesL t) i).toNat]? = some (col.getD i (0, (0, 0)))
  | 0, _, i, hi, _ => by omega
  | j + 1, hj, i, hi, hn => by
    have lt : ∀ i, i < (leavesL t).length → (labAt (leavesL t) i).toNat < t.length ∧ labAt (leavesL t) i = ((labAt (leavesL t) i).toNat : Nat) := fun i hi => by
      obtain ⟨v, hv, hvt⟩ := leavesL_mem (List.getElem_mem hi)
      rw [labAt_get hi, hv]
      exact ⟨by simpa using hvt, by simp⟩
    by_cases e : i = j
    · subst e
      unfold allS
      rw [if_pos hn, List.getElem?_set_self (by rw [allS_len]; exact (lt i (by omega)).1)]
    · have ih := allS_leaf (t := t) (y := y) hl (j := j) (by omega) i (by omega) hn
      unfold allS
      split
      · rw [List.getElem?_set_ne, ih]
        intro h
        have h1 := (lt i (by omega)).2
        have h2 := (lt j (by omega)).2
        exact e (labAt_inj (leavesL_nodup t) (by omega) (by omega) (by rw [h1, h2, h]))
      · exact ih
theorem stateE_pos {cs : List Snd} {x : CE} (h : x.1 ≠ 0) : 0 ≤ stateE cs x := by
  unfold stateE
  rw [if_neg h]
  split <;> omega
theorem best_le {t : List ND} {rm : List IR} {cs : List Snd} {col : List CE} {y : CE} (hE : treeE t = 0) (hrc : rm.length = cs.length + 1) (hl : col.length = (leavesL t).length) (hk : ∀ z ∈ col, knownCE cs z) (hy : y ∈ col) (hy0 : y.1 ≠ 0) :
    bestN cs t rm col ≤ changeE t rm ((allS t col y col.length).map (stateE cs)) := by
  have hall := allS_mem (t := t) (col := col) (y := y) (p := fun z => knownCE cs z ∧ z.1 ≠ 0) ⟨hk y hy, hy0⟩ (fun z hz h0 => ⟨hk z hz, h0⟩) (Nat.le_refl _)
  have hA : OkA t rm.length ((allS t col y col.length).map (stateE cs)) := ⟨by rw [List.length_map, allS_len], fun s hs => by
    obtain ⟨z, hz, rfl⟩ := List.mem_map.1 hs
    have h1 := stateE_range (hall z hz).1
    have h2 := stateE_pos (cs := cs) (hall z hz).2
    omega⟩
  have hkn : knownL col = true := List.any_eq_true.2 ⟨y, hy, by simpa using hy0⟩
  unfold bestN
  rw [if_pos hkn]
  refine least_le hE hA fun i hi v hv => ?_
  have hic : i < col.length := by omega
  have hst : labAt (col.map (stateE cs)) i = stateE cs col[i] := by unfold labAt; rw [List.getElem?_map, List.getElem?_eq_getElem hic]; rfl
  rw [hst]
  by_cases h0 : col[i].1 = 0
  · left; unfold stateE; rw [if_pos h0]
  · right
    have hleaf := allS_leaf (t := t) (y := y) hl (Nat.le_refl _) i hic (by rw [getD_at _ _ _ hic]; exact h0)
    rw [hv, getD_at _ _ _ hic, Int.toNat_natCast] at hleaf
    have : labAt ((allS t col y col.length).map (stateE cs)) v = stateE cs col[i] := by unfold labAt; rw [List.getElem?_map, hleaf]; rfl
    show stateE cs col[i] = ((labAt ((allS t col y col.length).map (stateE cs)) v).toNat : Int)
    rw [this]
    have := stateE_pos (cs := cs) h0
    omega
end Go.Sy
