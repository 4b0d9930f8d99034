/- Chapter 18: ways to add a word; without it, the old columns are left; plain law. -/
import Derived.Test.YtialbhieaipcgaaDoorYj
set_option linter.unusedSimpArgs false
set_option linter.unusedVariables false
namespace Go.Sy
open Go Go.RowKit
theorem lookS_last {cols : List (List Int)} {n i : Nat} {j : Int} {w : Nat} (hl : ∀ x ∈ cols, x.length = n) (hi : w = 1 ∨ w = 2 → i < cols.length) (hw : w = 1 ∨ w = 2 ∨ w = 3) : lookS cols n n i j w = (if w = 3 then List.replicate n (-1) else cols.getD i []) ++ [if w = 2 then -1 else j] := by
  have hx : ∀ h : i < cols.length, (cols.getD i []).length = n := fun h => by rw [getD_at _ _ _ h]; exact hl _ (List.getElem_mem h)
  have hins : ∀ (l : List Int) (x : Int), l.length = n → insS l n x = l ++ [x] := fun l x h => by
    unfold insS
    rw [List.take_of_length_le (by omega), List.drop_eq_nil_of_le (by omega), List.append_nil]
  unfold lookS
  rcases hw with rfl | rfl | rfl
  · rw [if_pos (by decide), hins _ _ (hx (hi (.inl rfl))), if_neg (by decide), if_neg (by decide)]
  · rw [if_neg (by decide), if_pos (by decide), hins _ _ (hx (hi (.inr rfl))), if_neg (by decide), if_pos rfl]
  · rw [if_neg (by decide), if_neg (by decide), newS_ins' _ _ _ (Nat.le_refl n), hins _ _ (List.length_replicate), if_pos rfl, if_neg (by decide)]
theorem erase_last (l : List Int) (x : Int) : (l ++ [x]).eraseIdx l.length = l := by
  rw [List.eraseIdx_append_of_length_le (Nat.le_refl _), Nat.sub_self]
  exact List.append_nil _
section
variable {cost : List Int → Int} {cols : List (List Int)} {n wn : Nat}
/-- Without the added word, the old columns are left. -/
theorem without_out (hc : ∀ w i j, 0 ≤ cI cost cols n n w i j) (hl : ∀ x ∈ cols, x.length = n ∧ ∃ y ∈ x, y ≠ -1) : ∀ k i j, i ≤ cols.length → j ≤ wn → cols.length - i + (wn - j) ≤ k →
    withoutS (outI (cI cost cols n n) cols.length wn (fun w i j => lookS cols n n i j w) k i j) n = cols.drop i := by
  have hls : ∀ x ∈ cols, x.length = n := fun x hx => (hl x hx).1
  intro k
  induction k with
  | zero =>
    intro i j hi hj hk
    obtain rfl : i = cols.length := by omega
    obtain rfl : j = wn := by omega
    rw [outI_end, List.drop_length]; rfl
  | succ k ih =>
    intro i j hi hj hk
    by_cases hne : i = cols.length ∧ j = wn
    · obtain ⟨rfl, rfl⟩ := hne
      rw [outI_end, List.drop_length]; rfl
    · rw [outI_go _ _ _ _ hne]
      have ho := way_open hc hi hj hne
      obtain ⟨o1, o2⟩ := open_lt ho
      have hg := @after_grows i j (wayI (cI cost cols n n) cols.length wn i j)
      generalize wayI (cI cost cols n n) cols.length wn i j = w at *
      obtain ⟨hw, h1, h2⟩ := ho
      have ih := ih (afterS i j w).1 (afterS i j w).2 h1 h2 (by omega)
      have hcons : ∀ (c : List Int) (cs : List (List Int)), withoutS (c :: cs) n = if hasS (c.eraseIdx n) = true then c.eraseIdx n :: withoutS cs n else withoutS cs n := fun c cs => by
        unfold withoutS
        rw [List.map_cons, List.filter_cons]
      have hkeep : ∀ (h : i < cols.length) (x : Int), (cols.getD i [] ++ [x]).eraseIdx n = cols.getD i [] ∧ hasS (cols.getD i []) = true := fun h x => by
        have hm : cols.getD i [] ∈ cols := by rw [getD_at _ _ _ h]; exact List.getElem_mem h
        obtain ⟨e, y, hy, hne⟩ := hl _ hm
        refine ⟨?_, List.any_eq_true.2 ⟨y, hy, by simpa using hne⟩⟩
        conv => lhs; rw [← e]
        exact erase_last _ _
      have e := lookS_last (j := (j : Int)) hls o1 hw
      rcases hw with rfl | rfl | rfl
      · rw [if_neg (by decide)] at e
        rw [e, hcons, (hkeep (o1 (.inl rfl)) _).1, if_pos (hkeep (o1 (.inl rfl)) 0).2, ih, drop_cons (o1 (.inl rfl))]; rfl
      · rw [if_neg (by decide)] at e
        rw [e, hcons, (hkeep (o1 (.inr rfl)) _).1, if_pos (hkeep (o1 (.inr rfl)) 0).2, ih, drop_cons (o1 (.inr rfl))]; rfl
      · have he : (List.replicate n (-1 : Int) ++ [if (3 : Nat) = 2 then -1 else (j : Int)]).eraseIdx n = List.replicate n (-1) := by
          have := erase_last (List.replicate n (-1 : Int)) (if (3 : Nat) = 2 then -1 else (j : Int))
          rw [List.length_replicate] at this; exact this
        have hs : hasS (List.replicate n (-1 : Int)) = false := by
          unfold hasS
          rw [Bool.eq_false_iff]
          intro h
          obtain ⟨y, hy, hne⟩ := List.any_eq_true.1 h
          rw [(List.mem_replicate.1 hy).2] at hne
          exact absurd hne (by decide)
        rw [if_pos rfl] at e
        rw [e, hcons, he, hs, if_neg (by decide), ih]; rfl
/-- Columns that are made on the way from a column and a sound to the end. -/
inductive PathI (cols : List (List Int)) (n p wn : Nat) : Nat → Nat → List (List Int) → Prop
  | done : PathI cols n p wn cols.length wn []
  | step (w i j : Nat) (rest : List (List Int)) (ho : openI cols.length wn i j w) (hr : PathI cols n p wn (afterS i j w).1 (afterS i j w).2 rest) : PathI cols n p wn i j (lookS cols n p i j w :: rest)
theorem PathI.bnd {p i j : Nat} {out : List (List Int)} (h : PathI cols n p wn i j out) : i ≤ cols.length ∧ j ≤ wn := by
  cases h with
  | done => exact ⟨Nat.le_refl _, Nat.le_refl _⟩
  | step w i j rest ho hr =>
    have := @after_grows i j w
    have := ho.2
    omega
theorem PathI.costs {p i j : Nat} {out : List (List Int)} (hc : ∀ w i j, 0 ≤ cI cost cols n p w i j) (h : PathI cols n p wn i j out) : AI (cI cost cols n p) cols.length wn i j ≤ (out.map cost).sum := by
  induction h with
  | done => rw [AI_end]; exact Int.le_refl _
  | step w i j rest ho hr ih =>
    have hb := (PathI.step w i j rest ho hr : PathI cols n p wn i j _).bnd
    have h1 := AI_least hc hb.1 hb.2 ho
    rw [List.map_cons, List.sum_cons]
    have h2 : cI cost cols n p w i j = cost (lookS cols n p i j w) := rfl
    omega
theorem PathI.rows {p i j : Nat} {out : List (List Int)} (hp : p ≤ n) (hl : ∀ x ∈ cols, x.length = n) (h : PathI cols n p wn i j out) : rowGo j (rowOf out p) = some (wn : Int) ∧ ∀ r, r < n + 1 → r ≠ p → ∀ x, rowGo x (rowOf out r) = rowGo x (rowOf (cols.drop i) (offW p r)) := by
  induction h with
  | done => rw [List.drop_length]; exact ⟨rfl, fun r hr hne x => rfl⟩
  | step w i j rest ho hr ih =>
    obtain ⟨ih1, ih2⟩ := ih
    obtain ⟨o1, o2⟩ := open_lt ho
    have hw := ho.1
    have hla := fun r (hr : r < n + 1) => lookS_at (j := (j : Int)) hp hl o1 hw hr
    refine ⟨?_, fun r hr hne x => ?_⟩
    · have e := hla p (by omega)
      rw [if_pos rfl] at e
      unfold rowOf at ih1 ⊢
      rw [List.map_cons]
      rcases hw with rfl | rfl | rfl
      · rw [if_neg (by decide)] at e
        rw [e]
        simp only [rowGo]
        rw [if_neg (by omega), if_pos trivial]
        exact ih1
      · rw [if_pos rfl] at e
        rw [e]
        simp only [rowGo]
        rw [if_pos trivial]
        exact ih1
      · rw [if_neg (by decide)] at e
        rw [e]
        simp only [rowGo]
        rw [if_neg (by omega), if_pos trivial]
        exact ih1
    · have ih2 := ih2 r hr hne
      have e := hla r hr
      rw [if_neg hne] at e
      unfold rowOf at ih2 ⊢
      rw [List.map_cons]
      rcases hw with rfl | rfl | rfl
      · rw [if_neg (by decide)] at e
        rw [e, drop_cons (o1 (.inl rfl)), List.map_cons]
        simp only [rowGo]
        split
        · exact ih2 x
        · split
          · exact ih2 _
          · rfl
      · rw [if_neg (by decide)] at e
        rw [e, drop_cons (o1 (.inr rfl)), List.map_cons]
        simp only [rowGo]
        split
        · exact ih2 x
        · split
          · exact ih2 _
          · rfl
      · rw [if_pos rfl] at e
        rw [e]
        simp only [rowGo]
        exact ih2 x
theorem PathI.clen {i j : Nat} {out : List (List Int)} (hl : ∀ x ∈ cols, x.length = n ∧ ∃ y ∈ x, y ≠ -1) (h : PathI cols n n wn i j out) : ∀ x ∈ out, x.length = n + 1 ∧ ∃ y ∈ x, y ≠ -1 := by
  induction h with
  | done => intro x hx; cases hx
  | step w i j rest ho hr ih =>
    intro x hx
    rcases List.mem_cons.1 hx with rfl | hx
    · obtain ⟨o1, o2⟩ := open_lt ho
      refine ⟨lookS_len' (Nat.le_refl n) (fun x hx => (hl x hx).1) o1, ?_⟩
      rw [lookS_last (fun x hx => (hl x hx).1) o1 ho.1]
      rcases ho.1 with rfl | rfl | rfl
      · exact ⟨(j : Int), by simp, by omega⟩
      · have hi := o1 (.inr rfl)
        have hm : cols.getD i [] ∈ cols := by rw [getD_at _ _ _ hi]; exact List.getElem_mem hi
        obtain ⟨_, y, hy, hne⟩ := hl _ hm
        rw [if_neg (by decide)]
        exact ⟨y, List.mem_append_left _ hy, hne⟩
      · exact ⟨(j : Int), by simp, by omega⟩
    · exact ih x hx
end
theorem PathI.al {W : List (List Snd)} {w : List Snd} {cols out : List (List Int)} (hal : isAl W cols = true) (h : PathI cols W.length W.length w.length 0 0 out) : isAl (W ++ [w]) out = true := by
  obtain ⟨h1, h2⟩ := isAl_of hal
  have hl : ∀ x ∈ cols, x.length = W.length := fun x hx => (h1 x hx).1
  obtain ⟨r1, r2⟩ := h.rows (Nat.le_refl _) hl
  refine isAl_yes (fun i hi => ?_) fun k hk => ?_
  · obtain ⟨a, y, hy, hne⟩ := h.clen h1 _ (List.getElem_mem hi)
    unfold colOk
    rw [Bool.and_eq_true]
    exact ⟨decide_eq_true (by rw [a]; simp), List.any_eq_true.2 ⟨y, hy, by simpa using hne⟩⟩
  · rw [List.length_append] at hk
    simp only [List.length_cons, List.length_nil] at hk
    by_cases hkp : k = W.length
    · subst hkp
      rw [show wl (W ++ [w]) W.length = (w.length : Nat) by unfold wl; rw [List.getElem?_append_right (Nat.le_refl _), Nat.sub_self]; rfl]
      exact r1
    · have hk' : k < W.length := by omega
      rw [r2 k (by omega) hkp 0, List.drop_zero, show offW W.length k = k from if_pos hk', h2 k hk']
      congr 1
      unfold wl; rw [List.getElem?_append_left hk']
/-- A word's sounds in columns of their own. -/
def soundsL (n : Nat) (j d : Nat) : List (List Int) := (List.range' j d).map fun x : Nat => List.replicate n (-1 : Int) ++ [(x : Int)]
theorem sounds_path {cols : List (List Int)} {n wn : Nat} (hl : ∀ x ∈ cols, x.length = n) : ∀ d j, j + d = wn → PathI cols n n wn cols.length j (soundsL n j d)
  | 0, j, h => by
    obtain rfl : j = wn := by omega
    exact .done
  | d + 1, j, h => by
    have ih := sounds_path (wn := wn) hl d (j + 1) (by omega)
    have := PathI.step (cols := cols) (n := n) (p := n) (wn := wn) 3 cols.length j (soundsL n (j + 1) d) ⟨.inr (.inr rfl), Nat.le_refl _, by show j + 1 ≤ wn; omega⟩ ih
    rw [lookS_last hl (fun h => by omega) (.inr (.inr rfl)), if_pos rfl, if_neg (by decide)] at this
    unfold soundsL at this ⊢
    rw [List.range'_succ, List.map_cons]
    exact this
/-- The word behind all others. -/
def behindL (cols : List (List Int)) (n wn : Nat) : List (List Int) := cols.map (· ++ [-1]) ++ soundsL n 0 wn
theorem behind_path {cols : List (List Int)} {n wn : Nat} (hl : ∀ x ∈ cols, x.length = n) : PathI cols n n wn 0 0 (behindL cols n wn) := by
  have key : ∀ d i, i + d = cols.length → PathI cols n n wn i 0 ((cols.drop i).map (· ++ [-1]) ++ soundsL n 0 wn) := by
    intro d
    induction d with
    | zero =>
      intro i h
      obtain rfl : i = cols.length := by omega
      rw [List.drop_length]
      exact sounds_path hl wn 0 (by omega)
    | succ d ih =>
      intro i h
      have hi : i < cols.length := by omega
      have := PathI.step (cols := cols) (n := n) (p := n) (wn := wn) 2 i 0 _ ⟨.inr (.inl rfl), by show i + 1 ≤ cols.length; omega, Nat.zero_le _⟩ (ih (i + 1) (by omega))
      rw [lookS_last hl (fun _ => hi) (.inr (.inl rfl)), if_neg (by decide), if_pos rfl] at this
      rw [drop_cons hi, List.map_cons, List.cons_append]
      exact this
  have := key cols.length 0 (by omega)
  rw [List.drop_zero] at this
  exact this
/-- The word's sounds in the first columns. -/
def withinC (cols : List (List Int)) (wn : Nat) (k : Nat) : List (List Int) := (List.range k).map fun i => cols.getD i [] ++ [if i < wn then (i : Int) else -1]
def withinL (cols : List (List Int)) (n wn : Nat) : List (List Int) := withinC cols wn cols.length ++ soundsL n cols.length (wn - cols.length)
theorem within_path {cols : List (List Int)} {n wn : Nat} (hl : ∀ x ∈ cols, x.length = n) : PathI cols n n wn 0 0 (withinL cols n wn) := by
  have key : ∀ d i, i + d = cols.length → PathI cols n n wn i (min i wn) ((List.range' i d).map (fun i => cols.getD i [] ++ [if i < wn then (i : Int) else -1]) ++ soundsL n cols.length (wn - cols.length)) := by
    intro d
    induction d with
    | zero =>
      intro i h
      obtain rfl : i = cols.length := by omega
      rcases Nat.lt_or_ge cols.length wn with h1 | h1
      · rw [Nat.min_eq_left (by omega)]
        exact sounds_path hl (wn - cols.length) cols.length (by omega)
      · rw [Nat.min_eq_right h1, show wn - cols.length = 0 by omega]
        exact .done
    | succ d ih =>
      intro i h
      have hi : i < cols.length := by omega
      have ih := ih (i + 1) (by omega)
      rw [List.range'_succ, List.map_cons, List.cons_append]
      by_cases hw : i < wn
      · rw [if_pos hw, Nat.min_eq_left (by omega)]
        rw [Nat.min_eq_left (by omega)] at ih
        have := PathI.step (cols := cols) (n := n) (p := n) (wn := wn) 1 i i _ ⟨.inl rfl, by show i + 1 ≤ cols.length; omega, by show i + 1 ≤ wn; omega⟩ ih
        rw [lookS_last hl (fun _ => hi) (.inl rfl), if_neg (by decide), if_neg (by decide)] at this
        exact this
      · rw [if_neg hw, Nat.min_eq_right (by omega)]
        rw [Nat.min_eq_right (by omega)] at ih
        have := PathI.step (cols := cols) (n := n) (p := n) (wn := wn) 2 i wn _ ⟨.inr (.inl rfl), by show i + 1 ≤ cols.length; omega, Nat.le_refl _⟩ ih
        rw [lookS_last hl (fun _ => hi) (.inr (.inl rfl)), if_neg (by decide), if_pos rfl] at this
        exact this
  have := key cols.length 0 (by omega)
  rw [Nat.zero_min] at this
  unfold withinL withinC
  rw [List.range_eq_range']
  exact this
end Go.Sy
