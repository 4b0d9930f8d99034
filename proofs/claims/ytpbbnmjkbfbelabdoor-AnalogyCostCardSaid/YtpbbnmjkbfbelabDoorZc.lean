/- Chapter 30: two words aligned cost no more than all their gaps. -/
import Derived.Test.YtpbbnmjkbfbelabDoorZa
set_option linter.unusedSimpArgs false
set_option linter.unusedVariables false
namespace Go.Sy
open Go Go.RowKit
section
variable {cost : List Int → Int} {cols : List (List Int)} {n wn : Nat}
theorem lookS_last {cols : List (List Int)} {n i : Nat} {j : Int} {w : Nat} (hl : ∀ x ∈ cols, x.length = n) (hi : w = 1 ∨ w = 2 → i < cols.length) (hw : w = 1 ∨ w = 2 ∨ w = 3) : lookS cols n n i j w = (if w = 3 then List.replicate n (-1) else cols.getD i []) ++ [if w = 2 then -1 else j] := by
  have hx : ∀ h : i < cols.length, (cols.getD i []).length = n := fun h => by rw [getD_at _ _ _ h]; exact hl _ (List.getElem_mem h)
  have hins : ∀ (l : List Int) (x : Int), l.length = n → insS l n x = l ++ [x] := fun l x h => by
    unfold insS
    rw [List.take_of_length_le (by omega), List.drop_eq_nil_of_le (by omega), List.append_nil]
  unfold lookS
  rcases hw with rfl | rfl | rfl
  · rw [if_pos (by decide), hins _ _ (hx (hi (.inl rfl))), if_neg (by decide), if_neg (by decide)]
  · rw [if_neg (by decide), if_pos (by decide), hins _ _ (hx (hi (.inr rfl))), if_neg (by decide), if_pos rfl]
  · rw [if_neg (by decide), if_neg (by decide), newS_ins' _ _ _ (Nat.le_refl n), hins _ _ (List.length_replicate), if_pos rfl, if_neg (by decide)]
inductive PathI (cols : List (List Int)) (n p wn : Nat) : Nat → Nat → List (List Int) → Prop
  | done : PathI cols n p wn cols.length wn []
  | step (w i j : Nat) (rest : List (List Int)) (ho : openI cols.length wn i j w) (hr : PathI cols n p wn (afterS i j w).1 (afterS i j w).2 rest) : PathI cols n p wn i j (lookS cols n p i j w :: rest)
theorem PathI.bnd {p i j : Nat} {out : List (List Int)} (h : PathI cols n p wn i j out) : i ≤ cols.length ∧ j ≤ wn := by
  cases h with
  | done => exact ⟨Nat.le_refl _, Nat.le_refl _⟩
  | step w i j rest ho hr =>
    have := @after_grows i j w
    have := ho.2
    omega
theorem PathI.costs {p i j : Nat} {out : List (List Int)} (hc : ∀ w i j, 0 ≤ cI cost cols n p w i j) (h : PathI cols n p wn i j out) : AI (cI cost cols n p) cols.length wn i j ≤ (out.map cost).sum := by
  induction h with
  | done => rw [AI_end]; exact Int.le_refl _
  | step w i j rest ho hr ih =>
    have hb := (PathI.step w i j rest ho hr : PathI cols n p wn i j _).bnd
    have h1 := AI_least hc hb.1 hb.2 ho
    rw [List.map_cons, List.sum_cons]
    have h2 : cI cost cols n p w i j = cost (lookS cols n p i j w) := rfl
    omega
end
def soundsL (n : Nat) (j d : Nat) : List (List Int) := (List.range' j d).map fun x : Nat => List.replicate n (-1 : Int) ++ [(x : Int)]
theorem sounds_path {cols : List (List Int)} {n wn : Nat} (hl : ∀ x ∈ cols, x.length = n) : ∀ d j, j + d = wn → PathI cols n n wn cols.length j (soundsL n j d)
  | 0, j, h => by
    obtain rfl : j = wn := by omega
    exact .done
  | d + 1, j, h => by
    have ih := sounds_path (wn := wn) hl d (j + 1) (by omega)
    have := PathI.step (cols := cols) (n := n) (p := n) (wn := wn) 3 cols.length j (soundsL n (j + 1) d) ⟨.inr (.inr rfl), Nat.le_refl _, by show j + 1 ≤ wn; omega⟩ ih
    rw [lookS_last hl (fun h => by omega) (.inr (.inr rfl)), if_pos rfl, if_neg (by decide)] at this
    unfold soundsL at this ⊢
    rw [List.range'_succ, List.map_cons]
    exact this
def behindL (cols : List (List Int)) (n wn : Nat) : List (List Int) := cols.map (· ++ [-1]) ++ soundsL n 0 wn
theorem behind_path {cols : List (List Int)} {n wn : Nat} (hl : ∀ x ∈ cols, x.length = n) : PathI cols n n wn 0 0 (behindL cols n wn) := by
  have key : ∀ d i, i + d = cols.length → PathI cols n n wn i 0 ((cols.drop i).map (· ++ [-1]) ++ soundsL n 0 wn) := by
    intro d
    induction d with
    | zero =>
      intro i h
      obtain rfl : i = cols.length := by omega
      rw [List.drop_length]
      exact sounds_path hl wn 0 (by omega)
    | succ d ih =>
      intro i h
      have hi : i < cols.length := by omega
      have := PathI.step (cols := cols) (n := n) (p := n) (wn := wn) 2 i 0 _ ⟨.inr (.inl rfl), by show i + 1 ≤ cols.length; omega, Nat.zero_le _⟩ (ih (i + 1) (by omega))
      rw [lookS_last hl (fun _ => hi) (.inr (.inl rfl)), if_neg (by decide), if_pos rfl] at this
      rw [drop_cons hi, List.map_cons, List.cons_append]
      exact this
  have := key cols.length 0 (by omega)
  rw [List.drop_zero] at this
  exact this
theorem sum_le_mul {α : Type} (f : α → Int) (g : Int) : ∀ l : List α, (∀ x ∈ l, f x ≤ g) → (l.map f).sum ≤ g * (l.length : Int)
  | [], _ => by simp
  | x :: l, h => by
    have h1 := h x (List.mem_cons_self ..)
    have h2 := sum_le_mul f g l fun y hy => h y (List.mem_cons_of_mem _ hy)
    rw [List.map_cons, List.sum_cons, List.length_cons]
    have : g * ((l.length + 1 : Nat) : Int) = g * (l.length : Int) + g := by rw [Int.natCast_add, Int.mul_add]; simp
    omega
theorem column_two (ws : List Int) (gap : Int) (W : List (List Snd)) (x y : Int) : columnE ws gap W [x, y] = pr18 ws gap (W.getD 1 []) (W.getD 0 []) y x := by
  show (0 + 0 : Int) + (0 + pr18 ws gap (W.getD 1 []) (W.getD 0 []) y x) = _
  omega
theorem two_cost {ws : List Int} {gap : Int} {r a : List Snd} (hc : checkC ws gap = 0) (hr : r.length ≤ 32) : costE ws gap [r, a] (progE ws gap [r, a] 2) ≤ gap * ((r.length : Int) + (a.length : Int)) := by
  have hg := (checkC_zero hc).2.1
  have hent := progE_ent hc [r, a] 1 (by decide)
  have hl : ∀ x ∈ progE ws gap [r, a] 1, x.length = 1 := fun x hx => (hent x hx).1
  have hnn := cI_nonneg hc [r, a] (by decide) hl 1
  have hal : isAl [r] (progE ws gap [r, a] 1) = true := progE_al hc [r, a] (by simp) 1 (by simp)
  have hn : ((progE ws gap [r, a] 1).length : Int) ≤ (r.length : Int) := by
    obtain ⟨h1, h2⟩ := isAl_of hal
    have h3 := rows_len_le _ (fun _ => 0) (fun k => wl [r] k) h1 h2
    have h4 : (sm [r].length fun k => wl [r] k - 0) = (r.length : Int) := by
      show (0 : Int) + ((r.length : Int) - 0) = _
      omega
    omega
  have hstep : progE ws gap [r, a] 2 = insE (columnE ws gap [r, a]) (progE ws gap [r, a] 1) 1 1 a.length := rfl
  rw [hstep, insE_cost hnn]
  refine Int.le_trans ((behind_path (wn := a.length) hl).costs hnn) ?_
  refine Int.le_trans (sum_le_mul _ gap _ fun x hx => ?_) ?_
  · unfold behindL at hx
    rcases List.mem_append.1 hx with hx | hx
    · obtain ⟨y, hy, rfl⟩ := List.mem_map.1 hx
      match y, hl y hy with
      | [z], _ =>
        show columnE ws gap [r, a] [z, -1] ≤ gap
        rw [column_two]; unfold pr18
        split
        · exact hg
        · rw [if_pos (.inl (by decide))]; exact Int.le_refl _
    · unfold soundsL at hx
      obtain ⟨k, _, rfl⟩ := List.mem_map.1 hx
      show columnE ws gap [r, a] [-1, (k : Int)] ≤ gap
      rw [column_two]; unfold pr18
      rw [if_neg (by omega), if_pos (.inr (by decide))]; exact Int.le_refl _
  · have hlen : (behindL (progE ws gap [r, a] 1) 1 a.length).length = (progE ws gap [r, a] 1).length + a.length := by unfold behindL soundsL; simp
    rw [hlen]
    exact Int.mul_le_mul_of_nonneg_left (by omega) hg
end Go.Sy
