/- Chapter 30: what the laws say, in plain words of lists. -/
import Derived.Test.YtpbbnmjkbfbelaaDoorBe
set_option linter.unusedSimpArgs false
set_option linter.unusedVariables false
namespace Go.Sy
open Go Go.RowKit
theorem checkL_zero {l : List (List Snd)} : checkL l = 0 ↔ ∀ w ∈ l, checkW w = 0 := by
  induction l with
  | nil => simp [checkL]
  | cons w l ih =>
    rw [checkL_cons]
    by_cases h : checkW w = 0
    · rw [if_neg (by simp [h]), ih]; simp [h]
    · rw [if_pos h]; simp [h]
theorem checkW_iff {w : List Snd} : checkW w = 0 ↔ w.length ≤ 32 ∧ VW w := by
  unfold checkW
  constructor
  · intro h
    split at h
    · omega
    · split at h
      · rename_i h1 h2; exact ⟨by omega, fun s hs => List.all_eq_true.1 h2 s hs⟩
      · omega
  · rintro ⟨h1, h2⟩
    rw [if_neg (by omega), if_pos (List.all_eq_true.2 h2)]
theorem VW.append {a b : List Snd} (ha : VW a) (hb : VW b) : VW (a ++ b) := fun s hs => (List.mem_append.1 hs).elim (ha s) (hb s)
theorem VW.reverse {a : List Snd} (ha : VW a) : VW a.reverse := fun s hs => ha s (List.mem_reverse.1 hs)
theorem checkW_rev {w : List Snd} : checkW w.reverse = 0 ↔ checkW w = 0 := by
  rw [checkW_iff, checkW_iff, List.length_reverse]
  exact ⟨fun h => ⟨h.1, by simpa using h.2.reverse⟩, fun h => ⟨h.1, h.2.reverse⟩⟩
/-! Ends. -/
theorem cpl_append (p a b : List Snd) : cpl (p ++ a) (p ++ b) = p.length + cpl a b := by
  induction p with
  | nil => simp
  | cons s p ih => simp only [List.cons_append, cpl, if_true, ih, List.length_cons]; omega
theorem cpl_take (a b : List Snd) : a.take (cpl a b) = b.take (cpl a b) := by
  induction a generalizing b with
  | nil => cases b <;> rfl
  | cons x a ih =>
    cases b with
    | nil => rfl
    | cons y b =>
      unfold cpl
      split
      · rename_i h; rw [h, Nat.add_comm 1, List.take_succ_cons, List.take_succ_cons, ih]
      · rfl
theorem solve_ends (p x q y : List Snd) : solveW (p ++ x) (p ++ y) (q ++ x) = some (q ++ y) := by
  have hk := cpl_le x y
  have ht := cpl_take x y
  unfold solveW
  rw [cpl_append]
  generalize cpl x y = k at hk ht
  have e1 : ∀ z : List Snd, (p ++ z).drop (p.length + k) = z.drop k := fun z => by rw [List.drop_append, List.drop_of_length_le (by omega), List.nil_append, Nat.add_sub_cancel_left]
  rw [e1, e1]
  unfold applyE
  have e2 : (q ++ x).length - (x.drop k).length = q.length + k := by rw [List.length_append, List.length_drop]; omega
  have e3 : (q ++ x).drop (q.length + k) = x.drop k := by rw [List.drop_append, List.drop_of_length_le (by omega), List.nil_append, Nat.add_sub_cancel_left]
  have e4 : (q ++ x).take (q.length + k) = q ++ x.take k := by rw [List.take_append, List.take_of_length_le (by omega), Nat.add_sub_cancel_left]
  rw [e2, e3, e4, if_pos ⟨by rw [List.length_append, List.length_drop]; omega, rfl⟩, ht, List.append_assoc, List.take_append_drop]
theorem front_ends (p x q y : List Snd) : frontW (x ++ p) (y ++ p) (x ++ q) = some (y ++ q) := by
  rw [← solve_rev, List.reverse_append, List.reverse_append, List.reverse_append, solve_ends]
  simp
theorem solve_res {a b c w : List Snd} (h : solveW a b c = some w) : w ∈ resW a b c := by
  unfold resW
  rw [h]
  cases frontW a b c with
  | none => simp
  | some y => simp only; split <;> simp
theorem front_res {a b c w : List Snd} (h : frontW a b c = some w) : w ∈ resW a b c := by
  unfold resW
  rw [h]
  cases solveW a b c with
  | none => simp
  | some y => simp only; split <;> simp_all
theorem resW_valid {a b c w : List Snd} (hb : VW b) (hc : VW c) (h : w ∈ resW a b c) : VW w := fun s hs => (resW_sub h s hs).elim (hb s) (hc s)
theorem oneW_ok {a b c : List Snd} {o : Option (List Snd)} (ha : checkW a = 0) (hb : checkW b = 0) (hc : checkW c = 0) : oneW a b c o = if (o.getD []).length > 32 then ([], false, 11) else (o.getD [], o.isSome, 0) := by
  unfold oneW
  rw [if_neg (by simp [checkL, ha, hb, hc])]
/-! The order of words is an order. -/
theorem ordS_lt {s t : Snd} : ordS s t < 0 ↔ s.1 < t.1 ∨ (s.1 = t.1 ∧ s.2 < t.2) := by
  unfold ordS
  constructor
  · intro h
    split at h
    · left; omega
    · split at h
      · omega
      · split at h
        · right; omega
        · split at h <;> omega
  · intro h
    rcases h with h | ⟨h1, h2⟩
    · rw [if_pos h]; omega
    · rw [if_neg (by omega), if_neg (by omega), if_pos h2]; omega
theorem ordW_lt {s t : Snd} {a b : List Snd} : ordW (s :: a) (t :: b) < 0 ↔ ordS s t < 0 ∨ (s = t ∧ ordW a b < 0) := by
  show (if ordS s t ≠ 0 then ordS s t else ordW a b) < 0 ↔ _
  by_cases h : ordS s t = 0
  · rw [if_neg (by simp [h])]
    exact ⟨fun q => .inr ⟨ordS_zero.1 h, q⟩, fun q => q.elim (fun q => by omega) fun q => q.2⟩
  · rw [if_pos h]
    exact ⟨.inl, fun q => q.elim id fun q => absurd (ordS_zero.2 q.1) h⟩
theorem ordW_trans {a b c : List Snd} (h1 : ordW a b < 0) (h2 : ordW b c < 0) : ordW a c < 0 := by
  induction a generalizing b c with
  | nil =>
    cases b with
    | nil => simp [ordW] at h1
    | cons y b =>
      cases c with
      | nil => simp [ordW] at h2
      | cons z c => simp [ordW]
  | cons x a ih =>
    cases b with
    | nil => simp [ordW] at h1
    | cons y b =>
      cases c with
      | nil => simp [ordW] at h2
      | cons z c =>
        rw [ordW_lt] at h1 h2 ⊢
        rcases h1 with h1 | ⟨rfl, h1⟩
        · rcases h2 with h2 | ⟨rfl, h2⟩
          · left; rw [ordS_lt] at *; omega
          · left; exact h1
        · rcases h2 with h2 | ⟨rfl, h2⟩
          · left; exact h2
          · right; exact ⟨rfl, ih h1 h2⟩
theorem better_trans {N : List Snd → Nat} {a b c : List Snd} (h1 : better N a b) (h2 : better N b c) : better N a c := by
  unfold better at *
  rcases h1 with h1 | ⟨h1, h1'⟩
  · rcases h2 with h2 | ⟨h2, _⟩
    · left; omega
    · left; omega
  · rcases h2 with h2 | ⟨h2, h2'⟩
    · left; omega
    · right; exact ⟨by omega, ordW_trans h1' h2'⟩
theorem pstep_keep {N : List Snd → Nat} {x b : List Snd} (w : List Snd) (h : ¬ better N x b) : ∃ b', pstep N (some b) w = some b' ∧ ¬ better N x b' := by
  by_cases hb : better N w b
  · exact ⟨w, if_pos hb, fun hx => h (better_trans hx hb)⟩
  · exact ⟨b, if_neg hb, h⟩
theorem pfold_keep {N : List Snd → Nat} {x : List Snd} : ∀ (l : List (List Snd)) {b : List Snd}, ¬ better N x b → ∃ r, l.foldl (pstep N) (some b) = some r ∧ ¬ better N x r
  | [], b, h => ⟨b, rfl, h⟩
  | w :: l, b, h => by
    obtain ⟨b', h1, h2⟩ := pstep_keep w h
    rw [List.foldl_cons, h1]
    exact pfold_keep l h2
/-- None of the words is better than the best. -/
theorem pfold_best {N : List Snd → Nat} {x : List Snd} : ∀ (l : List (List Snd)) (o : Option (List Snd)), x ∈ l → ∃ r, l.foldl (pstep N) o = some r ∧ ¬ better N x r
  | w :: l, o, hx => by
    rw [List.foldl_cons]
    rcases List.mem_cons.1 hx with rfl | hx
    · cases o with
      | none => exact pfold_keep l (better_irr x)
      | some b =>
        by_cases hb : better N x b
        · rw [show pstep N (some b) x = some x from if_pos hb]; exact pfold_keep l (better_irr x)
        · rw [show pstep N (some b) x = some b from if_neg hb]; exact pfold_keep l hb
    · exact pfold_best l _ hx
theorem pfold_mem {N : List Snd → Nat} : ∀ (l : List (List Snd)) (o : Option (List Snd)) {r : List Snd}, l.foldl (pstep N) o = some r → o = some r ∨ r ∈ l
  | [], o, r, h => .inl h
  | w :: l, o, r, h => by
    rw [List.foldl_cons] at h
    rcases pfold_mem l _ h with h | h
    · cases o with
      | none => cases h; exact .inr (by simp)
      | some b =>
        by_cases hb : better N w b
        · rw [show pstep N (some b) w = some w from if_pos hb] at h; cases h; exact .inr (by simp)
        · rw [show pstep N (some b) w = some b from if_neg hb] at h; exact .inl h
    · exact .inr (by simp [h])
/-- The new word with most models. -/
theorem ext_most {ms : List MD} {c : List Snd} (h : chkM ms [c] = 0) :
    ((∃ w, w ∈ fnd ms c) → ∃ b, b ∈ fnd ms c ∧ 1 ≤ votes ms c b ∧ extW ms c = (b, ((votes ms c b : Nat) : Int), 0) ∧ ∀ w ∈ fnd ms c, ¬ better (votes ms c) w b) ∧ ((¬ ∃ w, w ∈ fnd ms c) → extW ms c = ([], 0, 5)) := by
  have hb := best_fnd (ms := ms) (ks := ms) (c := c) (fun w hw => fnd_votes hw)
  have he : extW ms c = if (bestE ms ms c).2 = 0 then ([], 0, 5) else ((bestE ms ms c).1, (((bestE ms ms c).2 : Nat) : Int), 0) := by unfold extW; rw [if_neg (by simp [h])]
  constructor
  · rintro ⟨w, hw⟩
    obtain ⟨r, h1, h2⟩ := pfold_best (N := votes ms c) (x := w) (fnd ms c) none hw
    have hr : r ∈ fnd ms c := (pfold_mem _ _ h1).resolve_left (by simp)
    have hv := fnd_votes hr
    rw [h1] at hb
    have hb1 : (bestE ms ms c).1 = r := by rw [hb]; rfl
    have hb2 : (bestE ms ms c).2 = votes ms c r := by rw [hb]; rfl
    refine ⟨r, hr, hv, by rw [he, hb1, hb2, if_neg (by omega)], fun x hx => ?_⟩
    obtain ⟨r', q1, q2⟩ := pfold_best (N := votes ms c) (x := x) (fnd ms c) none hx
    rw [h1] at q1; cases q1; exact q2
  · intro hn
    have : fnd ms c = [] := List.eq_nil_iff_forall_not_mem.2 fun w hw => hn ⟨w, hw⟩
    rw [this] at hb
    have hb2 : (bestE ms ms c).2 = 0 := by rw [hb]; rfl
    rw [he, if_pos hb2]
theorem mem_fnd {ms : List MD} {c w : List Snd} : w ∈ fnd ms c ↔ ∃ m ∈ ms, w ∈ resW m.a.w m.b.w c ∧ w.length ≤ 32 := by
  unfold fnd fndM
  simp only [List.mem_flatMap, List.mem_filter, short, decide_eq_true_eq]
end Go.Sy
