/- Chapter 18: what is looked at; the laws of scores, of words aligned one after the other, of the cheapest alignment. -/
import Derived.Test.YtialbhieaipcgaaDoorBs
import Derived.Test.YtialbhieaipcgaaDoorTcAligns
import Derived.Test.YtialbhieaipcgaaDoorTcExacts
import Derived.Test.YtialbhieaipcgaaDoorTcScores
set_option linter.unusedSimpArgs false
set_option linter.unusedVariables false
namespace Go.Sy
open Go Go.RowKit
def fewW (W : List (List Snd)) (cols : List (List Int)) : Bool := decide (W.length ≤ 20) && (decide (cols.length ≤ 300) && (W.all (fun w => decide (w.length ≤ 100)) && cols.all (fun c => decide (c.length ≤ 20))))
theorem few_of {W : List (List Snd)} {cols : List (List Int)} (h : fewW W cols = true) : W.length ≤ 20 ∧ cols.length ≤ 300 ∧ (∀ w ∈ W, w.length ≤ 100) ∧ ∀ c ∈ cols, c.length ≤ 20 := by
  unfold fewW at h
  simp only [Bool.and_eq_true, decide_eq_true_eq, List.all_eq_true] at h
  exact ⟨h.1, h.2.1, h.2.2.1, h.2.2.2⟩
def sumLW (W : List (List Snd)) (k : Nat) : Nat := ((W.take k).map List.length).sum
theorem sumLW_succ (W : List (List Snd)) {k : Nat} (hk : k < W.length) : sumLW W (k + 1) = sumLW W k + W[k].length := by
  unfold sumLW
  rw [List.take_succ_eq_append_getElem hk, List.map_append, List.sum_append]
  simp
theorem sumLW_le {W : List (List Snd)} (h : ∀ w ∈ W, w.length ≤ 100) : ∀ k, k ≤ W.length → sumLW W k ≤ 100 * k
  | 0, _ => by unfold sumLW; simp
  | k + 1, hk => by
    have ih := sumLW_le h k (by omega)
    have := h _ (List.getElem_mem (show k < W.length by omega))
    rw [sumLW_succ W (by omega)]; omega
def smallW (W : List (List Snd)) : Bool := decide (sumLW W W.length ≤ 40) || decide (8 < W.length)
end Go.Sy
namespace Go.Proofs.YtialbhieaipcgaaDoor
open Go Go.Sy Go.RowKit
theorem c_few (p pc : Option Addr) (cp cc : Nat) (l : List WD) (rs : List IR) (hl : l.length < 2 ^ 63) (hr : rs.length < 2 ^ 63) (hw : ∀ x ∈ l, x.w.length < 2 ^ 63) (hrl : ∀ r ∈ rs, r.l.length < 2 ^ 63) :
    RetP Tryd.prog n_law18_few [slv p l.length cp, slv pc rs.length cc] (fun R => WordsAt R p l ∧ RowsAt R pc rs) (.bool (fewW (l.map (·.w)) (rs.map (·.l)))) := by
  refine Fn.of S_law18_few mx [.p p, .i l.length, .i cp, .p pc, .i rs.length, .i cc] rfl rfl fun c hp => .chk (by ((try simp only [evE, liE, letsOf, letU, snd]); (try simp only [cmE])); omega) (.ite (fun h1 => .ret rfl ?_) (fun h1 => .chk (by ((try simp only [evE, liE, letsOf, letU, snd]); (try simp only [cmE])); omega) (.ite (fun h2 => .ret rfl ?_) (fun h2 => ?_)))) <;> ((try simp only [evE, liE, letsOf, letU, snd] at h1); (try simp only [cmE] at h1))
  · unfold fewW; rw [List.length_map, decide_eq_false (by omega)]; rfl
  · ((try simp only [evE, liE, letsOf, letU, snd] at h2); (try simp only [cmE] at h2))
    unfold fewW; rw [List.length_map, List.length_map, decide_eq_false (show ¬ rs.length ≤ 300 by omega), Bool.false_and, Bool.and_false]; rfl
  ((try simp only [evE, liE, letsOf, letU, snd] at h2); (try simp only [cmE] at h2))
  refine .loop (fun z us _ => ∃ (e : Bool) (j : Nat), us = [.b e, .i j] ∧ z + j = l.length ∧ ∀ x ∈ l.take j, x.w.length ≤ 100) l.length ⟨false, 0, rfl, rfl, fun x hx => by cases hx⟩ ?_
  rintro z _ m _ ⟨e, j, rfl, hz, hb⟩
  refine .env (by (try simp only [liE, letsOf, letU, snd, List.append_nil]); rfl) (.chk (by ((try simp only [evE, liE, letsOf, letU, snd]); (try simp only [cmE])); omega) (.ite (fun h3 => ?_) (fun h3 => ?_))) <;> ((try simp only [evE, liE, letsOf, letU, snd] at h3); (try simp only [cmE] at h3))
  · have hj : j < l.length := by omega
    refine .loadWD l j hj (fun g => hp.1.1.mono g.R) (.env (by (try simp only [liE, letsOf, letU, snd, List.append_nil]); rfl) (.chk (by ((try simp only [evE, liE, letsOf, letU, snd]); (try simp only [cmE])); omega) (.ite (fun h4 => .ret rfl ?_) (fun h4 => .again rfl ⟨z - 1, by omega, e, j + 1, ?_, by omega, fun x hx => ?_⟩)))) <;> ((try simp only [evE, liE, letsOf, letU, snd] at h4); (try simp only [cmE] at h4))
    · unfold fewW
      have : (l.map (·.w)).all (fun w => decide (w.length ≤ 100)) = false := by
        rw [Bool.eq_false_iff]; intro ha
        have := List.all_eq_true.1 ha l[j].w (List.mem_map_of_mem (List.getElem_mem hj))
        rw [decide_eq_true_eq] at this; omega
      rw [this, Bool.false_and, Bool.and_false, Bool.and_false]; rfl
    · (simp only [evE, liE, letsOf, letU, snd, Sh.uss, Sh.us, atAddr, map_add0, List.append_nil]); rw [add_i64 j (by omega)]
    · rw [List.take_succ_eq_append_getElem hj, List.mem_append, List.mem_singleton] at hx
      rcases hx with hx | rfl
      · exact hb x hx
      · omega
  · have hj : j = l.length := by omega
    rw [hj, List.take_length] at hb
    refine .loop (fun z us _ => ∃ (e : Bool) (j : Nat), us = [.b e, .i j] ∧ z + j = rs.length ∧ ∀ x ∈ rs.take j, x.l.length ≤ 20) rs.length ⟨e, 0, rfl, rfl, fun x hx => by cases hx⟩ ?_
    rintro z2 _ m2 _ ⟨e2, i, rfl, hz2, hb2⟩
    refine .env (by (try simp only [liE, letsOf, letU, snd, List.append_nil]); rfl) (.chk (by ((try simp only [evE, liE, letsOf, letU, snd]); (try simp only [cmE])); omega) (.ite (fun h4 => ?_) (fun h4 => .ret rfl ?_))) <;> ((try simp only [evE, liE, letsOf, letU, snd] at h4); (try simp only [cmE] at h4))
    · have hi : i < rs.length := by omega
      refine .loadSl (rs.map IR.v) i rs.length rs[i].p rs[i].l.length rs[i].cap hi (row_at rs i hi) (fun g => hp.2.1.mono g.R) (.env (by (try simp only [liE, letsOf, letU, snd, List.append_nil]); rfl) (.chk (by ((try simp only [evE, liE, letsOf, letU, snd]); (try simp only [cmE])); omega) (.ite (fun h5 => .ret rfl ?_) (fun h5 => .again rfl ⟨z2 - 1, by omega, e2, i + 1, ?_, by omega, fun x hx => ?_⟩)))) <;> ((try simp only [evE, liE, letsOf, letU, snd] at h5); (try simp only [cmE] at h5))
      · unfold fewW
        have : (rs.map (·.l)).all (fun w => decide (w.length ≤ 20)) = false := by
          rw [Bool.eq_false_iff]; intro ha
          have := List.all_eq_true.1 ha rs[i].l (List.mem_map_of_mem (List.getElem_mem hi))
          rw [decide_eq_true_eq] at this; omega
        rw [this, Bool.and_false, Bool.and_false, Bool.and_false]; rfl
      · (simp only [evE, liE, letsOf, letU, snd, Sh.uss, Sh.us, atAddr, map_add0, List.append_nil]); rw [add_i64 i (by omega)]
      · rw [List.take_succ_eq_append_getElem hi, List.mem_append, List.mem_singleton] at hx
        rcases hx with hx | rfl
        · exact hb2 x hx
        · omega
    · have hi : i = rs.length := by omega
      rw [hi, List.take_length] at hb2
      have : fewW (l.map (·.w)) (rs.map (·.l)) = true := by
        unfold fewW
        simp only [Bool.and_eq_true, decide_eq_true_eq, List.all_eq_true, List.length_map, List.mem_map]
        refine ⟨by omega, by omega, ?_, ?_⟩
        · rintro _ ⟨x, hx, rfl⟩; exact hb x hx
        · rintro _ ⟨x, hx, rfl⟩; exact hb2 x hx
      rw [this]; rfl
theorem c_small (p : Option Addr) (cp : Nat) (l : List WD) (hl : l.length ≤ 20) (hw : ∀ x ∈ l, x.w.length ≤ 100) : RetP Tryd.prog n_law18_small [slv p l.length cp] (fun R => WordsAt R p l) (.bool (smallW (l.map (·.w)))) := by
  have hW : ∀ w ∈ l.map (·.w), w.length ≤ 100 := by rintro _ hx; obtain ⟨x, hx2, rfl⟩ := List.mem_map.1 hx; exact hw x hx2
  have hWl : (l.map (·.w)).length = l.length := List.length_map _
  refine Fn.of S_law18_small mx [.p p, .i l.length, .i cp] rfl rfl fun c hp => .loop (fun z us _ => ∃ (j : Nat), us = [.i (sumLW (l.map (·.w)) j), .i j] ∧ z + j = l.length) l.length ⟨0, rfl, rfl⟩ ?_
  rintro z _ m _ ⟨j, rfl, hz⟩
  have hs := sumLW_le hW j (by omega)
  refine .env (by (try simp only [liE, letsOf, letU, snd, List.append_nil]); rfl) (.chk (by ((try simp only [evE, liE, letsOf, letU, snd]); (try simp only [cmE])); omega) (.ite (fun h3 => ?_) (fun h3 => ?_))) <;> ((try simp only [evE, liE, letsOf, letU, snd] at h3); (try simp only [cmE] at h3))
  · have hj : j < l.length := by omega
    refine .loadWD l j hj (fun g => hp.1.mono g.R) (.env (by (try simp only [liE, letsOf, letU, snd, List.append_nil]); rfl) (.chk (by ((try simp only [evE, liE, letsOf, letU, snd]); (try simp only [cmE])); omega) (.again rfl ⟨z - 1, by omega, j + 1, ?_, by omega⟩)))
    have := hw _ (List.getElem_mem hj)
    (simp only [evE, liE, letsOf, letU, snd, Sh.uss, Sh.us, atAddr, map_add0, List.append_nil])
    rw [add_i64 j (by omega), addI (by omega) (by omega), sumLW_succ _ (by omega), List.getElem_map]
    rfl
  · have hj : j = l.length := by omega
    subst hj
    have hsp : smallW (l.map (·.w)) = (decide (sumLW (l.map (·.w)) l.length ≤ 40) || decide (8 < l.length)) := by unfold smallW; rw [hWl]
    rw [hsp]
    refine .ite (fun h4 => .ret rfl ?_) (fun h4 => .chk (by ((try simp only [evE, liE, letsOf, letU, snd]); (try simp only [cmE])); omega) (.ret rfl ?_)) <;> ((try simp only [evE, liE, letsOf, letU, snd] at h4); (try simp only [cmE] at h4))
    · rw [decide_eq_true (show sumLW (l.map (·.w)) l.length ≤ 40 by omega)]; rfl
    · rw [decide_eq_false (show ¬ sumLW (l.map (·.w)) l.length ≤ 40 by omega), Bool.false_or]
      exact congrArg Value.bool (decide_eq_decide.2 ⟨fun h => by ((try simp only [evE, liE, letsOf, letU, snd] at h); (try simp only [cmE] at h)); omega, fun h => by ((try simp only [evE, liE, letsOf, letU, snd]); (try simp only [cmE])); omega⟩)
theorem same_eq (p q : Option Addr) (cp cq : Nat) (rs ss : List IR) (ls : List (List Int)) (h1 : rs.map (·.l) = ls) (h2 : ss.map (·.l) = ls) (h : ls.length < 2 ^ 40 ∧ ∀ x ∈ ls, x.length < 2 ^ 40) :
    RetP Tryd.prog n_ref18_Same [slv p rs.length cp, slv q ss.length cq] (fun R => RowsAt R p rs ∧ RowsAt R q ss) (.bool true) := by
  have := same_yes p q cp cq rs ss ls h1 h2 h.1 h.2
  have e1 := congrArg List.length h1
  have e2 := congrArg List.length h2
  rw [List.length_map] at e1 e2
  rw [e1, e2]; exact this
end Go.Proofs.YtialbhieaipcgaaDoor
