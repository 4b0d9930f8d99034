/- Chapter 18: equality of columns in the laws; scores of alignments. -/
import Derived.Test.YtialbhieaipcgaaDoorYf
set_option linter.unusedSimpArgs false
set_option linter.unusedVariables false
namespace Go.Sy
open Go Go.RowKit
end Go.Sy
namespace Go.Proofs.YtialbhieaipcgaaDoor
open Go Go.Sy Go.RowKit
theorem c_same (p q : Option Addr) (cp cq : Nat) (rs ss : List IR) (hr : rs.length < 2 ^ 62) (hs : ss.length < 2 ^ 62) (hrl : ∀ r ∈ rs, r.l.length < 2 ^ 62) (hsl : ∀ r ∈ ss, r.l.length < 2 ^ 62) :
    RetP Tryd.prog n_law18_same [slv p rs.length cp, slv q ss.length cq] (fun R => RowsAt R p rs ∧ RowsAt R q ss) (.bool (decide (rs.map (·.l) = ss.map (·.l)))) := by
  refine Fn.of S_law18_same mx [.p p, .i rs.length, .i cp, .p q, .i ss.length, .i cq] rfl rfl fun c hp => .chk (by ((try simp only [evE, liE, letsOf, letU, snd]); (try simp only [cmE])); omega) (.chk (by ((try simp only [evE, liE, letsOf, letU, snd]); (try simp only [cmE])); omega) (.ite (fun h1 => .ret rfl ?_) (fun h1 => ?_))) <;> ((try simp only [evE, liE, letsOf, letU, snd] at h1); (try simp only [cmE] at h1))
  · rw [decide_eq_false (fun e => h1 (by have := congrArg List.length e; simp at this; omega))]; rfl
  have hlen : rs.length = ss.length := by omega
  refine .loop (fun n us _ => ∃ (e : Bool) (j : Nat), us = [.b e, .i j] ∧ n + j = rs.length ∧ ∀ i (hi : i < rs.length), i < j → rs[i].l = (ss[i]'(by omega)).l) rs.length ⟨false, 0, rfl, rfl, fun i hi h => by omega⟩ ?_
  rintro n _ m _ ⟨e, j, rfl, hn, hb⟩
  refine .env (by (try simp only [liE, letsOf, letU, snd, List.append_nil]); rfl) (.chk (by ((try simp only [evE, liE, letsOf, letU, snd]); (try simp only [cmE])); omega) (.ite (fun h2 => ?_) (fun h2 => .ret rfl ?_))) <;> ((try simp only [evE, liE, letsOf, letU, snd] at h2); (try simp only [cmE] at h2))
  · have hj : j < rs.length := by omega
    have hj' : j < ss.length := by omega
    have hrm := List.getElem_mem hj
    have hsm := List.getElem_mem hj'
    have hrj := hrl _ hrm
    have hsj := hsl _ hsm
    have bad : rs[j].l ≠ ss[j].l → decide (rs.map (·.l) = ss.map (·.l)) = false := fun hne => decide_eq_false fun e => hne (by
      have h5 : (rs.map (·.l))[j]? = (ss.map (·.l))[j]? := by rw [e]
      rw [List.getElem?_map, List.getElem?_map, List.getElem?_eq_getElem hj, List.getElem?_eq_getElem hj'] at h5
      exact Option.some.inj h5)
    refine .loadSl (rs.map IR.v) j rs.length rs[j].p rs[j].l.length rs[j].cap hj (row_at rs j hj) (fun g => hp.1.1.mono g.R) (.env (by (try simp only [liE, letsOf, letU, snd, List.append_nil]); rfl) (.chk (by ((try simp only [evE, liE, letsOf, letU, snd]); (try simp only [cmE])); omega) (.loadSl (ss.map IR.v) j ss.length ss[j].p ss[j].l.length ss[j].cap hj' (row_at ss j hj') (fun g => hp.2.1.mono g.R) (.env (by (try simp only [liE, letsOf, letU, snd, List.append_nil]); rfl) (.chk (by ((try simp only [evE, liE, letsOf, letU, snd]); (try simp only [cmE])); omega) (.ite (fun h3 => .ret rfl ?_) (fun h3 => ?_))))))) <;> ((try simp only [evE, liE, letsOf, letU, snd] at h3); (try simp only [cmE] at h3))
    · rw [bad fun e => h3 (by rw [e])]; rfl
    have hll : rs[j].l.length = ss[j].l.length := by omega
    refine .loop (fun n us _ => ∃ (e : Bool) (i : Nat), us = [.b e, .i i] ∧ n + i = rs[j].l.length ∧ rs[j].l.take i = ss[j].l.take i) rs[j].l.length ⟨e, 0, rfl, rfl, by simp⟩ ?_
    rintro n2 _ m2 _ ⟨e2, i, rfl, hn2, hb2⟩
    refine .env (by (try simp only [liE, letsOf, letU, snd, List.append_nil]); rfl) (.loadSl (rs.map IR.v) j rs.length rs[j].p rs[j].l.length rs[j].cap hj (row_at rs j hj) (fun g => hp.1.1.mono g.R) (.env (by (try simp only [liE, letsOf, letU, snd, List.append_nil]); rfl) (.chk (by ((try simp only [evE, liE, letsOf, letU, snd]); (try simp only [cmE])); omega) (.ite (fun h4 => ?_) (fun h4 => .again rfl ⟨n - 1, by omega, e2, j + 1, ?_, by omega, fun i' hi' hij => ?_⟩))))) <;> ((try simp only [evE, liE, letsOf, letU, snd] at h4); (try simp only [cmE] at h4))
    · have hi : i < rs[j].l.length := by omega
      have hi' : i < ss[j].l.length := by omega
      refine .loadSl (rs.map IR.v) j rs.length rs[j].p rs[j].l.length rs[j].cap hj (row_at rs j hj) (fun g => hp.1.1.mono g.R) (.env (by (try simp only [liE, letsOf, letU, snd, List.append_nil]); rfl) (.elem1 (.int .i64 (labAt rs[j].l i)) (intsL rs[j].l) i rs[j].l.length rfl rfl hi (fun g => (hp.1.2 _ hrm).mono g.R) (intsL_at _ _ hi) (.env (by (try simp only [liE, letsOf, letU, snd, List.append_nil]); rfl) ?_)))
      refine .loadSl (ss.map IR.v) j ss.length ss[j].p ss[j].l.length ss[j].cap hj' (row_at ss j hj') (fun g => hp.2.1.mono g.R) (.env (by (try simp only [liE, letsOf, letU, snd, List.append_nil]); rfl) (.elem1 (.int .i64 (labAt ss[j].l i)) (intsL ss[j].l) i ss[j].l.length rfl rfl hi' (fun g => (hp.2.2 _ hsm).mono g.R) (intsL_at _ _ hi') (.env (by (try simp only [liE, letsOf, letU, snd, List.append_nil]); rfl) (.ite (fun h5 => .ret rfl ?_) (fun h5 => .again rfl ⟨n2 - 1, by omega, e2, i + 1, ?_, by omega, ?_⟩))))) <;> ((try simp only [evE, liE, letsOf, letU, snd] at h5); (try simp only [cmE] at h5))
      · rw [bad fun e => h5 (by rw [e])]; rfl
      · (simp only [evE, liE, letsOf, letU, snd, Sh.uss, Sh.us, atAddr, map_add0, List.append_nil]); rw [add_i64 i (by omega)]
      · rw [List.take_succ_eq_append_getElem hi, List.take_succ_eq_append_getElem hi', hb2]
        rw [labAt_get hi, labAt_get hi'] at h5
        rw [h5]
    · (simp only [evE, liE, letsOf, letU, snd, Sh.uss, Sh.us, atAddr, map_add0, List.append_nil]); rw [add_i64 j (by omega)]
    · rcases Nat.lt_or_ge i' j with h | h
      · exact hb i' hi' h
      · have : i' = j := by omega
        subst this
        rw [List.take_of_length_le (by omega), List.take_of_length_le (by omega)] at hb2
        exact hb2
  · rw [decide_eq_true ?_]
    · rfl
    · apply List.ext_getElem (by simp [hlen])
      intro i h1 h2
      simp only [List.getElem_map]
      exact hb i (by simpa using h1) (by simp at h1; omega)
end Go.Proofs.YtialbhieaipcgaaDoor
