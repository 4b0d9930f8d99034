/- Chapter 19: lists of lists compared. -/
import Derived.Test.YthabfpagilbplaaDoorRb
import Derived.Test.YthabfpagilbplaaDoorTh
set_option linter.unusedSimpArgs false
set_option linter.unusedVariables false
namespace Go.Proofs.YthabfpagilbplaaDoor
open Go Go.Sy Go.RowKit
theorem c_lists1 (x y : IR) (hx : x.l.length < 2 ^ 63) : FnM Tryd.prog n_law19_lists_1 [x.v, y.v] (fun R => Cells R x.p (intsL x.l) ∧ Cells R y.p (intsL y.l)) fun v _ _ => v = .bool (decide (x.l = y.l)) := by
  refine FnM.of S_law19_lists_1 mx [.p x.p, .i x.l.length, .i x.cap, .p y.p, .i y.l.length, .i y.cap] rfl rfl fun c hp => .callV (c_eqI x.p y.p x.cap y.cap x.l y.l hx) (fun g => ⟨hp.1.mono g.R, hp.2.mono g.R⟩) (.ret rfl rfl)
theorem c_lists (p q : Option Addr) (cp cq : Nat) (rs ss : List IR) (hl : rs.length < 2 ^ 63) (hr : ∀ r ∈ rs, r.l.length < 2 ^ 63) : RetP Tryd.prog n_law19_lists [slv p rs.length cp, slv q ss.length cq] (fun R => RowsAt R p rs ∧ RowsAt R q ss) (.bool (decide (rs.map (·.l) = ss.map (·.l)))) := by
  have key : RetP Tryd.prog n_slices_EqualFunc_____int_____int___int___int_ [slv p rs.length cp, slv q ss.length cq, .func (.func n_law19_lists_1) #[] #[]] (fun R => RowsAt R p rs ∧ RowsAt R q ss) (.bool (decide (rs.map (·.l) = ss.map (·.l)))) := by
    refine Fn.of S_slices_EqualFunc_____int_____int___int___int_ mx [.p p, .i rs.length, .i cp, .p q, .i ss.length, .i cq, .v (.func (.func n_law19_lists_1) #[] #[])] rfl rfl fun c hp => .chk (by ((try simp only [evE, liE, letsOf, letU, snd]); (try simp only [cmE])); omega) (.chk (by ((try simp only [evE, liE, letsOf, letU, snd]); (try simp only [cmE])); omega) (.ite (fun h1 => .ret rfl ?_) (fun h1 => .chk (by ((try simp only [evE, liE, letsOf, letU, snd]); (try simp only [cmE])); omega) ?_))) <;> ((try simp only [evE, liE, letsOf, letU, snd] at h1); (try simp only [cmE] at h1))
    · rw [decide_eq_false (fun e => h1 (by have := congrArg List.length e; simp at this; omega))]; rfl
    have hlen : rs.length = ss.length := by omega
    refine .loop (fun n us _ => ∃ (e : Bool) (j : Nat), us = [.b e, .i j] ∧ n + j = rs.length ∧ ∀ i (hi : i < rs.length), i < j → rs[i].l = (ss[i]'(by omega)).l) rs.length ⟨false, 0, rfl, rfl, fun i hi h => by omega⟩ ?_
    rintro n _ m _ ⟨e, j, rfl, hn, hb⟩
    refine .env (by (try simp only [liE, letsOf, letU, snd, List.append_nil]); rfl) (.ite (fun h2 => ?_) (fun h2 => .ret rfl ?_)) <;> ((try simp only [evE, liE, letsOf, letU, snd] at h2); (try simp only [cmE] at h2))
    · have hj : j < rs.length := by omega
      have hj' : j < ss.length := by omega
      refine .loadSl (rs.map IR.v) j rs.length rs[j].p rs[j].l.length rs[j].cap hj (row_at rs j hj) (fun g => hp.1.1.mono g.R) (.env (by (try simp only [liE, letsOf, letU, snd, List.append_nil]); rfl) (.loadSl (ss.map IR.v) j ss.length ss[j].p ss[j].l.length ss[j].cap hj' (row_at ss j hj') (fun g => hp.2.1.mono g.R) (.env (by (try simp only [liE, letsOf, letU, snd, List.append_nil]); rfl) (.callvR (.of0 (by kernel_rfl) (c_lists1 rs[j] ss[j] (hr _ (List.getElem_mem hj)))) (fun g => ⟨(hp.1.2 _ (List.getElem_mem hj)).mono g.R, (hp.2.2 _ (List.getElem_mem hj')).mono g.R⟩) (fun m' _ => .env (by (try simp only [liE, letsOf, letU, snd, List.append_nil]); rfl) (.ite (fun h3 => .ret rfl ?_) (fun h3 => .again rfl ⟨n - 1, by omega, e, j + 1, ?_, by omega, fun i hi hij => ?_⟩)))))))
      · replace h3 : (!decide (rs[j].l = ss[j].l)) = true := h3
        have hne : rs[j].l ≠ ss[j].l := by simpa using h3
        have hd : decide (rs.map (·.l) = ss.map (·.l)) = false := decide_eq_false fun e => hne (by
          have h5 : (rs.map (·.l))[j]? = (ss.map (·.l))[j]? := by rw [e]
          rw [List.getElem?_map, List.getElem?_map, List.getElem?_eq_getElem hj, List.getElem?_eq_getElem hj'] at h5
          exact Option.some.inj h5)
        rw [hd]; rfl
      · (simp only [evE, liE, letsOf, letU, snd, Sh.uss, Sh.us, atAddr, map_add0, List.append_nil]); rw [add_i64 j (by omega)]
      · replace h3 : (!decide (rs[j].l = ss[j].l)) = false := h3
        rcases Nat.lt_or_ge i j with h | h
        · exact hb i hi h
        · have : i = j := by omega
          subst this
          simpa using h3
    · rw [decide_eq_true ?_]
      · rfl
      · apply List.ext_getElem (by simp [hlen])
        intro i h1 h2
        simp only [List.getElem_map]
        exact hb i (by simpa using h1) (by simp at h1; omega)
  refine Fn.of S_law19_lists mx [.p p, .i rs.length, .i cp, .p q, .i ss.length, .i cq] rfl rfl fun c hp => .callV key (fun g => ⟨hp.1.mono g.R, hp.2.mono g.R⟩) (.ret rfl rfl)
end Go.Proofs.YthabfpagilbplaaDoor
