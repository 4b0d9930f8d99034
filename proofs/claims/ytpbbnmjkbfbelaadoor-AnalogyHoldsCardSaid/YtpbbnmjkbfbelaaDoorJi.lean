/- Chapter 30: what a model supports; the reference's Solve, Front, supports and check. -/
import Derived.Test.YtpbbnmjkbfbelaaDoorJh
set_option linter.unusedSimpArgs false
set_option linter.unusedVariables false
namespace Go.Sy
open Go Go.RowKit
theorem RowW.join_sub {m mx m' : Mem} {q : Option Addr} {cq : Nat} {w : List Snd} (h : RowW mx 31 q cq w) : ∀ b o, mx b = some o → (∀ b, m b ≠ none → mx b = none) → m.join mx b = some o := fun b o hb hd => by
  unfold Mem.join
  cases hm : m b with
  | none => exact hb
  | some x => have := hd b (by rw [hm]; simp); rw [this] at hb; cases hb
theorem supW_mem (a b c d : List Snd) : supW a b c d = true ↔ d ∈ resW a b c := by simp [supW]
end Go.Sy
namespace Go.Proofs.YtpbbnmjkbfbelaaDoor
open Go Go.Sy Go.RowKit
theorem c_supports (A B C D : WD) (oa : A.ok) (ob : B.ok) (oc : C.ok) (la : A.w.length < 2 ^ 38) (lb : B.w.length < 2 ^ 38) (lc : C.w.length < 2 ^ 38) (ld : D.w.length < 2 ^ 38) : RetP Tryd.prog n_analogy_supports [.agg #[A.v, B.v], C.v, D.v] (fun R => WordAt R A.p A.w ∧ WordAt R B.p B.w ∧ WordAt R C.p C.w ∧ WordAt R D.p D.w ∧ VarsOk R) (.bool (supW A.w B.w C.w D.w)) := by
  refine Fn.of S_analogy_supports mx [.p A.p, .i A.w.length, .i A.cap, .p B.p, .i B.w.length, .i B.cap, .p C.p, .i C.w.length, .i C.cap, .p D.p, .i D.w.length, .i D.cap] rfl rfl fun c hp => .alloc fun a0 => .alloc fun a1 => .alloc fun a2 => .callM (c_results A B C) rfl rfl (fun _ => trivial) ?_
  rintro v mq hf ⟨b0, b1, rfl, rfl, h01⟩
  refine ⟨[.v (.func (.func n_analogy_results_1) #[] #[.pointer (some ⟨b0, 0, none⟩), .pointer (some ⟨b1, 0, none⟩)])], uOk_of rfl, rfl, .env (by (try simp only [liE, letsOf, letU, snd, List.append_nil]); rfl) ?_⟩
  refine .rangeX n_analogy_results_1 #[.pointer (some ⟨b0, 0, none⟩), .pointer (some ⟨b1, 0, none⟩)] _ (ResX (resW A.w B.w C.w)) (fun w => c.R.le (Mv.of w)) (box2 b0 b1 A B C) Mem.emp (fun k us mm => us = [.b false] ∧ D.w ∉ (resW A.w B.w C.w).take k) (fun n us mm => n = 1 ∧ us = [.b true] ∧ D.w ∈ resW A.w B.w C.w)
    rfl rfl rfl (fun b hb => absurd rfl hb) (fun k ux m1 hx => ?_) (it_results A B C oa ob oc la lb lc b0 b1 h01 c.R ⟨hp.1, hp.2.1, hp.2.2.1, hp.2.2.2.2⟩) ⟨rfl, by simp⟩ (fun k us m' w _ hw => ⟨fun b o v hv => c.ok w b o v hw.hold.1 hv, fun b es hv => c.okm w b es hw.hold.1 hv⟩) ?_ ?_ ?_
  · obtain ⟨q, cq, w, _, rfl, _⟩ := hx
    exact usOk_of rfl
  · rintro k us ux m' m1 _ ⟨q, cq, w, hw, rfl, hr⟩ ⟨rfl, hn⟩ hdj
    have hr1 := hr.joinR (m := m') fun b hb => by
      cases h : m' b with
      | none => rfl
      | some o => exact absurd (hdj b (by rw [h]; simp)) hb
    have hk : k < (resW A.w B.w C.w).length := by
      rcases Nat.lt_or_ge k (resW A.w B.w C.w).length with h | h
      · exact h
      · rw [List.getElem?_eq_none h] at hw; cases hw
    have hwk : (resW A.w B.w C.w)[k] = w := by rw [List.getElem?_eq_getElem hk] at hw; exact Option.some.inj hw
    have hmem : w ∈ resW A.w B.w C.w := hwk ▸ List.getElem_mem hk
    have hlw := resW_len hmem
    have hsub : ∀ b o, m1 b = some o → m'.join m1 b = some o := fun b o hb => hr.join_sub (m' := m') b o hb hdj
    refine .env (by (try simp only [liE, letsOf, letU, snd, List.append_nil]); rfl) (.callV (c_wordEqual q D.p cq D.cap w D.w (by omega)) (fun g => ⟨hr1.reads g, hp.2.2.2.1.mono g.R⟩) ?_)
    by_cases he : w = D.w
    · exact .yes (by ((try simp only [evE, liE, letsOf, letU, snd]); (try simp only [cmE])); simp [he]) (.leave ⟨hsub, .inr ⟨by decide, rfl, rfl, he ▸ hmem⟩⟩)
    · refine .no (by ((try simp only [evE, liE, letsOf, letU, snd]); (try simp only [cmE])); simp [he]) (.leave ⟨hsub, .inl ⟨rfl, rfl, ?_⟩⟩)
      rw [List.take_succ_eq_append_getElem hk, List.mem_append, hwk]
      simp only [List.mem_cons, List.not_mem_nil, or_false, not_or]
      exact ⟨hn, fun h => he h.symm⟩
  · rintro us m' _ ⟨rfl, hn⟩
    rw [List.take_of_length_le (Nat.le_refl _)] at hn
    have : supW A.w B.w C.w D.w = false := by unfold supW; simpa using hn
    rw [this]
    exact .no rfl (.ret rfl rfl)
  · rintro n us m' _ _ ⟨rfl, rfl, hm⟩
    have : supW A.w B.w C.w D.w = true := by unfold supW; simpa using hm
    rw [this]
    exact .yes rfl (.ret rfl rfl)
theorem c_refSup (A B C D : WD) (oa : A.ok) (ob : B.ok) (oc : C.ok) (la : A.w.length < 2 ^ 38) (lb : B.w.length < 2 ^ 38) (lc : C.w.length < 2 ^ 38) (ld : D.w.length < 2 ^ 38) : RetP Tryd.prog n_ref30_supports [.agg #[A.v, B.v], C.v, D.v] (fun R => WordAt R A.p A.w ∧ WordAt R B.p B.w ∧ WordAt R C.p C.w ∧ WordAt R D.p D.w) (.bool (supW A.w B.w C.w D.w)) := by
  refine Fn.of S_ref30_supports mx [.p A.p, .i A.w.length, .i A.cap, .p B.p, .i B.w.length, .i B.cap, .p C.p, .i C.w.length, .i C.cap, .p D.p, .i D.w.length, .i D.cap] rfl rfl fun c hp => .alloc fun a0 => .callM (c_refSolve0 A B C oa ob oc la lb lc) rfl rfl (fun g => ⟨hp.1.mono g.R, hp.2.1.mono g.R, hp.2.2.1.mono g.R⟩) ?_
  rintro v mq hf ⟨q, cq, rfl, hr⟩
  cases hs : solveW A.w B.w C.w with
  | none =>
    refine ⟨[.p q, .i 0, .i (cq : Nat), .b false], uOk_of rfl, (opt_fresh _ _ _ _ _ _).symm, .env (by (try simp only [liE, letsOf, letU, snd, List.append_nil]); rfl) (.no rfl (.callM (c_refFront0 A B C la lb lc) rfl rfl (fun g => ⟨hp.1.mono g.R, hp.2.1.mono g.R, hp.2.2.1.mono g.R⟩) ?_))⟩
    rintro v mq2 hf2 ⟨q2, cq2, rfl, hr2⟩
    cases hs2 : frontW A.w B.w C.w with
    | none =>
      have : supW A.w B.w C.w D.w = false := by unfold supW resW; rw [hs, hs2]; simp
      rw [this]
      exact ⟨[.p q2, .i 0, .i (cq2 : Nat), .b false], uOk_of rfl, (opt_fresh _ _ _ _ _ _).symm, .env (by (try simp only [liE, letsOf, letU, snd, List.append_nil]); rfl) (.no rfl (.ret rfl rfl))⟩
    | some y =>
      rw [hs2] at hr2
      have hr3 := hr2.joinR fun b hb => (hf2 b hb).1
      have hl := frontW_len hs2
      have : supW A.w B.w C.w D.w = decide (y = D.w) := by unfold supW resW; rw [hs, hs2]; simp [eq_comm]
      rw [this]
      exact ⟨[.p q2, .i (y.length : Nat), .i (cq2 : Nat), .b true], uOk_of rfl, (opt_fresh _ _ _ _ _ _).symm, .env (by (try simp only [liE, letsOf, letU, snd, List.append_nil]); rfl) (.yes rfl (.callV (c_refEqual q2 D.p cq2 D.cap y D.w (by omega)) (fun g => ⟨hr3.reads g, hp.2.2.2.mono g.R⟩) (.ret rfl rfl)))⟩
  | some x =>
    rw [hs] at hr
    have hr1 := hr.joinR (m := Mem.emp) fun b hb => rfl
    have hlx := solveW_len hs
    refine ⟨[.p q, .i (x.length : Nat), .i (cq : Nat), .b true], uOk_of rfl, (opt_fresh _ _ _ _ _ _).symm, .env (by (try simp only [liE, letsOf, letU, snd, List.append_nil]); rfl) (.yes rfl (.callV (c_refEqual q D.p cq D.cap x D.w (by omega)) (fun g => ⟨hr1.reads g, hp.2.2.2.mono g.R⟩) (.env (by (try simp only [liE, letsOf, letU, snd, List.append_nil]); rfl) (.ite (fun h1 => .ret rfl ?_) (fun h1 => .callM (c_refFront0 A B C la lb lc) rfl rfl (fun g => ⟨hp.1.mono g.R, hp.2.1.mono g.R, hp.2.2.1.mono g.R⟩) ?_)))))⟩
    · replace h1 : decide (x = D.w) = true := h1
      have : supW A.w B.w C.w D.w = true := by
        rw [supW_mem, ← of_decide_eq_true h1]
        unfold resW; rw [hs]
        cases frontW A.w B.w C.w with
        | none => simp
        | some y => simp only; split <;> simp
      rw [this]; rfl
    · replace h1 : decide (x = D.w) = false := h1
      have hx := of_decide_eq_false h1
      rintro v mq2 hf2 ⟨q2, cq2, rfl, hr2⟩
      cases hs2 : frontW A.w B.w C.w with
      | none =>
        have : supW A.w B.w C.w D.w = false := by unfold supW resW; rw [hs, hs2]; simpa using fun h => hx h.symm
        rw [this]
        exact ⟨[.p q2, .i 0, .i (cq2 : Nat), .b false], uOk_of rfl, (opt_fresh _ _ _ _ _ _).symm, .env (by (try simp only [liE, letsOf, letU, snd, List.append_nil]); rfl) (.no rfl (.ret rfl rfl))⟩
      | some y =>
        rw [hs2] at hr2
        have hr3 := hr2.joinR fun b hb => (hf2 b hb).1
        have hl := frontW_len hs2
        have : supW A.w B.w C.w D.w = decide (y = D.w) := by
          unfold supW resW; rw [hs, hs2]
          by_cases h : x = y
          · simp only [h]; subst h; simp [eq_comm]
          · simp only [if_neg h]; simp [eq_comm, fun e => hx e]
        rw [this]
        exact ⟨[.p q2, .i (y.length : Nat), .i (cq2 : Nat), .b true], uOk_of rfl, (opt_fresh _ _ _ _ _ _).symm, .env (by (try simp only [liE, letsOf, letU, snd, List.append_nil]); rfl) (.yes rfl (.callV (c_refEqual q2 D.p cq2 D.cap y D.w (by omega)) (fun g => ⟨hr3.reads g, hp.2.2.2.mono g.R⟩) (.ret rfl rfl)))⟩
end Go.Proofs.YtpbbnmjkbfbelaaDoor
