/- Chapter 19: the laws Compares and Labels. -/
import Derived.Test.YthabfpagilbplaaDoorBh
import Derived.Test.YthabfpagilbplaaDoorTcCompares
import Derived.Test.YthabfpagilbplaaDoorTcLabels
set_option linter.unusedSimpArgs false
set_option linter.unusedVariables false
namespace Go.Proofs.YthabfpagilbplaaDoor
open Go Go.Sy Go.RowKit
theorem l_CognatesCompares (p q : Option Addr) (cp cq : Nat) (a b : List Int) (ha : a.length < 2 ^ 63) (hb : b.length < 2 ^ 63) : RetP Tryd.prog n_law19_CognatesCompares [slv p a.length cp, slv q b.length cq] (fun R => Cells R p (intsL a) ∧ Cells R q (intsL b) ∧ TabOk R) (.bool true) := by
  refine Fn.of S_law19_CognatesCompares mx [.p p, .i a.length, .i cp, .p q, .i b.length, .i cq] rfl rfl fun c hp => .chk (by ((try simp only [evE, liE, letsOf, letU, snd]); (try simp only [cmE])); omega) (.ite (fun h1 => .callV c_works (fun g => hp.2.2.mono g.R) (.ret rfl rfl)) (fun h1 => .chk (by ((try simp only [evE, liE, letsOf, letU, snd]); (try simp only [cmE])); omega) (.ite (fun h2 => .callV c_works (fun g => hp.2.2.mono g.R) (.ret rfl rfl)) (fun h2 => ?_))))
  have k1 := c_Compare p q cp cq a b ha hb
  have k2 := c_refCompare p q cp cq a b ha hb
  have k3 := c_Cubed p q cp cq a b ha hb
  have k4 := c_refCubed p q cp cq a b ha hb
  unfold res3V at k1 k2 k3 k4
  generalize compareE a b = x at *
  generalize cubedE a b = y at *
  refine .callV k1 (fun g => ⟨hp.1.mono g.R, hp.2.1.mono g.R⟩) (.alloc fun b0 => .alloc fun b1 => .env (by (try simp only [liE, letsOf, letU, snd, List.append_nil]); rfl) (.callV k2 (fun g => ⟨hp.1.mono g.R, hp.2.1.mono g.R⟩) (.alloc fun b2 => .alloc fun b3 => .env (by (try simp only [liE, letsOf, letU, snd, List.append_nil]); rfl) (.callV k3 (fun g => ⟨hp.1.mono g.R, hp.2.1.mono g.R⟩) (.alloc fun b4 => .alloc fun b5 => .env (by (try simp only [liE, letsOf, letU, snd, List.append_nil]); rfl) (.callV k4 (fun g => ⟨hp.1.mono g.R, hp.2.1.mono g.R⟩) (.alloc fun b6 => .alloc fun b7 => .env (by (try simp only [liE, letsOf, letU, snd, List.append_nil]); rfl) (.yes ?_ (.callV c_works (fun g => hp.2.2.mono g.R) (.ret rfl rfl))))))))))
  ((try simp only [evE, liE, letsOf, letU, snd]); (try simp only [cmE])); simp
theorem c_few (p : Option Addr) (cp : Nat) (l : List FD) (pc : Option Addr) (cc : Nat) (ws : List Int) (gap : Int) (hl : l.length < 2 ^ 63) : FnM Tryd.prog n_law19_few [slv p l.length cp, costs pc ws.length cc gap] (fun R => FormsAt R p l) fun v _ _ => ∃ b, v = .bool b := by
  refine FnM.of S_law19_few mx [.p p, .i l.length, .i cp, .p pc, .i ws.length, .i cc, .i gap] rfl rfl fun c hp => .alloc fun b0 => .chk (by ((try simp only [evE, liE, letsOf, letU, snd]); (try simp only [cmE])); omega) ?_
  refine .loop (fun n us m => ∃ (e : Bool) (s : Int) (j : Nat), j ≤ l.length ∧ n = l.length - j ∧ us = [.b e, .i s, .i j]) l.length ⟨false, 0, 0, Nat.zero_le _, rfl, rfl⟩ ?_
  rintro n us m _ ⟨e, s, j, hj, rfl, rfl⟩
  refine .env (by (try simp only [liE, letsOf, letU, snd, List.append_nil]); rfl) (.ite (fun h1 => ?_) (fun h1 => .chk (by ((try simp only [evE, liE, letsOf, letU, snd]); (try simp only [cmE])); omega) (.ite (fun h2 => .chk (by ((try simp only [evE, liE, letsOf, letU, snd]); (try simp only [cmE])); omega) (.ret rfl ⟨_, rfl⟩)) (fun h2 => .ret rfl ⟨_, rfl⟩)))) <;> ((try simp only [evE, liE, letsOf, letU, snd] at h1); (try simp only [cmE] at h1))
  have hj : j < l.length := by omega
  refine .loadFD l j hj (fun g => hp.1.mono g.R) (.alloc fun b2 => .env (by (try simp only [liE, letsOf, letU, snd, List.append_nil]); rfl) (.chk (by ((try simp only [evE, liE, letsOf, letU, snd]); (try simp only [cmE])); omega) (.ite (fun h2 => .ret rfl ⟨_, rfl⟩) (fun h2 => .chk (by ((try simp only [evE, liE, letsOf, letU, snd]); (try simp only [cmE])); omega) (.again rfl ⟨l.length - (j + 1), by omega, e, ar .add .i64 s (l[j].w.w.length : Int), j + 1, by omega, rfl, ?_⟩)))))
  (simp only [evE, liE, letsOf, letU, snd, Sh.uss, Sh.us, atAddr, map_add0, List.append_nil]); rw [add_i64 j (by omega)]
theorem l_CognatesLabels (p : Option Addr) (cp : Nat) (l : List FD) (pc : Option Addr) (cc : Nat) (ws : List Int) (gap N D : Int) (hcp : l.length ≤ cp) (hl : l.length < 2 ^ 63) (hok : ∀ f ∈ l, Wok f.w.w) (hN : N < 2 ^ 63) (hD : D < 2 ^ 63) :
    RetP Tryd.prog n_law19_CognatesLabels [slv p l.length cp, costs pc ws.length cc gap, .agg #[.int .i64 N, .int .i64 D]] (fun R => FormsAt R p l ∧ CostsAt R pc ws ∧ TabOk R) (.bool true) := by
  refine Fn.of S_law19_CognatesLabels mx [.p p, .i l.length, .i cp, .p pc, .i ws.length, .i cc, .i gap, .i N, .i D] rfl rfl fun c hp => .alloc fun b0 => .alloc fun b1 => ?_
  refine .callM (c_few p cp l pc cc ws gap hl) rfl rfl (fun g => hp.1.mono g.R) ?_
  rintro v mq hfr ⟨b, rfl⟩
  refine ⟨[.b b], uOk_of rfl, rfl, ?_⟩
  generalize Mem.emp.join mq = m0
  clear hfr
  refine .env (by (try simp only [liE, letsOf, letU, snd, List.append_nil]); rfl) (.ite (fun h1 => .callV c_works (fun g => hp.2.2.mono g.R) (.ret rfl rfl)) (fun h1 => ?_))
  have k1 := c_Labels p cp l pc cc ws gap N D hcp hl hok hN hD
  have k2 := c_refLabels p cp l pc cc ws gap N D hl hok hN hD
  have k3 := c_Average p cp l pc cc ws gap N D hcp hl hok hN hD
  have k4 := c_refAverage p cp l pc cc ws gap N D hl hok hN hD
  have hx : (labelsE ws gap l N D).1.length < 2 ^ 63 := by
    unfold labelsE; split
    · simp
    · rw [labels0_len]; exact hl
  have hy : (averageE ws gap l N D).1.length < 2 ^ 63 := by
    have hlen : ∀ n (lab : List Int), (avgN ws gap l N D n lab).length = lab.length := fun n => by
      induction n with
      | zero => intro lab; rfl
      | succ n ih =>
        intro lab
        unfold avgN
        split
        · rfl
        · rw [ih, uniteL_len]
    unfold averageE; split
    · simp
    · rw [hlen, aloneL_len, List.length_map]; exact hl
  generalize labelsE ws gap l N D = x at *
  generalize averageE ws gap l N D = y at *
  obtain ⟨x, ex⟩ := x
  obtain ⟨y, ey⟩ := y
  dsimp only at *
  refine .callM k1 rfl rfl (fun g => ⟨hp.1.mono g.R, hp.2.1.mono g.R, hp.2.2.mono g.R⟩) ?_
  rintro v m1 hfr1 ⟨q1, c1, rfl, hr1⟩
  refine ⟨[.p q1, .i (x.length : Nat), .i c1, .i ex], uOk_of rfl, (tab_fresh _ _ _ _ _ _).symm, ?_⟩
  have hr1 := hr1.joinR (m := m0) fun b hb => (hfr1 b hb).1
  clear hfr1
  generalize m0.join m1 = mm at *
  refine .env (by (try simp only [liE, letsOf, letU, snd, List.append_nil]); rfl) (.callM k2 rfl rfl (fun g => ⟨hp.1.mono g.R, hp.2.1.mono g.R⟩) ?_)
  rintro v m2 hfr2 ⟨q2, c2, rfl, hr2⟩
  refine ⟨[.p q2, .i (x.length : Nat), .i c2, .i ex], uOk_of rfl, (tab_fresh _ _ _ _ _ _).symm, ?_⟩
  have hr1 := hr1.joinL (mq := m2)
  have hr2 := hr2.joinR (m := mm) fun b hb => (hfr2 b hb).1
  clear hfr2
  generalize mm.join m2 = mm at *
  refine .env (by (try simp only [liE, letsOf, letU, snd, List.append_nil]); rfl) (.callM k3 rfl rfl (fun g => ⟨hp.1.mono g.R, hp.2.1.mono g.R, hp.2.2.mono g.R⟩) ?_)
  rintro v m3 hfr3 ⟨q3, c3, rfl, hr3⟩
  refine ⟨[.p q3, .i (y.length : Nat), .i c3, .i ey], uOk_of rfl, (tab_fresh _ _ _ _ _ _).symm, ?_⟩
  have hr1 := hr1.joinL (mq := m3)
  have hr2 := hr2.joinL (mq := m3)
  have hr3 := hr3.joinR (m := mm) fun b hb => (hfr3 b hb).1
  clear hfr3
  generalize mm.join m3 = mm at *
  refine .env (by (try simp only [liE, letsOf, letU, snd, List.append_nil]); rfl) (.callM k4 rfl rfl (fun g => ⟨hp.1.mono g.R, hp.2.1.mono g.R⟩) ?_)
  rintro v m4 hfr4 ⟨q4, c4, rfl, hr4⟩
  refine ⟨[.p q4, .i (y.length : Nat), .i c4, .i ey], uOk_of rfl, (tab_fresh _ _ _ _ _ _).symm, ?_⟩
  have hr1 := hr1.joinL (mq := m4)
  have hr2 := hr2.joinL (mq := m4)
  have hr3 := hr3.joinL (mq := m4)
  have hr4 := hr4.joinR (m := mm) fun b hb => (hfr4 b hb).1
  clear hfr4
  generalize mm.join m4 = mm at *
  have e1 := c_eqI q1 q2 c1 c2 x x hx
  have e2 := c_eqI q3 q4 c3 c4 y y hy
  rw [decide_eq_true rfl] at e1 e2
  refine .env (by (try simp only [liE, letsOf, letU, snd, List.append_nil]); rfl) (.callV e1 (fun g => ⟨hr1.reads g, hr2.reads g⟩) (.env (by (try simp only [liE, letsOf, letU, snd, List.append_nil]); rfl) (.yes (by ((try simp only [evE, liE, letsOf, letU, snd]); (try simp only [cmE])) <;> simp) (.callV e2 (fun g => ⟨hr3.reads g, hr4.reads g⟩) (.env (by (try simp only [liE, letsOf, letU, snd, List.append_nil]); rfl) (.yes (by ((try simp only [evE, liE, letsOf, letU, snd]); (try simp only [cmE])) <;> simp) (.callV c_works (fun g => hp.2.2.mono g.R) (.ret rfl rfl))))))))
end Go.Proofs.YthabfpagilbplaaDoor
