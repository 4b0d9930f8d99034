/- The law's aligned. -/
import Derived.Test.YtkhcfbdjmpodbaaDoorK6
set_option linter.unusedSimpArgs false
set_option linter.unusedVariables false
namespace Go.Sy
open Go Go.RowKit Go.Proofs.YtkhcfbdjmpodbaaDoor
def wordsW (l : List FD) : List (List Snd) := (wordsL l l.length).map (·.w)
def goodF (f : FD) : Bool := decide (f.w.w.length ≤ 8) && decide (checkW f.w.w = 0) && (f.has || decide (f.w.w.length = 0))
structure AlOk (l : List FD) (ws : List Int) (gap : Int) (cols : List (List CE)) : Prop where
  five : l.length ≤ 5
  costs : checkC ws gap = 0
  good : ∀ f ∈ l, goodF f = true
  al : checkA (wordsW l) (progE ws gap (wordsW l) (wordsW l).length) = 0
  cells : cols = entryC l (progE ws gap (wordsW l) (wordsW l).length)
theorem sumL8_le {W : List (List Snd)} (h : ∀ w ∈ W, w.length ≤ 8) : ∀ k, sumL W k ≤ 8 * k
  | 0 => Nat.le_refl _
  | k + 1 => by
    have ih := sumL8_le h k
    have : (W.getD k []).length ≤ 8 := by
      rw [List.getD_eq_getElem?_getD]
      cases e : W[k]? with
      | none => show 0 ≤ 8; omega
      | some w => exact h w (List.mem_of_getElem? e)
    unfold sumL
    omega
theorem checkL_all0 {W : List (List Snd)} (h : ∀ w ∈ W, checkW w = 0) : checkL W = 0 := by
  induction W with
  | nil => rfl
  | cons w W ih =>
    unfold checkL
    rw [h w (.head _), if_neg (by simp)]
    exact ih fun x hx => h x (.tail _ hx)
theorem wordsW_mem {l : List FD} {w : List Snd} (h : w ∈ wordsW l) : ∃ f ∈ l, f.has = true ∧ f.w.w = w := by
  obtain ⟨x, hx, rfl⟩ := List.mem_map.1 h
  obtain ⟨f, hf, hh, rfl⟩ := wordsL_mem hx
  exact ⟨f, hf, hh, rfl⟩
theorem wordsW_len (l : List FD) : (wordsW l).length = rankF l l.length := by unfold wordsW; rw [List.length_map, wordsL_len (Nat.le_refl _)]
end Go.Sy
namespace Go.Proofs.YtkhcfbdjmpodbaaDoor
open Go Go.Sy Go.RowKit
theorem c_aligned24 (gl : Value) (p pw : Option Addr) (cp cw : Nat) (l : List FD) (ws : List Int) (gap : Int) (hg : gl.oneCell' = true) (hl : l.length < 2 ^ 45) (hwl : ∀ f ∈ l, f.w.w.length < 2 ^ 45) (hok : ∀ f ∈ l, Wok f.w.w) :
    FnM Tryd.prog n_top_aligned [.agg #[gl, slv p l.length cp], costs pw ws.length cw gap] (fun R => FormsAt R p l ∧ CostsAt R pw ws ∧ TabOk R ∧ StepsOk R) fun v mq _ => ∃ q cq ts b, v = .tuple #[slv q ts.length cq, .bool b] ∧ (b = true → AlOk l ws gap (ts.map (·.l)) ∧ TabC mq q cq ts) := by
  refine FnM.of S_top_aligned mx [.v gl, .p p, .i l.length, .i cp, .p pw, .i ws.length, .i cw, .i gap] (by simp [Sh.eats, Sh.eat, eatS, eatV, eatI, hg]) rfl fun c hp => .alloc fun b0 => .alloc fun b1 => ?_
  refine .join (fun us mm => us = [.b (decide (5 < l.length ∨ checkC ws gap ≠ 0))] ∧ Mem.emp = mm) (.chk (by ((try simp only [evE, liE, lO, lU, snd]); (try simp only [cmE])); omega) (.ite (fun h1 => .again rfl ⟨?_, rfl⟩) (fun h1 => .callV (c_checkCosts pw cw ws gap) (fun g => hp.2.1.mono g.R) (.env (by (try simp only [liE, lO, lU, snd, aN]); rfl) (.again rfl ⟨?_, rfl⟩))))) ?_
  · ((try simp only [evE, liE, lO, lU, snd] at h1); (try simp only [cmE] at h1))
    rw [decide_eq_true (.inl (by omega))]
    (simp only [evE, liE, lO, lU, snd, Sh.uss, Sh.us, atAddr, map_add0, List.append_nil])
  · ((try simp only [evE, liE, lO, lU, snd] at h1); (try simp only [cmE] at h1))
    (simp only [evE, liE, lO, lU, snd, Sh.uss, Sh.us, atAddr, map_add0, List.append_nil])
    show [U.b (cm .neq (checkC ws gap) 0)] = _
    congr 2
    rw [Bool.eq_iff_iff]
    simp [cm]
    omega
  rintro _ _ _ ⟨rfl, rfl⟩
  refine .env (by (try simp only [liE, lO, lU, snd, aN]); rfl) (.ite (fun h1 => .ret rfl ⟨none, 0, [], false, rfl, nofun⟩) (fun h1 => ?_))
  replace h1 : decide (5 < l.length ∨ checkC ws gap ≠ 0) = false := h1
  rw [decide_eq_false_iff_not] at h1
  have h5 : l.length ≤ 5 := by omega
  have hc : checkC ws gap = 0 := Decidable.not_not.1 fun h => h1 (.inr h)
  refine .loop (fun n us mm => ∃ (q0 : Option Addr) (k0 c0 : Nat) (e : Bool) (qw : Option Addr) (cw : Nat) (j : Nat), us = [.p q0, .i k0, .i c0, .b e, .p qw, .i (wordsL l j).length, .i cw, .i j] ∧ n + j = l.length ∧ (∀ i (hi : i < l.length), i < j → goodF l[i] = true) ∧ Row mm 37 1 qw cw (wordsL l j).length ((wordsL l j).map WD.v)) l.length
    ⟨none, 0, 0, false, none, 0, 0, by (simp only [evE, liE, lO, lU, snd, Sh.uss, Sh.us, atAddr, map_add0, List.append_nil]) <;> rfl, rfl, fun i hi h => by omega, Row.nil ..⟩ ?_
  rintro n _ m _ ⟨q0, k0, c0, e, qw, cw2, j, rfl, hnj, hgd, hW⟩
  refine .env (by (try simp only [liE, lO, lU, snd, aN]); rfl) (.chk (by ((try simp only [evE, liE, lO, lU, snd]); (try simp only [cmE])); omega) (.ite (fun h2 => ?_) (fun h2 => ?_))) <;> ((try simp only [evE, liE, lO, lU, snd] at h2); (try simp only [cmE] at h2))
  · have hj : j < l.length := by omega
    have hws := wordsL_succ hj
    have hwlen := wordsL_len (l := l) (j := j) (by omega)
    have hrk := rankF_le l j
    have hlj := hwl _ (List.getElem_mem hj)
    refine .loadFD l j hj (fun g => hp.1.1.mono g.R) (.env (by (try simp only [liE, lO, lU, snd, aN]); rfl) (.alloc fun b2 => ?_))
    refine .join (fun us mm => us = [.b (!goodF l[j])] ∧ m = mm) (.chk (by ((try simp only [evE, liE, lO, lU, snd]); (try simp only [cmE])); omega) (.ite (fun h3 => .again rfl ⟨?_, rfl⟩) (fun h3 => ?_))) ?_
    · ((try simp only [evE, liE, lO, lU, snd] at h3); (try simp only [cmE] at h3))
      unfold goodF
      rw [decide_eq_false (show ¬ l[j].w.w.length ≤ 8 by omega)]
      (simp only [evE, liE, lO, lU, snd, Sh.uss, Sh.us, atAddr, map_add0, List.append_nil])
      rfl
    · ((try simp only [evE, liE, lO, lU, snd] at h3); (try simp only [cmE] at h3))
      have e8 : decide (l[j].w.w.length ≤ 8) = true := decide_eq_true (by omega)
      refine .callV (c_wordCheck l[j].w.p l[j].w.cap l[j].w.w (hok _ (List.getElem_mem hj))) (fun g => (hp.1.2 _ (List.getElem_mem hj)).mono g.R) (.env (by (try simp only [liE, lO, lU, snd, aN]); rfl) (.ite (fun h4 => ?_) (fun h4 => .again rfl ⟨?_, rfl⟩)))
      · replace h4 : (!cm .neq (checkW l[j].w.w) 0) = true := h4
        have h4' : checkW l[j].w.w = 0 := by simpa [cm] using h4
        have e9 : decide (checkW l[j].w.w = 0) = true := decide_eq_true h4'
        refine .ite (fun h5 => .chk (by ((try simp only [evE, liE, lO, lU, snd]); (try simp only [cmE])); omega) (.again rfl ⟨?_, rfl⟩)) (fun h5 => .again rfl ⟨?_, rfl⟩)
        · replace h5 : (!l[j].has) = true := h5
          have h5' : l[j].has = false := by simpa using h5
          unfold goodF
          rw [e8, e9, h5']
          (simp only [evE, liE, lO, lU, snd, Sh.uss, Sh.us, atAddr, map_add0, List.append_nil])
          show [U.b (cm .gtr (l[j].w.w.length : Int) 0)] = [U.b (!(true && true && (false || decide (l[j].w.w.length = 0))))]
          by_cases hz : l[j].w.w.length = 0
          · rw [decide_eq_true hz, hz]; rfl
          · rw [decide_eq_false hz, show cm .gtr (l[j].w.w.length : Int) 0 = true from decide_eq_true (show (l[j].w.w.length : Int) > 0 by omega)]; rfl
        · replace h5 : (!l[j].has) = false := h5
          have h5' : l[j].has = true := by simpa using h5
          unfold goodF
          rw [e8, e9, h5']
          (simp only [evE, liE, lO, lU, snd, Sh.uss, Sh.us, atAddr, map_add0, List.append_nil])
          rfl
      · replace h4 : (!cm .neq (checkW l[j].w.w) 0) = false := h4
        have h4' : checkW l[j].w.w ≠ 0 := by simpa [cm] using h4
        unfold goodF
        rw [e8, decide_eq_false h4']
        (simp only [evE, liE, lO, lU, snd, Sh.uss, Sh.us, atAddr, map_add0, List.append_nil])
        rfl
    rintro _ _ _ ⟨rfl, rfl⟩
    refine .env (by (try simp only [liE, lO, lU, snd, aN]); rfl) (.ite (fun h3 => .ret rfl ⟨none, 0, [], false, rfl, nofun⟩) (fun h3 => ?_))
    replace h3 : (!goodF l[j]) = false := h3
    have h3' : goodF l[j] = true := by simpa using h3
    refine .join (fun us mm => ∃ (qw : Option Addr) (cw : Nat), us = [.p qw, .i (wordsL l (j + 1)).length, .i cw] ∧ Row mm 37 1 qw cw (wordsL l (j + 1)).length ((wordsL l (j + 1)).map WD.v)) (.ite (fun h4 => ?_) (fun h4 => ?_)) ?_
    · replace h4 : l[j].has = true := h4
      rw [if_pos h4] at hws
      rw [hws]
      refine .alloc fun b3 => .append (n := (wordsL l j).length) (kx := 1) (qx := some ⟨b3, 0, none⟩) (capx := 1) (news := [l[j].w.v]) elW hW (fun g => g.cells (j := 3) rfl rfl rfl) rfl (by simp [WD.v, slv, Value.oneCell']) (fun h => by cases h) (by simp [maxLen]; omega) (by omega) (fun q3 k3 m3 hr3 hk3 hq3 => .again rfl ⟨q3, k3, ?_, ?_⟩)
      · (simp only [evE, liE, lO, lU, snd, Sh.uss, Sh.us, atAddr, map_add0, List.append_nil]); rw [List.length_append]; rfl
      · rw [List.length_append, List.map_append]; exact hr3
    · replace h4 : l[j].has = false := h4
      rw [if_neg (by rw [h4]; simp)] at hws
      rw [hws]
      exact .again rfl ⟨qw, cw2, by (simp only [evE, liE, lO, lU, snd, Sh.uss, Sh.us, atAddr, map_add0, List.append_nil]), hW⟩
    rintro _ m' _ ⟨q5, k5, rfl, hW5⟩
    refine .env (by (try simp only [liE, lO, lU, snd, aN]); rfl) (.again rfl ⟨n - 1, by omega, q0, k0, c0, e, q5, k5, j + 1, ?_, by omega, fun i hi h => ?_, hW5⟩)
    · (simp only [evE, liE, lO, lU, snd, Sh.uss, Sh.us, atAddr, map_add0, List.append_nil]); rw [add_i64 j (by omega)]
    · rcases Nat.lt_or_ge i j with h6 | h6
      · exact hgd i hi h6
      · have : i = j := by omega
        subst this; exact h3'
  obtain rfl : j = l.length := by omega
  have hgood : ∀ f ∈ l, goodF f = true := fun f hf => by
    obtain ⟨i, hi, rfl⟩ := List.mem_iff_getElem.1 hf
    exact hgd i hi hi
  have hgf : ∀ f ∈ l, f.w.w.length ≤ 8 ∧ checkW f.w.w = 0 ∧ (f.has = false → f.w.w = []) := fun f hf => by
    have := hgood f hf
    unfold goodF at this
    simp only [Bool.and_eq_true, Bool.or_eq_true, decide_eq_true_eq] at this
    refine ⟨this.1.1, this.1.2, fun h => ?_⟩
    rcases this.2 with h2 | h2
    · rw [h] at h2; cases h2
    · exact List.length_eq_zero_iff.1 h2
  have hwlen := wordsL_len (l := l) (j := l.length) (Nat.le_refl _)
  have hrk := rankF_le l l.length
  have hokW : ∀ x ∈ wordsL l l.length, Wok x.w := fun x hx => by
    obtain ⟨f, hf, _, rfl⟩ := wordsL_mem hx; exact hok f hf
  have hWE : wordsE 8 (wordsW l) = 0 := by
    unfold wordsE
    rw [if_neg (by rw [wordsW_len]; omega)]
    exact checkL_all0 fun w hw => by
      obtain ⟨f, hf, _, rfl⟩ := wordsW_mem hw; exact (hgf f hf).2.1
  have hprog : progA ws gap (wordsW l) = (progE ws gap (wordsW l) (wordsW l).length, 0) := by unfold progA; rw [if_neg (by simp [hc]), if_neg (by simp [hWE])]
  have hP := c_Progressive qw pw cw2 cw (wordsL l l.length) ws gap (by omega) hW.cap_le hokW
  rw [show (wordsL l l.length).map (·.w) = wordsW l from rfl, hprog] at hP
  refine .callE hP (fun g => ⟨⟨hW.reads g, fun x hx => ?_⟩, hp.2.1.mono g.R, hp.2.2.1.mono g.R, hp.2.2.2.mono g.R⟩) ?_
  · obtain ⟨f, hf, _, rfl⟩ := wordsL_mem hx
    exact (hp.1.2 f hf).mono g.R
  rintro v mq m1 hle1 hle2 ⟨q1, c1, rs, rfl, hrs, hT1⟩
  replace hT1 := hT1.le' hle2
  replace hrs : rs.map (·.l) = progE ws gap (wordsW l) (wordsW l).length := hrs
  have hrl : rs.length ≤ 40 := by
    have h1 := progE_len ws gap (wordsW l) (wordsW l).length
    have h2 := sumL8_le (W := wordsW l) (fun w hw => by obtain ⟨f, hf, _, rfl⟩ := wordsW_mem hw; exact (hgf f hf).1) (wordsW l).length
    have h3 := wordsW_len l
    have h4 := congrArg List.length hrs
    rw [List.length_map] at h4
    omega
  have hrc : ∀ r ∈ rs, r.l.length < 2 ^ 62 := fun r hr => by
    have h1 : r.l ∈ progE ws gap (wordsW l) (wordsW l).length := by rw [← hrs]; exact List.mem_map_of_mem hr
    have h2 := (progE_ent hc (wordsW l) (wordsW l).length (by rw [wordsW_len]; omega) _ h1).1
    rw [wordsW_len] at h2
    omega
  refine ⟨[.p q1, .i rs.length, .i c1, .i 0], uOk_of rfl, (tab_fresh _ _ _ _ _ _).symm, .env (by (try simp only [liE, lO, lU, snd, aN]); rfl) ?_⟩
  refine .callE (c_corrCells gl p q1 cp c1 l rs hg (by omega) (fun f hf => (hgf f hf).2.2) hwl hok (by omega) hrc) (fun g => ⟨hp.1.mono g.R, hT1.reads g⟩) ?_
  rintro v mq2 m2 hle3 hle4 ⟨q2, c2, ts, e2, rfl, hts⟩
  refine ⟨[.p q2, .i ts.length, .i c2, .i e2], uOk_of rfl, (tab_fresh _ _ _ _ _ _).symm, .env (by (try simp only [liE, lO, lU, snd, aN]); rfl) ?_⟩
  have hrs1 : (rs.map (·.l)) = progE ws gap (wordsW l) (wordsW l).length := hrs
  refine .join (fun us mm => ∃ b : Bool, us = [.p q2, .i ts.length, .i c2, .b b] ∧ m2 = mm ∧ (b = true → e2 = 0)) (.ite (fun h3 => .chk (by ((try simp only [evE, liE, lO, lU, snd]); (try simp only [cmE])); omega) (.chk (by ((try simp only [evE, liE, lO, lU, snd]); (try simp only [cmE])); omega) (.again rfl ⟨_, by (simp only [evE, liE, lO, lU, snd, Sh.uss, Sh.us, atAddr, map_add0, List.append_nil]) <;> rfl, rfl, fun _ => ?_⟩))) (fun h3 => .again rfl ⟨false, by (simp only [evE, liE, lO, lU, snd, Sh.uss, Sh.us, atAddr, map_add0, List.append_nil]) <;> rfl, rfl, nofun⟩)) ?_
  · replace h3 : (bif cm .eql (0 : Int) 0 then cm .eql e2 0 else false) = true := h3
    simpa [cm] using h3
  rintro _ _ _ ⟨b, rfl, rfl, hb⟩
  refine .env (by (try simp only [liE, lO, lU, snd, aN]); rfl) (.ret rfl ⟨q2, c2, ts, b, rfl, fun h => ?_⟩)
  obtain ⟨h6, h7, h8⟩ := hts (hb h)
  rw [hrs1] at h6 h7
  exact ⟨⟨h5, hc, hgood, h6, h7⟩, h8.le hle4⟩
end Go.Proofs.YtkhcfbdjmpodbaaDoor
