/- Chapter 19: the reference's Table, and the law Tables. -/
import Derived.Test.YthabfpagilbplaaDoorRf
import Derived.Test.YthabfpagilbplaaDoorTcTables
set_option linter.unusedSimpArgs false
set_option linter.unusedVariables false
namespace Go.Proofs.YthabfpagilbplaaDoor
open Go Go.Sy Go.RowKit
theorem c_refTable (p : Option Addr) (cp : Nat) (es : List ED) (pc : Option Addr) (cc : Nat) (ws : List Int) (gap N D : Int) (hl : es.length < 2 ^ 63) (hx : ∀ x ∈ es, x.l.length < 2 ^ 63) (hok : ∀ x ∈ es, ∀ f ∈ x.l, Wok f.w.w) (hN : N < 2 ^ 63) (hD : D < 2 ^ 63) :
    FnM Tryd.prog n_ref19_Table [slv p es.length cp, costs pc ws.length cc gap, .agg #[.int .i64 N, .int .i64 D]] (fun R => EntriesAt R p es ∧ CostsAt R pc ws) fun v mq _ => ∃ q cq rs, v = .tuple #[slv q rs.length cq, .int .i64 (tableE ws gap es N D).2] ∧ rs.map (·.l) = (tableE ws gap es N D).1 ∧ TabI mq q cq rs := by
  refine FnM.of S_ref19_Table mx [.p p, .i es.length, .i cp, .p pc, .i ws.length, .i cc, .i gap, .i N, .i D] rfl rfl fun c hp => .alloc fun b0 => .alloc fun b1 => .callV (c_refCheckCosts pc cc ws gap) (fun g => hp.2.mono g.R) (.env (by (try simp only [liE, letsOf, letU, snd, List.append_nil]); rfl) (.ite (fun h1 => .ret rfl ?_) (fun h1 => .chk (by ((try simp only [evE, liE, letsOf, letU, snd]); (try simp only [cmE])); omega) (.ite (fun h2 => .ret rfl ?_) (fun h2 => ?_))))) <;> ((try simp only [evE, liE, letsOf, letU, snd] at h1); (try simp only [cmE] at h1))
  · unfold tableE; rw [if_pos h1]; exact ⟨none, 0, [], rfl, rfl, .empty _⟩
  · ((try simp only [evE, liE, letsOf, letU, snd] at h2); (try simp only [cmE] at h2)); unfold tableE; rw [if_neg (by simp [h1]), if_pos (.inl (by omega))]; exact ⟨none, 0, [], rfl, rfl, .empty _⟩
  ((try simp only [evE, liE, letsOf, letU, snd] at h2); (try simp only [cmE] at h2))
  have hc : checkC ws gap = 0 := by simpa using h1
  refine .loop (fun n us m => ∃ (pp : Option Addr) (n1 n2 : Int) (e : Int) (j : Nat), j ≤ es.length ∧ us = [.p pp, .i n1, .i n2, .i e, .i j] ∧ n = es.length - j ∧ ∀ i (hi : i < es.length), i < j → longE es[i] = false) es.length ⟨none, 0, 0, 0, 0, Nat.zero_le _, rfl, rfl, fun i hi h => by omega⟩ ?_
  rintro n us m _ ⟨pp, n1, n2, e, j, hj, rfl, rfl, hb0⟩
  refine .env (by (try simp only [liE, letsOf, letU, snd, List.append_nil]); rfl) (.chk (by ((try simp only [evE, liE, letsOf, letU, snd]); (try simp only [cmE])); omega) (.ite (fun h3 => ?_) (fun h3 => ?_))) <;> ((try simp only [evE, liE, letsOf, letU, snd] at h3); (try simp only [cmE] at h3))
  · have hj : j < es.length := by omega
    refine .loadEF es j hj (fun g => hp.1.1.mono g.R) (.env (by (try simp only [liE, letsOf, letU, snd, List.append_nil]); rfl) (.chk (by ((try simp only [evE, liE, letsOf, letU, snd]); (try simp only [cmE])); omega) (.ite (fun h4 => .ret rfl ?_) (fun h4 => .again rfl ⟨es.length - (j + 1), by omega, pp, n1, n2, e, j + 1, by omega, ?_, rfl, fun i hi hij => ?_⟩)))) <;> ((try simp only [evE, liE, letsOf, letU, snd] at h4); (try simp only [cmE] at h4))
    · have : es.any longE = true := any_true hj (by unfold longE; rw [decide_eq_true (by omega)])
      unfold tableE; rw [if_neg (by simp [h1]), if_pos (.inr this)]; exact ⟨none, 0, [], rfl, rfl, .empty _⟩
    · (simp only [evE, liE, letsOf, letU, snd, Sh.uss, Sh.us, atAddr, map_add0, List.append_nil]); rw [add_i64 j (by omega)]
    · rcases Nat.lt_or_ge i j with h | h
      · exact hb0 i hi h
      · have : i = j := by omega
        subst this
        unfold longE; rw [decide_eq_false (by omega)]
  have h3' : es.any longE = false := any_false fun i hi => hb0 i hi (by omega)
  clear hb0
  have hshort : ∀ x ∈ es, x.l.length ≤ 16 := fun x hxm => by
    have := List.any_eq_false.1 h3' x hxm
    unfold longE at this
    simp at this
    omega
  have hn12 : ¬ (es.length > 256 ∨ es.any longE = true) := by rw [h3']; simp; omega
  refine .loop (fun n us m => ∃ (pp : Option Addr) (n1 n2 : Int) (e : Int) (j : Nat), j ≤ es.length ∧ us = [.p pp, .i n1, .i n2, .i e, .i j] ∧ n = es.length - j ∧ ∀ i (hi : i < es.length), i < j → oddE (headE es) es[i] = false) es.length ⟨pp, n1, n2, e, 0, Nat.zero_le _, by (simp only [evE, liE, letsOf, letU, snd, Sh.uss, Sh.us, atAddr, map_add0, List.append_nil]); rfl, rfl, fun i hi h => by omega⟩ ?_
  rintro n us m _ ⟨pp, n1, n2, e, j, hj, rfl, rfl, hb⟩
  refine .env (by (try simp only [liE, letsOf, letU, snd, List.append_nil]); rfl) (.chk (by ((try simp only [evE, liE, letsOf, letU, snd]); (try simp only [cmE])); omega) (.ite (fun h4 => ?_) (fun h4 => ?_))) <;> ((try simp only [evE, liE, letsOf, letU, snd] at h4); (try simp only [cmE] at h4))
  · have hj : j < es.length := by omega
    have hh := ehead_at es (by omega)
    have h0 := (ecells_at es 0 (by omega)).2
    have bad : oddE (headE es) es[j] = true → es.any (oddE (headE es)) = true := fun h => any_true hj h
    have hpt : ∃ pb po, p = some ⟨pb, po, none⟩ := by
      obtain ⟨pb, po, hpe, _⟩ := hp.1.1 1 _ h0
      exact ⟨pb, po, hpe⟩
    refine .loadEF es j hj (fun g => hp.1.1.mono g.R) (.env (by (try simp only [liE, letsOf, letU, snd, List.append_nil]); rfl) (.chk (by ((try simp only [evE, liE, letsOf, letU, snd]); (try simp only [cmE])); omega) (.chk ?_ (.chk ?_ (.loadSx (ecells es) 1 es[0].p es[0].l.length es[0].cap rfl h0 (fun g => hp.1.1.mono g.R) (.env (by (try simp only [liE, letsOf, letU, snd, List.append_nil]); rfl) (.chk (by ((try simp only [evE, liE, letsOf, letU, snd]); (try simp only [cmE])); omega) (.ite (fun h5 => .ret rfl ?_) (fun h5 => ?_)))))))))
    · obtain ⟨pb, po, rfl⟩ := hpt
      ((try simp only [evE, liE, letsOf, letU, snd]); (try simp only [cmE])); simp [pick_and]; omega
    · obtain ⟨pb, po, rfl⟩ := hpt
      rfl
    · ((try simp only [evE, liE, letsOf, letU, snd] at h5); (try simp only [cmE] at h5))
      unfold tableE; rw [if_neg (by simp [h1]), if_neg hn12, if_pos (bad (by unfold oddE; rw [decide_eq_true (by omega)]; rfl))]; exact ⟨none, 0, [], rfl, rfl, .empty _⟩
    · ((try simp only [evE, liE, letsOf, letU, snd] at h5); (try simp only [cmE] at h5))
      refine .loadEF es j hj (fun g => hp.1.1.mono g.R) (.env (by (try simp only [liE, letsOf, letU, snd, List.append_nil]); rfl) (.callV (c_refEmpty es[j].p es[j].cap es[j].l (hx _ (List.getElem_mem hj))) (fun g => ((hp.1.2 _ (List.getElem_mem hj)).1).mono g.R) (.env (by (try simp only [liE, letsOf, letU, snd, List.append_nil]); rfl) (.ite (fun h6 => .ret rfl ?_) (fun h6 => .again rfl ⟨es.length - (j + 1), by omega, pp, n1, n2, e, j + 1, by omega, ?_, rfl, fun i hi hij => ?_⟩)))))
      · replace h6 : (!!es[j].l.any blankF) = true := h6
        rw [Bool.not_not] at h6
        unfold tableE; rw [if_neg (by simp [h1]), if_neg hn12, if_pos (bad (by unfold oddE; rw [h6, Bool.or_true]))]; exact ⟨none, 0, [], rfl, rfl, .empty _⟩
      · (simp only [evE, liE, letsOf, letU, snd, Sh.uss, Sh.us, atAddr, map_add0, List.append_nil]); rw [add_i64 j (by omega)]
      · rcases Nat.lt_or_ge i j with h | h
        · exact hb i hi h
        · have : i = j := by omega
          subst this
          replace h6 : (!!es[i].l.any blankF) = false := h6
          rw [Bool.not_not] at h6
          unfold oddE; rw [h6, decide_eq_false (by omega)]; rfl
  · have hodd : ¬ es.any (oddE (headE es)) = true := by
      rw [any_false fun i hi => hb i hi (by omega)]; simp
    have hblank : ∀ i (hi : i < es.length), es[i].l.any blankF = false := fun i hi => by
      have := hb i hi (by omega)
      unfold oddE at this
      simp only [Bool.or_eq_false_iff] at this
      exact this.2
    have hnoerr : tableE ws gap es N D = if wordsT es ≠ 0 then ([], wordsT es) else if limB N D = true then (es.map fun x => (labelsE ws gap x.l N D).1, 0) else ([], 2) := by
      unfold tableE; rw [if_neg (by simp [h1]), if_neg hn12, if_neg hodd]
    rw [hnoerr]
    refine .loop (fun n us m => ∃ (pp : Option Addr) (n1 n2 : Int) (e : Int) (j : Nat), j ≤ es.length ∧ us = [.p pp, .i n1, .i n2, .i e, .i j] ∧ n = es.length - j ∧ ∀ i (hi : i < es.length), i < j → checkL (es[i].l.map (·.w.w)) = 0) es.length ⟨pp, n1, n2, e, 0, Nat.zero_le _, ?_, rfl, fun i hi h => by omega⟩ ?_
    · (simp only [evE, liE, letsOf, letU, snd, Sh.uss, Sh.us, atAddr, map_add0, List.append_nil]); rfl
    rintro n us m _ ⟨pp, n1, n2, e, j, hj, rfl, rfl, hb2⟩
    refine .env (by (try simp only [liE, letsOf, letU, snd, List.append_nil]); rfl) (.chk (by ((try simp only [evE, liE, letsOf, letU, snd]); (try simp only [cmE])); omega) (.ite (fun h5 => ?_) (fun h5 => ?_))) <;> ((try simp only [evE, liE, letsOf, letU, snd] at h5); (try simp only [cmE] at h5))
    · have hj : j < es.length := by omega
      refine .loadEF es j hj (fun g => hp.1.1.mono g.R) (.env (by (try simp only [liE, letsOf, letU, snd, List.append_nil]); rfl) (.callV (c_refWords19 es[j].p es[j].cap es[j].l (hx _ (List.getElem_mem hj)) (hok _ (List.getElem_mem hj))) (fun g => (hp.1.2 _ (List.getElem_mem hj)).mono g.R) (.env (by (try simp only [liE, letsOf, letU, snd, List.append_nil]); rfl) (.ite (fun h6 => .ret rfl ?_) (fun h6 => .again rfl ⟨es.length - (j + 1), by omega, pp, n1, n2, e, j + 1, by omega, ?_, rfl, fun i hi hij => ?_⟩)))))
      · ((try simp only [evE, liE, letsOf, letU, snd] at h6); (try simp only [cmE] at h6))
        have hw := wordsT_at hj (fun i hi h => hb2 i hi h) h6
        rw [if_pos (by rw [hw]; exact h6), hw]
        exact ⟨none, 0, [], rfl, rfl, .empty _⟩
      · (simp only [evE, liE, letsOf, letU, snd, Sh.uss, Sh.us, atAddr, map_add0, List.append_nil]); rw [add_i64 j (by omega)]
      · ((try simp only [evE, liE, letsOf, letU, snd] at h6); (try simp only [cmE] at h6))
        rcases Nat.lt_or_ge i j with h | h
        · exact hb2 i hi h
        · have : i = j := by omega
          subst this; exact h6
    · have hw : ∀ i (hi : i < es.length), checkL (es[i].l.map (·.w.w)) = 0 := fun i hi => hb2 i hi (by omega)
      have hw0 : wordsT es = 0 := wordsT_none hw
      rw [if_neg (by simp [hw0])]
      refine .callV (c_refLimits N D) (fun _ => trivial) (.env (by (try simp only [liE, letsOf, letU, snd, List.append_nil]); rfl) (.ite (fun h6 => .ret rfl ?_) (fun h6 => ?_)))
      · replace h6 : (!limB N D) = true := h6
        rw [if_neg (by simpa using h6)]; exact ⟨none, 0, [], rfl, rfl, .empty _⟩
      replace h6 : (!limB N D) = false := h6
      have hlim : limB N D = true := by simpa using h6
      rw [if_pos hlim]
      refine .loop (fun n us m => ∃ (q : Option Addr) (cq : Nat) (j : Nat) (rs : List IR), j ≤ es.length ∧ us = [.p q, .i j, .i cq, .i j] ∧ n = es.length - j ∧ rs.length = j ∧ rs.map (·.l) = (es.take j).map (fun x => (labelsE ws gap x.l N D).1) ∧ (∀ r ∈ rs, RowI m r.p r.cap r.l) ∧ Row m 30 1 q cq j (rs.map IR.v)) es.length ⟨none, 0, 0, [], Nat.zero_le _, rfl, rfl, rfl, rfl, (by intro r hr; cases hr), .nil _ _ _⟩ ?_
      rintro n us m4 _ ⟨q0, cq0, j, rs, hj, rfl, rfl, hrl, hrs, hri, hro⟩
      refine .env (by (try simp only [liE, letsOf, letU, snd, List.append_nil]); rfl) (.chk (by ((try simp only [evE, liE, letsOf, letU, snd]); (try simp only [cmE])); omega) (.ite (fun h7 => ?_) (fun h7 => .ret rfl ?_))) <;> ((try simp only [evE, liE, letsOf, letU, snd] at h7); (try simp only [cmE] at h7))
      · have hj : j < es.length := by omega
        refine .loadEF es j hj (fun g => hp.1.1.mono g.R) (.env (by (try simp only [liE, letsOf, letU, snd, List.append_nil]); rfl) (.callM (c_refLabels es[j].p es[j].cap es[j].l pc cc ws gap N D (hx _ (List.getElem_mem hj)) (hok _ (List.getElem_mem hj)) hN hD) rfl rfl (fun g => ⟨(hp.1.2 _ (List.getElem_mem hj)).mono g.R, hp.2.mono g.R⟩) ?_))
        rintro v mq hfr ⟨q, cq, rfl, hr⟩
        have hz : (labelsE ws gap es[j].l N D).2 = 0 := labels_ok hc (hshort _ (List.getElem_mem hj)) (hblank j hj) (hw j hj) hlim
        rw [hz]
        refine ⟨[.p q, .i (labelsE ws gap es[j].l N D).1.length, .i cq, .i 0], uOk_of rfl, (tab_fresh _ _ _ _ _ _).symm, ?_⟩
        have hr := hr.joinR (m := m4) fun b hb => (hfr b hb).1
        have hri : ∀ r ∈ rs, RowI (m4.join mq) r.p r.cap r.l := fun r h => (hri r h).joinL
        have hro := hro.joinL (mq := mq)
        generalize m4.join mq = m5 at *
        refine .env (by (try simp only [liE, letsOf, letU, snd, List.append_nil]); rfl) (.alloc fun b2 => .append (q := q0) (cap := cq0) (n := j) (qx := some ⟨b2, 0, none⟩) (kx := 1) (capx := 1) (news := [slv q (labelsE ws gap es[j].l N D).1.length cq]) elT hro (fun g => g.cells (j := 2) rfl rfl rfl) rfl (by simp [slv_eq, Value.oneCell']) (fun h => by cases h) (by simp [maxLen]; omega) (by omega) (fun q' cq' m' hr' hs _ => .again rfl ⟨es.length - (j + 1), by omega, q', cq', j + 1, rs ++ [⟨q, cq, (labelsE ws gap es[j].l N D).1⟩], by omega, ?_, rfl, by simp [hrl], ?_, ?_, ?_⟩))
        · (simp only [evE, liE, letsOf, letU, snd, Sh.uss, Sh.us, atAddr, map_add0, List.append_nil]); rw [add_i64 j (by omega)]
        · rw [List.map_append, hrs, take_snoc _ _ hj, List.map_append]; rfl
        · intro r hm
          rcases List.mem_append.1 hm with hm | hm
          · exact (hri r hm).keepA hro hs
          · simp at hm; subst hm; exact hr.keepA hro hs
        · rw [List.map_append, List.map_cons, List.map_nil]; exact hr'
      · have : j = es.length := by omega
        subst this
        rw [List.take_length] at hrs
        refine ⟨q0, cq0, rs, ?_, hrs, ⟨fun _ => by rw [hrl]; exact hro, hri, cap0_of hro, by rw [hrl]; exact hro.cap_le⟩⟩
        rw [hrl]; rfl
theorem l_CognatesTables (p : Option Addr) (cp : Nat) (es : List ED) (pc : Option Addr) (cc : Nat) (ws : List Int) (gap N D : Int) (hl : es.length < 2 ^ 63) (hg : ∀ x ∈ es, x.g.oneCell' = true) (hx : ∀ x ∈ es, x.l.length ≤ x.cap ∧ x.l.length < 2 ^ 63) (hok : ∀ x ∈ es, ∀ f ∈ x.l, Wok f.w.w) (hN : N < 2 ^ 63) (hD : D < 2 ^ 63) :
    RetP Tryd.prog n_law19_CognatesTables [slv p es.length cp, costs pc ws.length cc gap, .agg #[.int .i64 N, .int .i64 D]] (fun R => EntriesAt R p es ∧ CostsAt R pc ws ∧ TabOk R) (.bool true) := by
  refine Fn.of S_law19_CognatesTables mx [.p p, .i es.length, .i cp, .p pc, .i ws.length, .i cc, .i gap, .i N, .i D] rfl rfl fun c hp => .alloc fun b0 => .alloc fun b1 => .chk (by ((try simp only [evE, liE, letsOf, letU, snd]); (try simp only [cmE])); omega) ?_
  refine .loop (fun n us m => ∃ (e : Bool) (s : Int) (j : Nat), j ≤ es.length ∧ us = [.b e, .i s, .i j] ∧ n = es.length - j) es.length ⟨false, 0, 0, Nat.zero_le _, rfl, rfl⟩ ?_
  rintro n us m _ ⟨e, s, j, hj, rfl, rfl⟩
  refine .env (by (try simp only [liE, letsOf, letU, snd, List.append_nil]); rfl) (.ite (fun h1 => ?_) (fun h1 => .chk (by ((try simp only [evE, liE, letsOf, letU, snd]); (try simp only [cmE])); omega) (.ite (fun h2 => .callV c_works (fun g => hp.2.2.mono g.R) (.ret rfl rfl)) (fun h2 => .chk (by ((try simp only [evE, liE, letsOf, letU, snd]); (try simp only [cmE])); omega) (.ite (fun h3 => .callV c_works (fun g => hp.2.2.mono g.R) (.ret rfl rfl)) (fun h3 => ?_)))))) <;> ((try simp only [evE, liE, letsOf, letU, snd] at h1); (try simp only [cmE] at h1))
  · have hj : j < es.length := by omega
    refine .loadED es j hj (hg _ (List.getElem_mem hj)) (fun g => hp.1.1.mono g.R) (.alloc fun b2 => .env (by (try simp only [liE, letsOf, letU, snd, List.append_nil]); rfl) (.callM (c_few es[j].p es[j].cap es[j].l pc cc ws gap (hx _ (List.getElem_mem hj)).2) rfl rfl (fun g => (hp.1.2 _ (List.getElem_mem hj)).mono g.R) ?_))
    rintro v mq hfr ⟨b, rfl⟩
    refine ⟨[.b b], uOk_of rfl, rfl, ?_⟩
    generalize m.join mq = m0
    refine .env (by (try simp only [liE, letsOf, letU, snd, List.append_nil]); rfl) (.ite (fun h2 => .callV c_works (fun g => hp.2.2.mono g.R) (.ret rfl rfl)) (fun h2 => .chk (by ((try simp only [evE, liE, letsOf, letU, snd]); (try simp only [cmE])); omega) ?_))
    refine .loop (fun n us m => ∃ (s : Int) (k : Nat), k ≤ es[j].l.length ∧ us = [.i s, .i k] ∧ n = es[j].l.length - k) es[j].l.length ⟨s, 0, Nat.zero_le _, rfl, rfl⟩ ?_
    rintro n us m _ ⟨s, k, hk, rfl, rfl⟩
    refine .env (by (try simp only [liE, letsOf, letU, snd, List.append_nil]); rfl) (.ite (fun h3 => ?_) (fun h3 => .again rfl ⟨es.length - (j + 1), by omega, e, s, j + 1, by omega, by (simp only [evE, liE, letsOf, letU, snd, Sh.uss, Sh.us, atAddr, map_add0, List.append_nil]); rw [add_i64 j (by omega)], rfl⟩)) <;> ((try simp only [evE, liE, letsOf, letU, snd] at h3); (try simp only [cmE] at h3))
    have hk : k < es[j].l.length := by omega
    have hlj := (hx _ (List.getElem_mem hj)).2
    refine .loadFD es[j].l k hk (fun g => (hp.1.2 _ (List.getElem_mem hj)).1.mono g.R) (.alloc fun b3 => .env (by (try simp only [liE, letsOf, letU, snd, List.append_nil]); rfl) (.chk (by ((try simp only [evE, liE, letsOf, letU, snd]); (try simp only [cmE])); omega) (.again rfl ⟨es[j].l.length - (k + 1), by omega, ar .add .i64 s (es[j].l[k].w.w.length : Int), k + 1, by omega, ?_, rfl⟩)))
    (simp only [evE, liE, letsOf, letU, snd, Sh.uss, Sh.us, atAddr, map_add0, List.append_nil]); rw [add_i64 k (by omega)]
  · have k1 := c_Table p cp es pc cc ws gap N D hl hg hx hok hN hD
    have k2 := c_refTable p cp es pc cc ws gap N D hl (fun x h => (hx x h).2) hok hN hD
    have hlab : ∀ r ∈ (tableE ws gap es N D).1, r.length < 2 ^ 63 := by
      intro r hr
      unfold tableE at hr
      split at hr
      · cases hr
      · split at hr
        · cases hr
        · split at hr
          · cases hr
          · split at hr
            · cases hr
            · split at hr
              · obtain ⟨x, hxm, rfl⟩ := List.mem_map.1 hr
                unfold labelsE; split
                · simp
                · dsimp only; rw [labels0_len]; exact (hx x hxm).2
              · cases hr
    have hlen : (tableE ws gap es N D).1.length < 2 ^ 63 := by
      unfold tableE
      split
      · simp
      · split
        · simp
        · split
          · simp
          · split
            · simp
            · split
              · simpa using hl
              · simp
    generalize tableE ws gap es N D = x at *
    obtain ⟨x, ex⟩ := x
    dsimp only at *
    refine .callM k1 rfl rfl (fun g => ⟨hp.1.mono g.R, hp.2.1.mono g.R, hp.2.2.mono g.R⟩) ?_
    rintro v m1 hfr1 ⟨q1, c1, rs, rfl, hx1, hr1⟩
    refine ⟨[.p q1, .i (rs.length : Nat), .i c1, .i ex], uOk_of rfl, (tab_fresh _ _ _ _ _ _).symm, ?_⟩
    have hr1 := hr1.joinR (m := m) fun b hb => (hfr1 b hb).1
    clear hfr1
    generalize m.join m1 = mm at *
    refine .env (by (try simp only [liE, letsOf, letU, snd, List.append_nil]); rfl) (.callM k2 rfl rfl (fun g => ⟨hp.1.mono g.R, hp.2.1.mono g.R⟩) ?_)
    rintro v m2 hfr2 ⟨q2, c2, ss, rfl, hx2, hr2⟩
    refine ⟨[.p q2, .i (ss.length : Nat), .i c2, .i ex], uOk_of rfl, (tab_fresh _ _ _ _ _ _).symm, ?_⟩
    have hr1 := hr1.joinL (mq := m2)
    have hr2 := hr2.joinR (m := mm) fun b hb => (hfr2 b hb).1
    clear hfr2
    generalize mm.join m2 = mm at *
    have hl1 : rs.length < 2 ^ 63 := by
      have := congrArg List.length hx1
      rw [List.length_map] at this; omega
    have hl2 : ∀ r ∈ rs, r.l.length < 2 ^ 63 := fun r hr => hlab r.l (by rw [← hx1]; exact List.mem_map_of_mem hr)
    have e1 := c_lists q1 q2 c1 c2 rs ss hl1 hl2
    rw [decide_eq_true (hx1.trans hx2.symm)] at e1
    refine .env (by (try simp only [liE, letsOf, letU, snd, List.append_nil]); rfl) (.callV e1 (fun g => ⟨hr1.reads g, hr2.reads g⟩) (.env (by (try simp only [liE, letsOf, letU, snd, List.append_nil]); rfl) (.yes (by ((try simp only [evE, liE, letsOf, letU, snd]); (try simp only [cmE])) <;> simp) (.callV c_works (fun g => hp.2.2.mono g.R) (.ret rfl rfl)))))
end Go.Proofs.YthabfpagilbplaaDoor
