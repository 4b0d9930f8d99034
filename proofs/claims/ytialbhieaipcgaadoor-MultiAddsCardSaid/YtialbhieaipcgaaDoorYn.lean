/- Chapter 18: the reference's Add; the law of added words. -/
import Derived.Test.YtialbhieaipcgaaDoorYm
import Derived.Test.YtialbhieaipcgaaDoorTcAdds
set_option linter.unusedSimpArgs false
set_option linter.unusedVariables false
namespace Go.Sy
open Go Go.RowKit
theorem Row.any {m m' : Mem} {e : TypeId} {q q' : Option Addr} {cap cap' n n' g : Nat} {xs xs' ys : List Value} (hg : q = some ⟨g, 0, none⟩) (h : Row m e 1 q cap n xs) (h' : Row m' e 1 q cap n ys) (hs : ∀ b, b ≠ g → m' b = m b) (hr : Row m e 1 q' cap' n' xs') : ∃ zs, Row m' e 1 q' cap' n' zs := by
  rcases hr.2 with ⟨h1, h2, h3⟩ | ⟨g2, c2, h1, h2, h3, h4, h5, h6⟩
  · subst h1; subst h2; subst h3
    exact ⟨[], Row.nil ..⟩
  · by_cases e2 : g2 = g
    · subst e2
      rcases h.2 with ⟨k1, _⟩ | ⟨g3, c3, k1, k2, k3, k4, k5, k6⟩
      · rw [k1] at hg; cases hg
      · rw [k1] at hg; cases hg
        rw [k2] at h2; cases h2
        rcases h'.2 with ⟨l1, _⟩ | ⟨g4, c4, l1, l2, l3, l4, l5, l6⟩
        · rw [k1] at l1; cases l1
        · rw [k1] at l1; cases l1
          have hcap : cap' = cap := by omega
          subst hcap
          exact ⟨(c4.toList.take (n' * 1)), ⟨by rw [List.length_take, Array.length_toList, l5]; omega, .inr ⟨_, c4, h1, l2, h3, h4, l5, rfl⟩⟩⟩
    · exact ⟨xs', hr.keep fun b hb _ => by rw [h1] at hb; cases hb; exact hs g2 e2⟩
end Go.Sy
namespace Go.Proofs.YtialbhieaipcgaaDoor
open Go Go.Sy Go.RowKit
set_option maxHeartbeats 1000000 in
theorem c_refAdd (p pcol pc : Option Addr) (cp ccol cc : Nat) (l : List WD) (x : WD) (rs : List IR) (ws : List Int) (gap : Int) (hl : l.length < 2 ^ 40) (hlc : l.length ≤ cp) (hpn : p = none → cp = 0) (hok : ∀ y ∈ l, Wok y.w) (hx : Wok x.w) (hw : ∀ y ∈ l, y.w.length < 2 ^ 62) (hr : rs.length < 2 ^ 40) (hrok : ∀ r ∈ rs, r.ok) :
    FnM Tryd.prog n_ref18_Add [slv p l.length cp, slv pcol rs.length ccol, x.v, costs pc ws.length cc gap] (fun R => WordsAt R p l ∧ RowsAt R pcol rs ∧ WordAt R x.p x.w ∧ CostsAt R pc ws) fun v mq _ => ∃ q cq rs', v = .tuple #[slv q rs'.length cq, .int .i64 (addA ws gap (l.map (·.w)) (rs.map (·.l)) x.w).2] ∧ rs'.map (·.l) = (addA ws gap (l.map (·.w)) (rs.map (·.l)) x.w).1 ∧ TabI mq q cq rs' := by
  have hclen : (rs.map (·.l)).length = rs.length := List.length_map _
  have hwlen : (l.map (·.w)).length = l.length := List.length_map _
  have hrl : ∀ r ∈ rs, r.l.length < 2 ^ 62 := fun r hr => by have := (hrok r hr).small; omega
  refine FnM.of S_ref18_Add mx [.p p, .i l.length, .i cp, .p pcol, .i rs.length, .i ccol, .p x.p, .i x.w.length, .i x.cap, .p pc, .i ws.length, .i cc, .i gap] rfl rfl fun c hp => .alloc fun b0 => ?_
  refine .callV (c_refCheckCosts pc cc ws gap) (fun g => hp.2.2.2.mono g.R) (.env (by (try simp only [liE, letsOf, letU, snd, List.append_nil]); rfl) ?_)
  refine .join (fun us m => us = [.i (if checkC ws gap = 0 then wordsE 7 (l.map (·.w)) else checkC ws gap)] ∧ Mem.emp = m) (.ite (fun h1 => ?_) (fun h1 => .again rfl ⟨?_, rfl⟩)) ?_
  · ((try simp only [evE, liE, letsOf, letU, snd] at h1); (try simp only [cmE] at h1))
    refine .callV (c_refWords p cp l 7 (by omega) hok) (fun g => hp.1.mono g.R) (.env (by (try simp only [liE, letsOf, letU, snd, List.append_nil]); rfl) (.again rfl ⟨?_, rfl⟩))
    rw [if_pos h1]; (simp only [evE, liE, letsOf, letU, snd, Sh.uss, Sh.us, atAddr, map_add0, List.append_nil])
  · ((try simp only [evE, liE, letsOf, letU, snd] at h1); (try simp only [cmE] at h1))
    rw [if_neg h1]; (simp only [evE, liE, letsOf, letU, snd, Sh.uss, Sh.us, atAddr, map_add0, List.append_nil])
  rintro _ _ _ ⟨rfl, rfl⟩
  generalize he1 : (if checkC ws gap = 0 then wordsE 7 (l.map (·.w)) else checkC ws gap) = e1
  refine .env (by (try simp only [liE, letsOf, letU, snd, List.append_nil]); rfl) (.join (fun us m => us = [.i (if e1 = 0 then checkW x.w else e1)] ∧ Mem.emp = m) (.ite (fun h1 => ?_) (fun h1 => .again rfl ⟨?_, rfl⟩)) ?_)
  · ((try simp only [evE, liE, letsOf, letU, snd] at h1); (try simp only [cmE] at h1))
    refine .callV (c_ref02Check x.p x.cap x.w hx) (fun g => hp.2.2.1.mono g.R) (.env (by (try simp only [liE, letsOf, letU, snd, List.append_nil]); rfl) (.again rfl ⟨?_, rfl⟩))
    rw [if_pos h1]; (simp only [evE, liE, letsOf, letU, snd, Sh.uss, Sh.us, atAddr, map_add0, List.append_nil])
  · ((try simp only [evE, liE, letsOf, letU, snd] at h1); (try simp only [cmE] at h1))
    rw [if_neg h1]; (simp only [evE, liE, letsOf, letU, snd, Sh.uss, Sh.us, atAddr, map_add0, List.append_nil])
  rintro _ _ _ ⟨rfl, rfl⟩
  generalize he2 : (if e1 = 0 then checkW x.w else e1) = e2
  have hword : e2 = 0 → (∀ y ∈ l, y.w.length ≤ 32) ∧ l.length ≤ 7 := fun h => by
    rw [h] at he2
    have h1 : e1 = 0 := by
      by_cases h1 : e1 = 0
      · exact h1
      · rw [if_neg h1] at he2; exact he2
    rw [h1] at he1
    have h2 : checkC ws gap = 0 := by
      by_cases h2 : checkC ws gap = 0
      · exact h2
      · rw [if_neg h2] at he1; exact he1
    rw [if_pos h2] at he1
    obtain ⟨a, b⟩ := wordsE_zero he1
    exact ⟨fun y hy => words_len b _ (List.mem_map_of_mem hy), by omega⟩
  refine .env (by (try simp only [liE, letsOf, letU, snd, List.append_nil]); rfl) (.join (fun us m => us = [.b (decide (e2 = 0) && !isAl (l.map (·.w)) (rs.map (·.l)))] ∧ Mem.emp = m) (.ite (fun h1 => ?_) (fun h1 => .again rfl ⟨?_, rfl⟩)) ?_)
  · ((try simp only [evE, liE, letsOf, letU, snd] at h1); (try simp only [cmE] at h1))
    refine .callV (c_refIs p pcol cp ccol l rs (by omega) (by omega) hw hrl) (fun g => ⟨hp.1.mono g.R, hp.2.1.mono g.R⟩) (.env (by (try simp only [liE, letsOf, letU, snd, List.append_nil]); rfl) (.again rfl ⟨?_, rfl⟩))
    rw [decide_eq_true h1, Bool.true_and]; rfl
  · ((try simp only [evE, liE, letsOf, letU, snd] at h1); (try simp only [cmE] at h1))
    rw [decide_eq_false h1, Bool.false_and]; rfl
  rintro _ _ _ ⟨rfl, rfl⟩
  refine .env (by (try simp only [liE, letsOf, letU, snd, List.append_nil]); rfl) (.join (fun us m => us = [.i (addErr ws gap (l.map (·.w)) (rs.map (·.l)) x.w)] ∧ Mem.emp = m) (.ite (fun h1 => .again rfl ⟨?_, rfl⟩) (fun h1 => .again rfl ⟨?_, rfl⟩)) ?_)
  · have e : addErr ws gap (l.map (·.w)) (rs.map (·.l)) x.w = 8 := by
      replace h1 : (decide (e2 = 0) && !isAl (l.map (·.w)) (rs.map (·.l))) = true := h1
      rw [Bool.and_eq_true, decide_eq_true_eq, Bool.not_eq_true'] at h1
      obtain ⟨h2, h3⟩ := h1
      subst h2
      have g1 : e1 = 0 := by
        by_cases h1 : e1 = 0
        · exact h1
        · rw [if_neg h1] at he2; exact he2
      rw [if_pos g1] at he2
      rw [g1] at he1
      have g2 : checkC ws gap = 0 := by
        by_cases h2 : checkC ws gap = 0
        · exact h2
        · rw [if_neg h2] at he1; exact he1
      rw [if_pos g2] at he1
      have g3 := wordsE_zero he1
      have g4 : wordsE 8 (l.map (·.w)) = 0 := by unfold wordsE; rw [if_neg (by omega)]; exact g3.2
      have g5 : checkA (l.map (·.w)) (rs.map (·.l)) = 8 := by unfold checkA; rw [if_neg (by simp [g4]), h3]; rfl
      show (if checkC ws gap ≠ 0 then checkC ws gap else if wordsE 7 (l.map (·.w)) ≠ 0 then wordsE 7 (l.map (·.w)) else if checkW x.w ≠ 0 then checkW x.w else if checkA (l.map (·.w)) (rs.map (·.l)) ≠ 0 then checkA (l.map (·.w)) (rs.map (·.l)) else 0) = 8
      rw [if_neg (by simp [g2]), if_neg (by simp [he1]), if_neg (by simp [he2]), g5, if_pos (by decide)]
    rw [e]; (simp only [evE, liE, letsOf, letU, snd, Sh.uss, Sh.us, atAddr, map_add0, List.append_nil])
  · have e : addErr ws gap (l.map (·.w)) (rs.map (·.l)) x.w = e2 := by
      replace h1 : (decide (e2 = 0) && !isAl (l.map (·.w)) (rs.map (·.l))) = false := h1
      show (if checkC ws gap ≠ 0 then checkC ws gap else if wordsE 7 (l.map (·.w)) ≠ 0 then wordsE 7 (l.map (·.w)) else if checkW x.w ≠ 0 then checkW x.w else if checkA (l.map (·.w)) (rs.map (·.l)) ≠ 0 then checkA (l.map (·.w)) (rs.map (·.l)) else 0) = e2
      by_cases g1 : checkC ws gap = 0
      · rw [if_neg (by simp [g1])]
        rw [if_pos g1] at he1
        by_cases g2 : wordsE 7 (l.map (·.w)) = 0
        · rw [if_neg (by simp [g2])]
          rw [g2] at he1
          rw [if_pos he1.symm] at he2
          by_cases g3 : checkW x.w = 0
          · rw [if_neg (by simp [g3])]
            rw [g3] at he2
            rw [decide_eq_true he2.symm, Bool.true_and, Bool.not_eq_false'] at h1
            have g4 : wordsE 8 (l.map (·.w)) = 0 := by
              have := wordsE_zero g2
              unfold wordsE; rw [if_neg (by omega)]; exact this.2
            rw [checkA_al g4 h1, if_neg (by decide)]; exact he2
          · rw [if_pos g3]; exact he2
        · rw [if_pos g2]
          rw [if_neg (by rw [← he1]; exact g2)] at he2
          rw [he1]; exact he2
      · rw [if_pos g1]
        rw [if_neg g1] at he1
        rw [if_neg (by rw [← he1]; exact g1)] at he2
        rw [he1]; exact he2
    rw [e]; (simp only [evE, liE, letsOf, letU, snd, Sh.uss, Sh.us, atAddr, map_add0, List.append_nil])
  rintro _ _ _ ⟨rfl, rfl⟩
  clear hword he2 he1
  have hA : addA ws gap (l.map (·.w)) (rs.map (·.l)) x.w = if addErr ws gap (l.map (·.w)) (rs.map (·.l)) x.w ≠ 0 then ([], addErr ws gap (l.map (·.w)) (rs.map (·.l)) x.w) else (insE (columnE ws gap (l.map (·.w) ++ [x.w])) (rs.map (·.l)) l.length l.length x.w.length, 0) := by unfold addA; rw [hwlen]
  have hz := addErr_zero (ws := ws) (gap := gap) (W := l.map (·.w)) (cols := rs.map (·.l)) (w := x.w)
  rw [hA]
  generalize addErr ws gap (l.map (·.w)) (rs.map (·.l)) x.w = e at hz ⊢
  refine .env (by (try simp only [liE, letsOf, letU, snd, List.append_nil]); rfl) (.ite (fun h1 => .ret rfl ?_) (fun h1 => .chk (by ((try simp only [evE, liE, letsOf, letU, snd]); (try simp only [cmE])); omega) ?_)) <;> ((try simp only [evE, liE, letsOf, letU, snd] at h1); (try simp only [cmE] at h1))
  · rw [if_pos h1]; exact ⟨none, 0, [], rfl, rfl, .empty _⟩
  rw [if_neg (by simp [h1])]
  clear hA
  obtain ⟨hc, h7, hL, hwx, hal⟩ := hz h1
  rw [hwlen] at h7
  have hal' := add_al (w := x.w) hc (by omega) hal
  have hcl := al_len hal (by omega) (wl_32 hL)
  rw [hclen] at hcl
  have hx32 := (checkW_zero hwx).1
  refine .alloc fun b1 => .appendLit (b0 := b1) (qx := p) (kx := l.length) (capx := cp) (news := l.map WD.v) elW (fun g => hp.1.1.mono g.R) (by rw [List.length_map, Nat.mul_one]) (wv_one l) hpn (by simp [maxLen]; omega) (by omega) (fun q1 k1 m1 hr1 h01 _ => .env (by (try simp only [liE, letsOf, letU, snd, List.append_nil]); rfl) ?_)
  refine .alloc fun b2 => .envL (by simp only [List.nil_append, List.cons_append]; rfl) (.appendW (qx := some ⟨b2, 0, none⟩) l x (by omega) hr1 (fun h => .inr ⟨b1, h01 h⟩) (fun g => g.cells (j := 2) rfl rfl rfl) nofun fun q2 k2 m2 hR2 => .env (by (try simp only [liE, letsOf, letU, snd, List.append_nil]); rfl) ?_)
  have hok' : ∀ y ∈ l ++ [x], Wok y.w := fun y hy => by
    rcases List.mem_append.1 hy with hy | hy
    · exact hok y hy
    · rw [List.mem_singleton] at hy; subst hy; exact hx
  have hmapw : (l ++ [x]).map (·.w) = l.map (·.w) ++ [x.w] := by rw [List.map_append]; rfl
  have key := c_refInsert q2 pcol pc k2 ccol cc (l ++ [x]) rs ws gap l.length l.length x.w.length rs.length (by simp) (by simp; omega) hok' hc rfl (Nat.le_refl _) (by rw [List.getElem_append_right (Nat.le_refl _)]; simp) (by omega)
    (fun r hr => ⟨hrok r hr, by have := (isAl_ent hal r.l (List.mem_map_of_mem hr)).1; omega⟩)
    (fun v i j ho => by
      have := add_open (w := x.w) hal (v := v) (i := i) (j := j) (by rw [hclen]; exact ho)
      rw [hwlen] at this
      rw [hmapw]
      exact this.2)
  rw [hmapw] at key
  refine .callE key (fun g => ⟨words_snoc (hR2.reads g) (hp.1.mono g.R) (hp.2.2.1.mono g.R), hp.2.1.mono g.R, hp.2.2.2.mono g.R⟩) ?_ (by rw [List.length_append]; rfl)
  rintro v mq4 m4 hle4 hq4 ⟨q4, k4, ag, rfl, hag, hT⟩
  refine ⟨[.p q4, .i (ag.length : Nat), .i (k4 : Nat)], uOk_of rfl, (slv_fresh _ _ _ _ _).symm, .env (by (try simp only [liE, letsOf, letU, snd, List.append_nil]); rfl) (.ret rfl ⟨q4, k4, ag, rfl, hag, hT.le' hq4⟩)⟩
end Go.Proofs.YtialbhieaipcgaaDoor
