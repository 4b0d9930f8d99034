/- Chapter 18: the reference's Refine; the law of refined alignments. -/
import Derived.Test.YtialbhieaipcgaaDoorYk
import Derived.Test.YtialbhieaipcgaaDoorTcRefines
set_option linter.unusedSimpArgs false
set_option linter.unusedVariables false
namespace Go.Proofs.YtialbhieaipcgaaDoor
open Go Go.Sy Go.RowKit
theorem RowI.lit {m : Mem} {q : Option Addr} {cq b0 : Nat} {l : List Int} (h1 : l.length ≠ 0 → Row m 3 1 q cq l.length (intsL l)) (h0 : l.length = 0 → q = some ⟨b0, 0, none⟩ ∧ cq = 0) : RowI m q cq l := by
  rcases Nat.eq_zero_or_pos l.length with h | h
  · obtain ⟨rfl, rfl⟩ := h0 h
    exact ⟨fun hne => absurd (List.length_eq_zero_iff.1 h) hne, nofun, by omega⟩
  · exact RowI.of (h1 (by omega))
theorem c_copied (pc : Option Addr) (cc : Nat) (rs : List IR) (hr : rs.length ≤ 1048576) (hok : ∀ r ∈ rs, r.ok) :
    FnM Tryd.prog n_ref18_copied [slv pc rs.length cc] (fun R => RowsAt R pc rs) fun v mq _ => ∃ q cq ts, v = slv q ts.length cq ∧ ts.map (·.l) = rs.map (·.l) ∧ TabI mq q cq ts := by
  have hclen : (rs.map (·.l)).length = rs.length := List.length_map _
  refine FnM.of S_ref18_copied mx [.p pc, .i rs.length, .i cc] rfl rfl fun c hp => ?_
  refine .loop (fun z us m => ∃ (q : Option Addr) (cq j : Nat) (ts : List IR), us = [.p q, .i j, .i cq, .i j] ∧ z + j = rs.length ∧ ts.length = j ∧ ts.map (·.l) = (rs.map (·.l)).take j ∧ TabR m q cq ts) rs.length ⟨none, 0, 0, [], rfl, rfl, rfl, rfl, .nil _⟩ ?_
  rintro z _ m _ ⟨q, cq, j, ts, rfl, hz, htl, hts, hT⟩
  refine .env (by (try simp only [liE, letsOf, letU, snd, List.append_nil]); rfl) (.chk (by ((try simp only [evE, liE, letsOf, letU, snd]); (try simp only [cmE])); omega) (.ite (fun h1 => ?_) (fun h1 => .ret rfl ⟨q, cq, ts, by rw [htl]; rfl, ?_, hT.tab⟩))) <;> ((try simp only [evE, liE, letsOf, letU, snd] at h1); (try simp only [cmE] at h1))
  · have hj : j < rs.length := by omega
    have hrj := hok _ (List.getElem_mem hj)
    have hsm := hrj.small
    have hlm := hrj.le
    refine .alloc fun b0 => .loadSl (rs.map IR.v) j rs.length rs[j].p rs[j].l.length rs[j].cap hj (row_at rs j hj) (fun g => hp.1.mono g.R) (.env (by (try simp only [liE, letsOf, letU, snd, List.append_nil]); rfl) ?_)
    refine .appendLit (b0 := b0) (qx := rs[j].p) (kx := rs[j].l.length) (capx := rs[j].cap) (news := intsL rs[j].l) elI (fun g => (hp.2 _ (List.getElem_mem hj)).mono g.R) (by rw [intsL_len, Nat.mul_one]) (fun u hu => by unfold intsL at hu; obtain ⟨x, _, rfl⟩ := List.mem_map.1 hu; rfl) hrj.nil (by unfold maxLen; omega) (by omega) (fun q1 c1 m1 hr1 h01 hk1 => ?_)
    have hle1 : m.le m1 := fun b o hb => by rw [hk1 b (by rw [hb]; simp)]; exact hb
    have hI1 : RowI m1 q1 c1 rs[j].l := .lit hr1 h01
    have hT1 := hT.le hle1
    have hout := hT1.out
    rw [htl] at hout
    refine .env (by (try simp only [liE, letsOf, letU, snd, List.append_nil]); rfl) (.alloc' fun b1 _ hb1 _ => .append (q := q) (cap := cq) (n := j) (qx := some ⟨b1, 0, none⟩) (kx := 1) (capx := 1) (news := [slv q1 rs[j].l.length c1]) elT hout (fun gd => gd.cells (j := 1) rfl rfl rfl) rfl (by simp [slv, Value.oneCell']) (fun h => by cases h) (by simp [maxLen]; omega) (by omega) (fun q' cap' m' hr' hk' hq' => .againL rfl fun gd => ⟨z - 1, by omega, q', cap', j + 1, ts ++ [⟨q1, c1, rs[j].l⟩], ?_, by omega, by rw [List.length_append, htl]; rfl, ?_, ?_⟩))
    · (simp only [evE, liE, letsOf, letU, snd, Sh.uss, Sh.us, atAddr, map_add0, List.append_nil]); rw [add_i64 j (by omega)]
    · rw [List.take_succ_eq_append_getElem (by rw [hclen]; exact hj), List.map_append, hts, List.getElem_map]; rfl
    · have hT3 : TabR m' q' cap' (ts ++ [⟨q1, c1, rs[j].l⟩]) := hT1.push (r := ⟨q1, c1, rs[j].l⟩) hI1 (by rw [htl]; exact hr') (by rw [htl]; exact hk')
      exact hT3.le (gd.leB _ _ 0)
  · rw [hts, List.take_of_length_le (by omega)]
set_option maxHeartbeats 1000000 in
theorem c_refRefine (p pcol pc : Option Addr) (cp ccol cc : Nat) (l : List WD) (rs : List IR) (ws : List Int) (gap : Int) (hl : l.length < 2 ^ 62) (hok : ∀ x ∈ l, Wok x.w) (hw : ∀ x ∈ l, x.w.length < 2 ^ 62) (hr : rs.length ≤ 1048576) (hrok : ∀ r ∈ rs, r.ok) :
    FnM Tryd.prog n_ref18_Refine [slv p l.length cp, slv pcol rs.length ccol, costs pc ws.length cc gap] (fun R => WordsAt R p l ∧ RowsAt R pcol rs ∧ CostsAt R pc ws) fun v mq _ => ∃ q cq rs' e, v = .tuple #[slv q rs'.length cq, .int .i64 e] ∧ RefQ ws gap (l.map (·.w)) (rs.map (·.l)) (rs'.map (·.l)) e ∧ TabI mq q cq rs' := by
  have hclen : (rs.map (·.l)).length = rs.length := List.length_map _
  have hwlen : (l.map (·.w)).length = l.length := List.length_map _
  refine FnM.of S_ref18_Refine mx [.p p, .i l.length, .i cp, .p pcol, .i rs.length, .i ccol, .p pc, .i ws.length, .i cc, .i gap] rfl rfl fun c hp => .alloc fun b0 => ?_
  refine .callV (c_refCheckCosts pc cc ws gap) (fun g => hp.2.2.mono g.R) (.env (by (try simp only [liE, letsOf, letU, snd, List.append_nil]); rfl) (.ite (fun h1 => ?_) (fun h1 => .yes (by ((try simp only [evE, liE, letsOf, letU, snd] at h1); (try simp only [cmE] at h1)); ((try simp only [evE, liE, letsOf, letU, snd]); (try simp only [cmE])); exact h1) (.ret rfl ⟨none, 0, [], checkC ws gap, rfl, ?_, .empty _⟩)))) <;> ((try simp only [evE, liE, letsOf, letU, snd] at h1); (try simp only [cmE] at h1))
  rotate_left
  · have hs : (scoreM ws gap (l.map (·.w)) (rs.map (·.l))).2 = checkC ws gap := by unfold scoreM; rw [if_pos h1]
    unfold RefQ; rw [hs, if_pos h1]; exact ⟨rfl, rfl⟩
  refine .callV (c_refCheck p pcol cp ccol l rs hl (by omega) hok hw (fun r hr => by have := (hrok r hr).small; omega)) (fun g => ⟨hp.1.mono g.R, hp.2.1.mono g.R⟩) (.env (by (try simp only [liE, letsOf, letU, snd, List.append_nil]); rfl) (.ite (fun h2 => .ret rfl ⟨none, 0, [], checkA (l.map (·.w)) (rs.map (·.l)), rfl, ?_, .empty _⟩) (fun h2 => ?_))) <;> ((try simp only [evE, liE, letsOf, letU, snd] at h2); (try simp only [cmE] at h2))
  · have hs : (scoreM ws gap (l.map (·.w)) (rs.map (·.l))).2 = checkA (l.map (·.w)) (rs.map (·.l)) := by unfold scoreM; rw [if_neg (by simp [h1]), if_pos h2]
    unfold RefQ; rw [hs, if_pos h2]; exact ⟨rfl, rfl⟩
  have hc : checkC ws gap = 0 := h1
  obtain ⟨h8, hcL, hal⟩ := checkA_zero h2
  have hw32 := wl_32 hcL
  have hfin : ∀ r, RefR ws gap (l.map (·.w)) (rs.map (·.l)) r → RefQ ws gap (l.map (·.w)) (rs.map (·.l)) r 0 := fun r h => by
    have hs : (scoreM ws gap (l.map (·.w)) (rs.map (·.l))).2 = 0 := by unfold scoreM; rw [if_neg (by simp [h1]), if_neg (by simp [h2])]
    unfold RefQ; rw [hs, if_neg (by simp)]; exact ⟨h, rfl⟩
  refine .callE (c_copied pcol ccol rs hr hrok) (fun g => hp.2.1.mono g.R) ?_
  rintro v mq m hle hqe ⟨q0, cq0, ts, rfl, hts, hT⟩
  have hT := hT.le' hqe
  refine ⟨[.p q0, .i (ts.length : Nat), .i (cq0 : Nat)], uOk_of rfl, (slv_fresh _ _ _ _ _).symm, .env (by (try simp only [liE, letsOf, letU, snd, List.append_nil]); rfl) ?_⟩
  refine .loop (fun z us m => ∃ (q : Option Addr) (cq : Nat) (cur : List IR), us = [.p q, .i cur.length, .i cq, .p none, .i 0, .i 0, .i 0] ∧ z = (costE ws gap (l.map (·.w)) (cur.map (·.l))).toNat ∧ isAl (l.map (·.w)) (cur.map (·.l)) = true ∧ TabI m q cq cur ∧ ∀ r, RefR ws gap (l.map (·.w)) (cur.map (·.l)) r → RefR ws gap (l.map (·.w)) (rs.map (·.l)) r) _
    ⟨q0, cq0, ts, (by (simp only [evE, liE, letsOf, letU, snd, Sh.uss, Sh.us, atAddr, map_add0, List.append_nil]) <;> rfl), rfl, by rw [hts]; exact hal, hT, by rw [hts]; exact fun r h => h⟩ ?_
  clear hT hle hqe hts
  rintro z2 _ m2 _ ⟨q, cq, cur, rfl, rfl, hcal, hT, hstate⟩
  refine .env (by (try simp only [liE, letsOf, letU, snd, List.append_nil]); rfl) (.loop (fun z us m3 => ∃ (q3 : Option Addr) (cq3 : Nat) (now : List IR) (k : Nat), us = [.p q3, .i now.length, .i cq3, .b (decide (costE ws gap (l.map (·.w)) (now.map (·.l)) < costE ws gap (l.map (·.w)) (cur.map (·.l)))), .i k] ∧ z + k = l.length ∧ now.map (·.l) = passR ws gap (l.map (·.w)) k (cur.map (·.l)) ∧ TabI m3 q3 cq3 now) l.length
    ⟨q, cq, cur, 0, by rw [decide_eq_false (Int.lt_irrefl _)]; exact (by (simp only [evE, liE, letsOf, letU, snd, Sh.uss, Sh.us, atAddr, map_add0, List.append_nil]) <;> rfl), by omega, rfl, hT⟩ ?_)
  clear hT
  rintro z3 _ m3 _ ⟨q3, cq3, now, k, rfl, hz3, hnow, hT⟩
  have hnal : isAl (l.map (·.w)) (now.map (·.l)) = true := by rw [hnow]; exact pass_al hc h8 hcal k (by omega)
  refine .env (by (try simp only [liE, letsOf, letU, snd, List.append_nil]); rfl) (.chk (by ((try simp only [evE, liE, letsOf, letU, snd]); (try simp only [cmE])); omega) (.ite (fun h3 => ?_) (fun h3 => ?_))) <;> ((try simp only [evE, liE, letsOf, letU, snd] at h3); (try simp only [cmE] at h3))
  · have hk : k < l.length := by omega
    have hkW : k < (l.map (·.w)).length := by omega
    have hnl := al_len hnal h8 hw32
    rw [List.length_map] at hnl
    have hnok := tabOk_len hT hnal h8
    have hpass : passR ws gap (l.map (·.w)) (k + 1) (cur.map (·.l)) = stepR ws gap (l.map (·.w)) (now.map (·.l)) k := by rw [hnow]; rfl
    refine .callE (c_refWithout q3 cq3 now k (by omega) (fun r hr => ⟨(hnok r hr).1, by rw [(hnok r hr).2]; exact hkW⟩) (fun r hr x hx => by
      obtain ⟨i, hi, rfl⟩ := List.mem_iff_getElem.1 hx
      have := (isAl_ent hnal r.l (List.mem_map_of_mem hr)).2 i hi
      rw [labAt_get hi] at this
      rcases this with h | h
      · exact .inl h
      · exact .inr h.1)) (fun g => hT.reads g) ?_
    rintro v mq4 m4 hle4 hq4 ⟨q4, cq4, wo, rfl, hwo, hT4⟩
    refine ⟨[.p q4, .i (wo.length : Nat), .i (cq4 : Nat)], uOk_of rfl, (slv_fresh _ _ _ _ _).symm, .env (by (try simp only [liE, letsOf, letU, snd, List.append_nil]); rfl) ?_⟩
    have hT4 := hT4.le' hq4
    have hT := hT.le' hle4
    clear hle4 hq4
    have hwal : isAl ((l.map (·.w)).eraseIdx k) (wo.map (·.l)) = true := by rw [hwo]; exact without_al hkW hnal
    have hwel : ((l.map (·.w)).eraseIdx k).length = l.length - 1 := by rw [List.length_eraseIdx, if_pos hkW, hwlen]
    have hwol := withoutS_len (now.map (·.l)) k
    rw [← hwo, List.length_map, List.length_map] at hwol
    have hwk : l[k].w.length = ((l.map (·.w)).getD k []).length := by rw [getD_w l k hk]
    have hwk32 := hw32 k hkW
    rw [wl_getD] at hwk32
    have key := c_refInsert p q4 pc cp cq4 cc l wo ws gap (l.length - 1) k ((l.map (·.w)).getD k []).length wo.length (by omega) (by omega) hok hc rfl (by omega) hwk (by omega)
      (fun r hr => by have := tabOk_len hT4 hwal (by omega) r hr; rw [hwel] at this; exact this)
      (fun w i j ho => by
        have ho' : openI (withoutS (now.map (·.l)) k).length ((l.map (·.w)).getD k []).length i j w := by rw [← hwo, List.length_map]; exact ho
        have := addR_ent hkW hnal ho'
        rw [hwo, ← hwlen]
        exact this.2)
    rw [hwo] at key
    have hadd : insE (columnE ws gap (l.map (·.w))) (withoutS (now.map (·.l)) k) (l.length - 1) k ((l.map (·.w)).getD k []).length = addR ws gap (l.map (·.w)) (now.map (·.l)) k := by unfold addR; rw [hwlen]
    rw [hadd] at key
    refine .callE key (fun g => ⟨hp.1.mono g.R, hT4.reads g, hp.2.2.mono g.R⟩) ?_
    clear key hadd
    rintro v mq5 m5 hle5 hq5 ⟨q5, cq5, ag, rfl, hag, hT5⟩
    refine ⟨[.p q5, .i (ag.length : Nat), .i (cq5 : Nat)], uOk_of rfl, (slv_fresh _ _ _ _ _).symm, .env (by (try simp only [liE, letsOf, letU, snd, List.append_nil]); rfl) ?_⟩
    have hT5 := hT5.le' hq5
    have hT := hT.le' hle5
    clear hle5 hq5 hT4
    have haal : isAl (l.map (·.w)) (ag.map (·.l)) = true := by rw [hag]; exact addR_al hc h8 hkW hnal
    have hagl := al_len haal h8 hw32
    rw [List.length_map] at hagl
    refine .callV (c_refCost p q5 pc cp cq5 cc l ag ws gap (by omega) hok hc (by omega) (fun r hr => by have := isAl_ent haal r.l (List.mem_map_of_mem hr); rw [hwlen] at this; exact this)) (fun g => ⟨hp.1.mono g.R, hT5.reads g, hp.2.2.mono g.R⟩) (.env (by (try simp only [liE, letsOf, letU, snd, List.append_nil]); rfl) ?_)
    refine .callV (c_refCost p q3 pc cp cq3 cc l now ws gap (by omega) hok hc (by omega) (fun r hr => by have := isAl_ent hnal r.l (List.mem_map_of_mem hr); rw [hwlen] at this; exact this)) (fun g => ⟨hp.1.mono g.R, hT.reads g, hp.2.2.mono g.R⟩) (.env (by (try simp only [liE, letsOf, letU, snd, List.append_nil]); rfl) ?_)
    have hple := (pass_le (ws := ws) (gap := gap) (W := l.map (·.w)) (cur.map (·.l)) k).1
    rw [← hnow] at hple
    refine .ite (fun h4 => .again rfl ⟨z3 - 1, by omega, q5, cq5, ag, k + 1, ?_, by omega, ?_, hT5⟩) (fun h4 => .again rfl ⟨z3 - 1, by omega, q3, cq3, now, k + 1, ?_, by omega, ?_, hT⟩) <;> ((try simp only [evE, liE, letsOf, letU, snd] at h4); (try simp only [cmE] at h4))
    · (simp only [evE, liE, letsOf, letU, snd, Sh.uss, Sh.us, atAddr, map_add0, List.append_nil])
      rw [add_i64 k (by omega), decide_eq_true (show costE ws gap (l.map (·.w)) (ag.map (·.l)) < costE ws gap (l.map (·.w)) (cur.map (·.l)) by omega)]
    · rw [hpass]; unfold stepR
      rw [← hag, if_pos h4]
    · (simp only [evE, liE, letsOf, letU, snd, Sh.uss, Sh.us, atAddr, map_add0, List.append_nil]); rw [add_i64 k (by omega)]
    · rw [hpass]; unfold stepR
      rw [← hag, if_neg (by omega)]
  · obtain rfl : k = l.length := by omega
    have hple := pass_le (ws := ws) (gap := gap) (W := l.map (·.w)) (cur.map (·.l)) l.length
    have hnn := cost_nn hc h8 hnal
    by_cases hb : costE ws gap (l.map (·.w)) (now.map (·.l)) < costE ws gap (l.map (·.w)) (cur.map (·.l))
    · refine .env (by (try simp only [liE, letsOf, letU, snd, List.append_nil]); rw [decide_eq_true hb]) (.no rfl (.again rfl ⟨_, ?_, q3, cq3, now, (by (simp only [evE, liE, letsOf, letU, snd, Sh.uss, Sh.us, atAddr, map_add0, List.append_nil]) <;> rfl), rfl, hnal, hT, ?_⟩))
      · omega
      · intro r hr
        refine hstate r (.step _ _ ?_ ?_)
        · rw [hwlen, ← hnow]; exact hb
        · rw [hwlen, ← hnow]; exact hr
    · have heq : now.map (·.l) = cur.map (·.l) := by rw [hnow]; refine hple.2 ?_; rw [← hnow]; have := hple.1; rw [← hnow] at this; omega
      refine .env (by (try simp only [liE, letsOf, letU, snd, List.append_nil]); rw [decide_eq_false hb]) (.yes rfl (.ret rfl ⟨q3, cq3, now, 0, rfl, hfin _ ?_, hT⟩))
      rw [heq]
      refine hstate _ (.done _ ?_)
      rw [hwlen, ← hnow]; exact hb
theorem l_MultiRefines (p pcol pc : Option Addr) (cp ccol cc : Nat) (l : List WD) (rs : List IR) (ws : List Int) (gap : Int) (hl : l.length < 2 ^ 63) (hr : rs.length < 2 ^ 63) (hok : ∀ x ∈ l, Wok x.w) (hw : ∀ x ∈ l, x.w.length < 2 ^ 63) (hrl : ∀ r ∈ rs, r.l.length < 2 ^ 63) (hrc : ∀ r ∈ rs, r.l.length ≤ r.cap ∧ (r.p = none → r.cap = 0)) :
    RetP Tryd.prog n_law18_MultiRefines [slv p l.length cp, slv pcol rs.length ccol, costs pc ws.length cc gap] (fun R => WordsAt R p l ∧ RowsAt R pcol rs ∧ CostsAt R pc ws ∧ VarsOk R) (.bool true) := by
  refine Fn.of S_law18_MultiRefines mx [.p p, .i l.length, .i cp, .p pcol, .i rs.length, .i ccol, .p pc, .i ws.length, .i cc, .i gap] rfl rfl fun c hp => .alloc fun b0 => ?_
  have hV := hp.2.2.2
  refine .join (fun us m => ∃ b, us = [.b b] ∧ (b = false → fewW (l.map (·.w)) (rs.map (·.l)) = true) ∧ Mem.emp = m) ?_ ?_
  · refine .callV (c_few p pcol cp ccol l rs hl hr hw hrl) (fun g => ⟨hp.1.mono g.R, hp.2.1.mono g.R⟩) (.env (by (try simp only [liE, letsOf, letU, snd, List.append_nil]); rfl) (.ite (fun h1 => .again rfl ⟨true, rfl, nofun, rfl⟩) (fun h1 => ?_))) <;> ((try simp only [evE, liE, letsOf, letU, snd] at h1); (try simp only [cmE] at h1))
    obtain ⟨f1, _, f3, _⟩ := few_of h1
    rw [List.length_map] at f1
    exact .callV (c_small p cp l f1 (fun x hx => f3 _ (List.mem_map_of_mem hx))) (fun g => hp.1.mono g.R) (.env (by (try simp only [liE, letsOf, letU, snd, List.append_nil]); rfl) (.again rfl ⟨_, rfl, fun _ => h1, rfl⟩))
  rintro _ _ _ ⟨b, rfl, hb, rfl⟩
  refine .env (by (try simp only [liE, letsOf, letU, snd, List.append_nil]); rfl) (.ite (fun h1 => .callV c_works (fun g => hV.mono g.R) (.env (by (try simp only [liE, letsOf, letU, snd, List.append_nil]); rfl) (.ret rfl rfl))) (fun h1 => ?_)) <;> ((try simp only [evE, liE, letsOf, letU, snd] at h1); (try simp only [cmE] at h1))
  obtain ⟨f1, f2, f3, f4⟩ := few_of (hb h1)
  rw [List.length_map] at f1 f2
  have hrok : ∀ r ∈ rs, r.ok := fun r hr => ⟨(hrc r hr).1, (hrc r hr).2, by have := f4 _ (List.mem_map_of_mem hr); omega⟩
  refine .callE (c_Refine p pcol pc cp ccol cc l rs ws gap (by omega) hok (by omega) hrok) (fun g => ⟨hp.1.mono g.R, hp.2.1.mono g.R, hp.2.2.1.mono g.R, hV.mono g.R⟩) ?_
  rintro v mq1 m1 hle1 hq1 ⟨q1, k1, t1, e1, rfl, hQ1, hT1⟩
  refine ⟨[.p q1, .i (t1.length : Nat), .i k1, .i e1], uOk_of rfl, (tab_fresh _ _ _ _ _ _).symm, .env (by (try simp only [liE, letsOf, letU, snd, List.append_nil]); rfl) ?_⟩
  refine .callE (c_refRefine p pcol pc cp ccol cc l rs ws gap (by omega) hok (fun x hx => by have := f3 _ (List.mem_map_of_mem hx); omega) (by omega) hrok) (fun g => ⟨hp.1.mono g.R, hp.2.1.mono g.R, hp.2.2.1.mono g.R⟩) ?_
  rintro v mq2 m2 hle2 hq2 ⟨q2, k2, t2, e2, rfl, hQ2, hT2⟩
  refine ⟨[.p q2, .i (t2.length : Nat), .i k2, .i e2], uOk_of rfl, (tab_fresh _ _ _ _ _ _).symm, .env (by (try simp only [liE, letsOf, letU, snd, List.append_nil]); rfl) ?_⟩
  have hT1 := (hT1.le' hq1).le' hle2
  have hT2 := hT2.le' hq2
  have hqq : t1.map (·.l) = t2.map (·.l) ∧ e1 = e2 ∧ (t1.map (·.l)).length < 2 ^ 40 ∧ ∀ x ∈ t1.map (·.l), x.length < 2 ^ 40 := by
    unfold RefQ at hQ1 hQ2
    by_cases hs : (scoreM ws gap (l.map (·.w)) (rs.map (·.l))).2 ≠ 0
    · rw [if_pos hs] at hQ1 hQ2
      rw [hQ1.1, hQ2.1, hQ1.2, hQ2.2]
      exact ⟨rfl, rfl, by show (0 : Nat) < _; decide, fun x hx => by cases hx⟩
    · rw [if_neg hs] at hQ1 hQ2
      obtain ⟨hc, hck, _⟩ := scoreM_zero (Decidable.not_not.1 hs)
      obtain ⟨h8, hcL, hal⟩ := checkA_zero hck
      have ha := (hQ1.1.al hc h8 hal).1
      refine ⟨hQ1.1.det hQ2.1, by rw [hQ1.2, hQ2.2], ?_, fun x hx => ?_⟩
      · have := al_len ha h8 (wl_32 hcL); omega
      · have := (isAl_ent ha x hx).1; omega
  obtain ⟨hqq, rfl, hsm⟩ := hqq
  refine .join (fun us m => us = [.b true]) (.yes (by ((try simp only [evE, liE, letsOf, letU, snd]); (try simp only [cmE])) <;> simp) (.callV (same_eq q1 q2 k1 k2 t1 t2 _ rfl hqq.symm hsm) (fun g => ⟨hT1.reads g, hT2.reads g⟩) (.env (by (try simp only [liE, letsOf, letU, snd, List.append_nil]); rfl) (.yes rfl (.callV c_works (fun g => hV.mono g.R) (.env (by (try simp only [liE, letsOf, letU, snd, List.append_nil]); rfl) (.again rfl rfl))))))) ?_
  rintro _ _ _ rfl
  exact .env (by (try simp only [liE, letsOf, letU, snd, List.append_nil]); rfl) (.ret rfl rfl)
end Go.Proofs.YtialbhieaipcgaaDoor
