/- Chapter 18: Refine. -/
import Derived.Test.YtialbhieaipcgaaDoorYj
set_option linter.unusedSimpArgs false
set_option linter.unusedVariables false
namespace Go.Sy
open Go Go.RowKit
/-- What Refine answers. -/
theorem set_mid {α : Type} (xs : List α) (n : Nat) (z x : α) (h : xs.length < n) : (xs ++ List.replicate (n - xs.length) z).set xs.length x = (xs ++ [x]) ++ List.replicate (n - (xs.length + 1)) z := by
  rw [show n - xs.length = (n - (xs.length + 1)) + 1 by omega, List.replicate_succ, List.set_append_right _ _ (Nat.le_refl _), Nat.sub_self, List.set_cons_zero, List.append_assoc]; rfl
def RefQ (ws : List Int) (gap : Int) (W : List (List Snd)) (cols r : List (List Int)) (e : Int) : Prop := if (scoreM ws gap W cols).2 ≠ 0 then r = [] ∧ e = (scoreM ws gap W cols).2 else RefR ws gap W cols r ∧ e = 0
theorem scoreM_zero {ws : List Int} {gap : Int} {W : List (List Snd)} {cols : List (List Int)} (h : (scoreM ws gap W cols).2 = 0) : checkC ws gap = 0 ∧ checkA W cols = 0 ∧ (scoreM ws gap W cols).1 = costE ws gap W cols := by
  unfold scoreM at h ⊢
  by_cases h1 : checkC ws gap ≠ 0
  · rw [if_pos h1] at h; exact absurd h h1
  · rw [if_neg h1] at h ⊢
    by_cases h2 : checkA W cols ≠ 0
    · rw [if_pos h2] at h; exact absurd h h2
    · rw [if_neg h2]; exact ⟨Decidable.not_not.1 h1, Decidable.not_not.1 h2, rfl⟩
theorem wl_32 {W : List (List Snd)} (h : checkL W = 0) : ∀ k, k < W.length → wl W k ≤ 32 := fun k hk => by
  have := words_len h _ (List.getElem_mem hk)
  rw [wl_getD, getD_at _ _ _ hk]; omega
theorem costE_tot (ws : List Int) (gap : Int) (W : List (List Snd)) (cols : List (List Int)) : Go.Proofs.YtialbhieaipcgaaDoor.totM (columnE ws gap W) cols = costE ws gap W cols := rfl
end Go.Sy
namespace Go.Proofs.YtialbhieaipcgaaDoor
open Go Go.Sy Go.RowKit
theorem slI_info : (Tryd.prog.info? 49).map (fun i => (i.zero, i.size, i.bytes)) = some (some (.slice none 0 0), 1, 24) := by kernel_rfl
theorem tabOk_len {m : Mem} {q : Option Addr} {cq : Nat} {rs : List IR} {W : List (List Snd)} (h : TabI m q cq rs) (hal : isAl W (rs.map (·.l)) = true) (h8 : W.length ≤ 8) : ∀ r ∈ rs, r.ok ∧ r.l.length = W.length := fun r hr => by
  have := (isAl_ent hal r.l (List.mem_map_of_mem hr)).1
  exact ⟨⟨(h.rows r hr).le, (h.rows r hr).nil, by omega⟩, this⟩
set_option maxHeartbeats 1000000 in
theorem c_Refine (p pcol pc : Option Addr) (cp ccol cc : Nat) (l : List WD) (rs : List IR) (ws : List Int) (gap : Int) (hl : l.length < 2 ^ 62) (hok : ∀ x ∈ l, Wok x.w) (hr : rs.length ≤ 1048576) (hrok : ∀ r ∈ rs, r.ok) :
    FnM Tryd.prog n_multi_Refine [slv p l.length cp, slv pcol rs.length ccol, costs pc ws.length cc gap] (fun R => WordsAt R p l ∧ RowsAt R pcol rs ∧ CostsAt R pc ws ∧ VarsOk R) fun v mq _ => ∃ q cq rs' e, v = .tuple #[slv q rs'.length cq, .int .i64 e] ∧ RefQ ws gap (l.map (·.w)) (rs.map (·.l)) (rs'.map (·.l)) e ∧ TabI mq q cq rs' := by
  have hclen : (rs.map (·.l)).length = rs.length := List.length_map _
  have hwlen : (l.map (·.w)).length = l.length := List.length_map _
  have kS := c_Score p pcol pc cp ccol cc l rs ws gap hl hok hr (fun r hr => by have := (hrok r hr).small; omega) (fun r hr => (hrok r hr).le)
  have hQ : ∀ r e, RefQ ws gap (l.map (·.w)) (rs.map (·.l)) r e = if (scoreM ws gap (l.map (·.w)) (rs.map (·.l))).2 ≠ 0 then r = [] ∧ e = (scoreM ws gap (l.map (·.w)) (rs.map (·.l))).2 else RefR ws gap (l.map (·.w)) (rs.map (·.l)) r ∧ e = 0 := fun _ _ => rfl
  have hz := scoreM_zero (ws := ws) (gap := gap) (W := l.map (·.w)) (cols := rs.map (·.l))
  generalize hX : scoreM ws gap (l.map (·.w)) (rs.map (·.l)) = X at kS hQ hz
  refine FnM.of S_multi_Refine mx [.p p, .i l.length, .i cp, .p pcol, .i rs.length, .i ccol, .p pc, .i ws.length, .i cc, .i gap] rfl rfl fun c hp => .alloc fun b0 => ?_
  have hV := hp.2.2.2
  refine .callV kS (fun g => ⟨hp.1.mono g.R, hp.2.1.mono g.R, hp.2.2.1.mono g.R, hV.1.mono g.R⟩) (.env (by (try simp only [liE, letsOf, letU, snd, List.append_nil]); rfl) (.ite (fun h1 => .ret rfl ⟨none, 0, [], X.2, rfl, ?_, .empty _⟩) (fun h1 => ?_))) <;> ((try simp only [evE, liE, letsOf, letU, snd] at h1); (try simp only [cmE] at h1))
  · rw [hQ, if_pos h1]; exact ⟨rfl, rfl⟩
  obtain ⟨hc, hck, hX1⟩ := hz h1
  obtain ⟨h8, hcL, hal⟩ := checkA_zero hck
  have hw32 := wl_32 hcL
  rw [hX1]
  clear kS hz
  have hfin : ∀ r, RefR ws gap (l.map (·.w)) (rs.map (·.l)) r → RefQ ws gap (l.map (·.w)) (rs.map (·.l)) r 0 := fun r h => by rw [hQ, if_neg (by simp [h1])]; exact ⟨h, rfl⟩
  clear hQ
  refine .callE (c_pricer p pc cp cc l ws gap) (fun _ => trivial) ?_
  rintro v mq m' hle hqe ⟨d1, d0, rfl, hc1, hc0⟩
  have hpv := PrV.of (b1 := d1) (b0 := d0) (pc := pc) (cc := cc) (ws := ws) (gap := gap) (p := p) (cp := cp) (by omega : l.length ≤ 8) hok hc
  have hq1 := hc1.mono hqe.mv
  have hq0 := hc0.mono hqe.mv
  clear hle hqe hc1 hc0 mq
  refine ⟨[.v (.func (.func n_multi_pricer_1) #[] #[.pointer (some ⟨d1, 0, none⟩), .pointer (some ⟨d0, 0, none⟩)])], uOk_of rfl, rfl, .env (by (try simp only [liE, letsOf, letU, snd, List.append_nil]); rfl) (.chk (by ((try simp only [evE, liE, letsOf, letU, snd]); (try simp only [cmE])); omega) (.make (z := .slice none 0 0) (bytes := 24) rs.length Tryd.underlying23 slI_info rfl (by omega) (by simp [maxLen]; omega) (fun gn hgn hrow => ?_)))⟩
  have hle : m'.le (m'.upd gn (.cells (madeCells #[Value.slice none 0 0] rs.length) 49 (0, 0))) := fun b o hb => by
    rw [Mem.upd_other _ _ (fun e => by rw [e, hgn] at hb; cases hb)]; exact hb
  generalize Mem.upd _ gn _ = m1 at hrow hle ⊢
  refine .env (by (try simp only [liE, letsOf, letU, snd, List.append_nil]); rfl) (.chk (by ((try simp only [evE, liE, letsOf, letU, snd]); (try simp only [cmE])); omega) ?_)
  refine .loop (fun z us m => ∃ (j : Nat) (ts : List IR), us = [.i j] ∧ z + j = rs.length ∧ ts.length = j ∧ ts.map (·.l) = (rs.map (·.l)).take j ∧ m'.le m ∧ Row m 49 1 (some ⟨gn, 0, none⟩) rs.length rs.length (ts.map IR.v ++ List.replicate (rs.length - j) (.slice none 0 0)) ∧ ∀ r ∈ ts, RowI m r.p r.cap r.l) rs.length
    ⟨0, [], rfl, rfl, rfl, rfl, hle, by rw [Nat.sub_zero]; exact hrow, nofun⟩ ?_
  clear hrow hle m1
  rintro z _ m _ ⟨j, ts, rfl, hz, htl, hts, hle, hR, hrows⟩
  refine .env (by (try simp only [liE, letsOf, letU, snd, List.append_nil]); rfl) (.ite (fun h1 => ?_) (fun h1 => ?_)) <;> ((try simp only [evE, liE, letsOf, letU, snd] at h1); (try simp only [cmE] at h1))
  · have hj : j < rs.length := by omega
    have hrj := hrok _ (List.getElem_mem hj)
    refine .loadSl (rs.map IR.v) j rs.length rs[j].p rs[j].l.length rs[j].cap hj (row_at rs j hj) (fun g => hp.2.1.1.mono g.R) (.env (by (try simp only [liE, letsOf, letU, snd, List.append_nil]); rfl) (.callE (c_cloneI rs[j].p rs[j].cap rs[j].l hrj.le hrj.nil hrj.small) (fun g => (hp.2.1.2 _ (List.getElem_mem hj)).mono g.R) ?_))
    rintro v mq m2 hle2 hq2 ⟨q', cq', rfl, hrI⟩
    refine ⟨[.p q', .i (rs[j].l.length : Nat), .i (cq' : Nat)], uOk_of rfl, (slv_fresh _ _ _ _ _).symm, .env (by (try simp only [liE, letsOf, letU, snd, List.append_nil]); rfl) ?_⟩
    have hrI := hrI.le' hq2
    have hR2 := Row.le hR hle2
    refine .storeR j hj hR2 rfl rfl rfl fun m3 g3 hg3 hR3 hs3 => .again rfl ⟨z - 1, by omega, j + 1, ts ++ [⟨q', cq', rs[j].l⟩], ?_, by omega, by rw [List.length_append, htl]; rfl, ?_, ?_, ?_, ?_⟩
    all_goals cases hg3
    · (simp only [evE, liE, letsOf, letU, snd, Sh.uss, Sh.us, atAddr, map_add0, List.append_nil]); rw [add_i64 j (by omega)]
    · rw [List.take_succ_eq_append_getElem (by rw [hclen]; exact hj), List.map_append, hts, List.getElem_map]; rfl
    · intro b o hb
      rw [hs3 b (fun e => by rw [e, hgn] at hb; cases hb)]
      exact hle2 b o (hle b o hb)
    · replace hR3 : Row m3 49 1 (some ⟨gn, 0, none⟩) rs.length rs.length ((ts.map IR.v ++ List.replicate (rs.length - j) (Value.slice none 0 0)).set j (slv q' rs[j].l.length cq')) := hR3
      have hsm := set_mid (ts.map IR.v) rs.length (Value.slice none 0 0) (slv q' rs[j].l.length cq') (by rw [List.length_map]; omega)
      rw [List.length_map, htl] at hsm
      rw [hsm] at hR3
      rw [List.map_append]; exact hR3
    · intro r hr
      rcases List.mem_append.1 hr with hr | hr
      · exact ((hrows r hr).le' hle2).keepO hR2 rfl hs3
      · rw [List.mem_singleton] at hr; subst hr
        exact hrI.keepO hR2 rfl hs3
  · obtain rfl : j = rs.length := by omega
    rw [Nat.sub_self, List.replicate_zero, List.append_nil] at hR
    rw [List.take_of_length_le (by omega)] at hts
    have hT : TabI m (some ⟨gn, 0, none⟩) rs.length ts := ⟨fun _ => by rw [htl]; exact hR, hrows, nofun, by omega⟩
    clear hR hrows
    refine .loop (fun z us m => ∃ (q : Option Addr) (cq : Nat) (cur : List IR) (b : Bool), us = [.i (costE ws gap (l.map (·.w)) (cur.map (·.l))), .p q, .i cur.length, .i cq, .b b] ∧ z = (if b = true then (costE ws gap (l.map (·.w)) (cur.map (·.l))).toNat + 1 else 0) ∧ isAl (l.map (·.w)) (cur.map (·.l)) = true ∧ TabI m q cq cur ∧ m'.le m ∧ (if b = true then ∀ r, RefR ws gap (l.map (·.w)) (cur.map (·.l)) r → RefR ws gap (l.map (·.w)) (rs.map (·.l)) r else RefR ws gap (l.map (·.w)) (rs.map (·.l)) (cur.map (·.l)))) _
      ⟨some ⟨gn, 0, none⟩, rs.length, ts, true, by rw [hts, htl]; rfl, rfl, by rw [hts]; exact hal, hT, hle, by rw [if_pos rfl, hts]; exact fun r h => h⟩ ?_
    clear hT hle hts htl
    rintro z2 _ m2 _ ⟨q, cq, cur, b, rfl, rfl, hcal, hT, hle, hstate⟩
    refine .env (by (try simp only [liE, letsOf, letU, snd, List.append_nil]); rfl) (.ite (fun h2 => .chk (by ((try simp only [evE, liE, letsOf, letU, snd]); (try simp only [cmE])); omega) ?_) (fun h2 => .ret rfl ⟨q, cq, cur, 0, rfl, hfin _ ?_, hT⟩)) <;> ((try simp only [evE, liE, letsOf, letU, snd] at h2); (try simp only [cmE] at h2))
    · subst h2
      rw [if_pos rfl] at hstate
      refine .loop (fun z us m3 => ∃ (q3 : Option Addr) (cq3 : Nat) (now : List IR) (k : Nat), us = [.i (costE ws gap (l.map (·.w)) (now.map (·.l))), .p q3, .i now.length, .i cq3, .b (decide (costE ws gap (l.map (·.w)) (now.map (·.l)) < costE ws gap (l.map (·.w)) (cur.map (·.l)))), .i k] ∧ z + k = l.length ∧ now.map (·.l) = passR ws gap (l.map (·.w)) k (cur.map (·.l)) ∧ TabI m3 q3 cq3 now ∧ m'.le m3) l.length
        ⟨q, cq, cur, 0, by rw [decide_eq_false (Int.lt_irrefl _)]; exact (by (simp only [evE, liE, letsOf, letU, snd, Sh.uss, Sh.us, atAddr, map_add0, List.append_nil]) <;> rfl), rfl, rfl, hT, hle⟩ ?_
      clear hT hle
      rintro z3 _ m3 _ ⟨q3, cq3, now, k, rfl, hz3, hnow, hT, hle⟩
      refine .env (by (try simp only [liE, letsOf, letU, snd, List.append_nil]); rfl) (.ite (fun h3 => ?_) (fun h3 => ?_)) <;> ((try simp only [evE, liE, letsOf, letU, snd] at h3); (try simp only [cmE] at h3))
      · have hk : k < l.length := by omega
        have hkW : k < (l.map (·.w)).length := by omega
        have hnal : isAl (l.map (·.w)) (now.map (·.l)) = true := by rw [hnow]; exact pass_al hc h8 hcal k (by omega)
        have hnl := al_len hnal h8 hw32
        rw [List.length_map] at hnl
        have hnok := tabOk_len hT hnal h8
        have hpass : passR ws gap (l.map (·.w)) (k + 1) (cur.map (·.l)) = stepR ws gap (l.map (·.w)) (now.map (·.l)) k := by rw [hnow]; rfl
        refine .callE (c_without q3 cq3 now k (by omega) (fun r hr => ⟨(hnok r hr).1, by rw [(hnok r hr).2]; exact hkW⟩)) (fun g => hT.reads g) ?_
        rintro v mq4 m4 hle4 hq4 ⟨q4, cq4, wo, rfl, hwo, hT4⟩
        refine ⟨[.p q4, .i (wo.length : Nat), .i (cq4 : Nat)], uOk_of rfl, (slv_fresh _ _ _ _ _).symm, .env (by (try simp only [liE, letsOf, letU, snd, List.append_nil]); rfl) ?_⟩
        have hT4 := hT4.le' hq4
        have hT := hT.le' hle4
        have hle := hle.trans hle4
        clear hle4 hq4
        have hwal : isAl ((l.map (·.w)).eraseIdx k) (wo.map (·.l)) = true := by rw [hwo]; exact without_al hkW hnal
        have hwel : ((l.map (·.w)).eraseIdx k).length = l.length - 1 := by rw [List.length_eraseIdx, if_pos hkW, hwlen]
        have hwol := withoutS_len (now.map (·.l)) k
        rw [← hwo, List.length_map, List.length_map] at hwol
        have hwk : l[k].w.length = ((l.map (·.w)).getD k []).length := by rw [getD_w l k hk]
        have hwk32 := hw32 k hkW
        rw [wl_getD] at hwk32
        have key := c_insert p q4 cp cq4 l wo (l.length - 1) k ((l.map (·.w)).getD k []).length wo.length _ _ _ _ hpv (by omega) rfl (by omega) (by omega) hwk (by omega)
          (fun r hr => by have := tabOk_len hT4 hwal (by omega) r hr; rw [hwel] at this; exact this)
          (fun hne => by
            obtain ⟨r, hr⟩ := List.exists_mem_of_ne_nil _ hne
            have h1 := (isAl_of hwal).1 r.l (List.mem_map_of_mem hr)
            obtain ⟨x, hx, _⟩ := h1.2
            have := List.length_pos_of_mem hx
            rw [h1.1, hwel] at this
            omega)
          (by rw [hwo, ← hwlen]; exact addR_nn hc h8 hkW hnal)
          (fun w i j ho => by
            have ho' : openI (withoutS (now.map (·.l)) k).length ((l.map (·.w)).getD k []).length i j w := by rw [← hwo, List.length_map]; exact ho
            have := addR_ent hkW hnal ho'
            rw [hwo, ← hwlen]
            exact ⟨by omega, this.2⟩)
        rw [hwo] at key
        have hadd : insE (columnE ws gap (l.map (·.w))) (withoutS (now.map (·.l)) k) (l.length - 1) k ((l.map (·.w)).getD k []).length = addR ws gap (l.map (·.w)) (now.map (·.l)) k := by unfold addR; rw [hwlen]
        rw [hadd] at key
        refine .callE key (fun g => ⟨⟨(hq1.mono hle.mv).mono g.mv, (hq0.mono hle.mv).mono g.mv, hp.1.mono g.R, hp.2.2.1.mono g.R, hV.1.mono g.R⟩, hp.1.mono g.R, hT4.reads g, hV.2.mono g.R⟩) ?_
        clear key hadd
        rintro v mq5 m5 hle5 hq5 ⟨q5, cq5, ag, rfl, hag, hT5⟩
        refine ⟨[.p q5, .i (ag.length : Nat), .i (cq5 : Nat)], uOk_of rfl, (slv_fresh _ _ _ _ _).symm, .env (by (try simp only [liE, letsOf, letU, snd, List.append_nil]); rfl) ?_⟩
        have hT5 := hT5.le' hq5
        have hT := hT.le' hle5
        have hle := hle.trans hle5
        clear hle5 hq5 hT4
        have haal : isAl (l.map (·.w)) (ag.map (·.l)) = true := by rw [hag]; exact addR_al hc h8 hkW hnal
        have hagl := al_len haal h8 hw32
        rw [List.length_map] at hagl
        have kt := c_total _ _ _ _ hpv q5 cq5 ag (by omega) (fun r hr => ⟨by
          have := isAl_ent haal r.l (List.mem_map_of_mem hr)
          exact ⟨by omega, this.2⟩, (hT5.rows r hr).le⟩)
        rw [costE_tot] at kt
        refine .callV kt (fun g => ⟨⟨(hq1.mono hle.mv).mono g.mv, (hq0.mono hle.mv).mono g.mv, hp.1.mono g.R, hp.2.2.1.mono g.R, hV.1.mono g.R⟩, hT5.reads g⟩) (.env (by (try simp only [liE, letsOf, letU, snd, List.append_nil]); rfl) ?_)
        clear kt
        have hple := (pass_le (ws := ws) (gap := gap) (W := l.map (·.w)) (cur.map (·.l)) k).1
        rw [← hnow] at hple
        refine .ite (fun h4 => .again rfl ⟨z3 - 1, by omega, q5, cq5, ag, k + 1, ?_, by omega, ?_, hT5, hle⟩) (fun h4 => .again rfl ⟨z3 - 1, by omega, q3, cq3, now, k + 1, ?_, by omega, ?_, hT, hle⟩) <;> ((try simp only [evE, liE, letsOf, letU, snd] at h4); (try simp only [cmE] at h4))
        · (simp only [evE, liE, letsOf, letU, snd, Sh.uss, Sh.us, atAddr, map_add0, List.append_nil])
          rw [add_i64 k (by omega), decide_eq_true (show costE ws gap (l.map (·.w)) (ag.map (·.l)) < costE ws gap (l.map (·.w)) (cur.map (·.l)) by omega)]
        · rw [hpass]; unfold stepR
          rw [← hag, if_pos h4]
        · (simp only [evE, liE, letsOf, letU, snd, Sh.uss, Sh.us, atAddr, map_add0, List.append_nil]); rw [add_i64 k (by omega)]
        · rw [hpass]; unfold stepR
          rw [← hag, if_neg (by omega)]
      · obtain rfl : k = l.length := by omega
        have hple := pass_le (ws := ws) (gap := gap) (W := l.map (·.w)) (cur.map (·.l)) l.length
        have hnal : isAl (l.map (·.w)) (now.map (·.l)) = true := by rw [hnow]; exact pass_al hc h8 hcal _ (by omega)
        have hnn := cost_nn hc h8 hnal
        by_cases hb : costE ws gap (l.map (·.w)) (now.map (·.l)) < costE ws gap (l.map (·.w)) (cur.map (·.l))
        · refine .again rfl ⟨_, ?_, q3, cq3, now, true, ?_, rfl, hnal, hT, hle, ?_⟩
          · rw [if_pos rfl, if_pos rfl]; omega
          · (simp only [evE, liE, letsOf, letU, snd, Sh.uss, Sh.us, atAddr, map_add0, List.append_nil]); rw [decide_eq_true hb]
          · rw [if_pos rfl]
            intro r hr
            refine hstate r (.step _ _ ?_ ?_)
            · rw [hwlen, ← hnow]; exact hb
            · rw [hwlen, ← hnow]; exact hr
        · have heq : now.map (·.l) = cur.map (·.l) := by rw [hnow]; refine hple.2 ?_; rw [← hnow]; have := hple.1; rw [← hnow] at this; omega
          refine .again rfl ⟨_, ?_, q3, cq3, now, false, ?_, rfl, hnal, hT, hle, ?_⟩
          · rw [if_neg (by decide), if_pos rfl]; omega
          · (simp only [evE, liE, letsOf, letU, snd, Sh.uss, Sh.us, atAddr, map_add0, List.append_nil]); rw [decide_eq_false hb]
          · rw [if_neg (by decide), heq]
            refine hstate _ (.done _ ?_)
            rw [hwlen, ← hnow]; exact hb
    · rw [if_neg (by simp [h2])] at hstate; exact hstate
end Go.Proofs.YtialbhieaipcgaaDoor
