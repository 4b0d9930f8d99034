/- Chapter 18: the law of added words, and what is left without them. -/
import Derived.Test.YtialbhieaipcgaaDoorYt
set_option linter.unusedSimpArgs false
set_option linter.unusedVariables false
namespace Go.Sy
open Go Go.RowKit
theorem withinC_snoc (cols : List (List Int)) (wn k : Nat) : withinC cols wn (k + 1) = withinC cols wn k ++ [cols.getD k [] ++ [if k < wn then (k : Int) else -1]] := by
  unfold withinC; rw [List.range_succ, List.map_append]; rfl
theorem soundsL_snoc (n j d : Nat) : soundsL n j (d + 1) = soundsL n j d ++ [List.replicate n (-1 : Int) ++ [((j + d : Nat) : Int)]] := by
  unfold soundsL; rw [List.range'_concat, List.map_append]; simp
end Go.Sy
namespace Go.Proofs.YtialbhieaipcgaaDoor
open Go Go.Sy Go.RowKit
/-- A row that is new since an earlier memory. -/
def NewQ (m : Mem) (q : Option Addr) : Prop := ∀ g o, q = some ⟨g, o, none⟩ → m g = none
theorem NewQ.next {m m2 : Mem} {q q' : Option Addr} (h : NewQ m q) (hle : m.le m2) (hq : q' = q ∨ ∃ g, q' = some ⟨g, 0, none⟩ ∧ m2 g = none) : NewQ m q' := fun g o e => by
  rcases hq with rfl | ⟨g', e', hg⟩
  · exact h g o e
  · rw [e'] at e; cases e
    cases hm : m g with
    | none => rfl
    | some x => rw [hle g x hm] at hg; cases hg
/-- What was there before a row was begun stays when the row grows. -/
theorem keep_new {m m2 m' : Mem} {q : Option Addr} {cap n : Nat} (hle : m.le m2) (h : NewQ m q) (hk : ∀ b, ((∃ o, q = some ⟨b, o, none⟩) → cap < n) → m2 b ≠ none → m' b = m2 b) : m.le m' := fun b o hb => by
  rw [hk b (fun ⟨x, hx⟩ => by rw [h b x hx] at hb; cases hb) (by rw [hle b o hb]; simp)]
  exact hle b o hb
set_option maxHeartbeats 4000000 in
theorem l_MultiAdded (p pc ps : Option Addr) (cp cc cs : Nat) (l : List WD) (x : WD) (ws : List Int) (gap : Int) (st : List Int) (hl : l.length < 2 ^ 63) (hlc : l.length ≤ cp) (hpn : p = none → cp = 0) (hok : ∀ x ∈ l, Wok x.w) (hw : ∀ x ∈ l, x.w.length < 2 ^ 63) (hx : Wok x.w) (hxl : x.w.length < 2 ^ 63) (hst : st.length < 2 ^ 63) :
    RetP Tryd.prog n_law18_MultiAdded [slv p l.length cp, x.v, costs pc ws.length cc gap, slv ps st.length cs] (fun R => WordsAt R p l ∧ WordAt R x.p x.w ∧ CostsAt R pc ws ∧ Cells R ps (st.map (.int .u8)) ∧ VarsOk R) (.bool true) := by
  refine Fn.of S_law18_MultiAdded mx [.p p, .i l.length, .i cp, .p x.p, .i x.w.length, .i x.cap, .p pc, .i ws.length, .i cc, .i gap, .p ps, .i st.length, .i cs] rfl rfl fun c hp => .alloc fun b0 => ?_
  have hV := hp.2.2.2.2
  refine .join (fun us m => ∃ b, us = [.b b] ∧ (b = false → goodW 4 8 (l.map (·.w)) = true ∧ goodW 1 8 ([x].map (·.w)) = true ∧ st.length ≤ 100 ∧ checkC ws gap = 0) ∧ Mem.emp.le m) ?_ ?_
  · refine .callV (c_good p cp l 4 8 hl hok hw) (fun g => hp.1.mono g.R) (.env (by (try simp only [liE, letsOf, letU, snd, List.append_nil]); rfl) (.ite (fun h1 => .again rfl ⟨true, rfl, nofun, Mem.le.refl _⟩) (fun h1 => ?_))) <;> ((try simp only [evE, liE, letsOf, letU, snd] at h1); (try simp only [cmE] at h1))
    refine .alloc fun b1 => .callV (c_good (some ⟨b1, 0, none⟩) 1 [x] 1 8 (by simp) (fun y hy => by rw [List.mem_singleton] at hy; subst hy; exact hx) (fun y hy => by rw [List.mem_singleton] at hy; subst hy; exact hxl)) (fun g => ⟨g.cells (j := 1) rfl rfl rfl, fun y hy => by rw [List.mem_singleton] at hy; subst hy; exact hp.2.1.mono g.R⟩) (.env (by (try simp only [liE, letsOf, letU, snd, List.append_nil]); rfl) (.ite (fun h2 => .againL rfl fun gd => ⟨true, rfl, nofun, gd.leB _ _ 1⟩) (fun h2 => .chk (by ((try simp only [evE, liE, letsOf, letU, snd]); (try simp only [cmE])); omega) (.ite (fun h3 => .againL rfl fun gd => ⟨true, rfl, nofun, gd.leB _ _ 1⟩) (fun h3 => .callV (c_checkCosts pc cc ws gap) (fun g => hp.2.2.1.mono g.R) ?_)))))
    ((try simp only [evE, liE, letsOf, letU, snd] at h2); (try simp only [cmE] at h2))
    ((try simp only [evE, liE, letsOf, letU, snd] at h3); (try simp only [cmE] at h3))
    refine .env (by (try simp only [liE, letsOf, letU, snd, List.append_nil]); rfl) (.againL rfl fun gd => ⟨_, rfl, fun h4 => ⟨h1, h2, by omega, by ((try simp only [evE, liE, letsOf, letU, snd] at h4); (try simp only [cmE] at h4)); exact h4⟩, gd.leB _ _ 1⟩)
  rintro _ m0 _ ⟨b, rfl, hb, _⟩
  refine .env (by (try simp only [liE, letsOf, letU, snd, List.append_nil]); rfl) (.ite (fun h1 => .callV c_works (fun g => hV.mono g.R) (.env (by (try simp only [liE, letsOf, letU, snd, List.append_nil]); rfl) (.ret rfl rfl))) (fun h1 => ?_)) <;> ((try simp only [evE, liE, letsOf, letU, snd] at h1); (try simp only [cmE] at h1))
  obtain ⟨hg, hgx, hst, hc⟩ := hb h1
  clear hb
  have hgW := goodW_of hg
  obtain ⟨hx8, hxw⟩ := one_good hgx
  have hwlen : (l.map (·.w)).length = l.length := List.length_map _
  have hl4 : l.length ≤ 4 := by have := hgW.1; omega
  have hw8 : wordsE 8 (l.map (·.w)) = 0 := good_words hg (by omega)
  have hL : checkL (l.map (·.w)) = 0 := (wordsE_zero hw8).2
  have hok' : ∀ y ∈ l ++ [x], Wok y.w := fun y hy => by
    rcases List.mem_append.1 hy with hy | hy
    · exact hok y hy
    · rw [List.mem_singleton] at hy; subst hy; exact hx
  have hmapw : (l ++ [x]).map (·.w) = l.map (·.w) ++ [x.w] := by rw [List.map_append]; rfl
  have hlen1 : (l ++ [x]).length = l.length + 1 := by simp
  have hL' : checkL ((l ++ [x]).map (·.w)) = 0 := by
    rw [hmapw]
    exact checkL_all fun w hw => by
      rcases List.mem_append.1 hw with hw | hw
      · exact checkL_zero hL w hw
      · rw [List.mem_singleton] at hw; subst hw; exact hxw
  have hw8' : wordsE 8 ((l ++ [x]).map (·.w)) = 0 := by unfold wordsE; rw [if_neg (by rw [List.length_map]; omega)]; exact hL'
  refine .callE (c_choice p ps cp cs l st (by omega) (fun x hx => by have := (hgW.2 x.w (List.mem_map_of_mem hx)).1; omega) (by omega)) (fun g => ⟨hp.1.mono g.R, hp.2.2.2.1.mono g.R⟩) ?_
  rintro v mq m1 hle1 hq1 ⟨q1, k1, t1, rfl, hT1, hal1, hn1⟩
  refine ⟨[.p q1, .i (t1.length : Nat), .i k1], uOk_of rfl, (slv_fresh _ _ _ _ _).symm, .env (by (try simp only [liE, letsOf, letU, snd, List.append_nil]); rfl) ?_⟩
  have hT1 := hT1.le' hq1
  clear hle1 hq1
  have hok1 := tabOk_len hT1 hal1 (by omega)
  have hclen : (t1.map (·.l)).length = t1.length := List.length_map _
  have hcl : ∀ d ∈ t1.map (·.l), d.length = l.length ∧ ∃ y ∈ d, y ≠ -1 := fun d hd => by have := (isAl_of hal1).1 d hd; rw [hwlen] at this; exact this
  -- all words
  refine .alloc fun b1 => .appendLitF (b0 := b1) (qx := p) (kx := l.length) (capx := cp) (news := l.map WD.v) elW (fun g => hp.1.1.mono g.R) (by rw [List.length_map, Nat.mul_one]) (wv_one l) hpn (by simp [maxLen]; omega) (by omega) (fun q2 k2 m2 hr2 h02 hk2 hf2 => .env (by (try simp only [liE, letsOf, letU, snd, List.append_nil]); rfl) ?_)
  have hle2 : m1.le m2 := fun b o hb => by rw [hk2 b (by rw [hb]; simp), hb]
  refine .alloc fun b2 => .envL (by simp only [List.nil_append, List.cons_append]; rfl) (.appendWs (b0 := b1) (qx := some ⟨b2, 0, none⟩) l x (by omega) hr2 h02 (fun g => g.cells (j := 2) rfl rfl rfl) nofun fun q3 k3 m3 hR3 hk3 => .env (by (try simp only [liE, letsOf, letU, snd, List.append_nil]); rfl) ?_)
  have hle3 : m1.le m3 := fun b o hb => by
    rw [hk3 b (fun hne he => by obtain ⟨g, h1, h2⟩ := hf2 hne; rw [h1] at he; cases he; rw [h2] at hb; cases hb) (by rw [hle2 b o hb]; simp)]
    exact hle2 b o hb
  have hT1 := hT1.le' hle3
  clear hr2 h02 hk2 hf2 hle2 hk3 hle3
  have kA := c_Add p q1 pc cp k1 cc l x t1 ws gap (by omega) hlc hpn hok hx (by omega) (fun r hr => (hok1 r hr).1)
  rw [addA_ok hc (by omega) hL hxw hal1, hwlen] at kA
  refine .callE kA (fun g => ⟨hp.1.mono g.R, hT1.reads g, hp.2.1.mono g.R, hp.2.2.1.mono g.R, hV.mono g.R⟩) ?_
  clear kA
  rintro v mq m4 hle4 hq4 ⟨q5, k5, t5, rfl, ht5, hT5⟩
  replace ht5 : t5.map (·.l) = insE (columnE ws gap (l.map (·.w) ++ [x.w])) (t1.map (·.l)) l.length l.length x.w.length := ht5
  refine ⟨[.p q5, .i (t5.length : Nat), .i k5, .i 0], uOk_of rfl, (tab_fresh _ _ _ _ _ _).symm, .env (by (try simp only [liE, letsOf, letU, snd, List.append_nil]); rfl) (.chk (by ((try simp only [evE, liE, letsOf, letU, snd]); (try simp only [cmE])); omega) ?_)⟩
  have hT5 := hT5.le' hq4
  have hT1 := hT1.le' hle4
  have hR3 := Row.le hR3 hle4
  clear hle4 hq4
  have hnn := add_nn (w := x.w) hc (W := l.map (·.w)) (by omega) hal1
  rw [hwlen] at hnn
  have hal5 : isAl ((l ++ [x]).map (·.w)) (t5.map (·.l)) = true := by
    have := add_al (w := x.w) hc (W := l.map (·.w)) (by omega) hal1
    rw [hwlen] at this
    rw [hmapw, ht5]; exact this
  have hn5 := al_len hal5 (by rw [List.length_map]; omega) (wl_32 hL')
  rw [List.length_map] at hn5
  have hok5 := tabOk_len hT5 hal5 (by rw [List.length_map]; omega)
  have hwat : ∀ {L : List Nat} {ρ : Env} {blks : List Blk} {m : Mem}, m4.le m → Go.Sy.Good c L m → WordsAt (vw c L ρ blks m) q3 (l ++ [x]) := fun h g => words_snoc ((Row.le hR3 h).reads g) (hp.1.mono g.R) (hp.2.1.mono g.R)
  have kw := c_Without q3 q5 k3 k5 (l ++ [x]) t5 l.length (by omega) (by omega) hok' (fun r hr => (hok5 r hr).1)
  have hwo : withoutS (t5.map (·.l)) l.length = t1.map (·.l) := by
    rw [ht5]
    have := without_out (wn := x.w.length) hnn hcl ((t1.map (·.l)).length + x.w.length) 0 0 (Nat.zero_le _) (Nat.zero_le _) (by omega)
    rw [List.drop_zero] at this
    exact this
  rw [withoutE_ok (checkA_al hw8' hal5) (by rw [List.length_map]; omega), hwo, hlen1] at kw
  refine .callE kw (fun g => ⟨hwat (Mem.le.refl _) g, hT5.reads g⟩) ?_
  clear kw
  rintro v mq m5 hle5 hq5 ⟨q6, k6, t6, rfl, ht6, hT6⟩
  replace ht6 : t6.map (·.l) = t1.map (·.l) := ht6
  refine ⟨[.p q6, .i (t6.length : Nat), .i k6, .i 0], uOk_of rfl, (tab_fresh _ _ _ _ _ _).symm, .env (by (try simp only [liE, letsOf, letU, snd, List.append_nil]); rfl) ?_⟩
  have hT6 := hT6.le' hq5
  have hT1 := hT1.le' hle5
  have hT5 := hT5.le' hle5
  have hn6 : t6.length = t1.length := by have := congrArg List.length ht6; simpa using this
  have kq := c_same q6 q1 k6 k1 t6 t1 (by omega) (by omega) (fun r hr => by have := (hcl r.l (by rw [← ht6]; exact List.mem_map_of_mem hr)).1; omega) (fun r hr => by have := (hok1 r hr).1.small; omega)
  rw [ht6, decide_eq_true rfl] at kq
  have kc := c_Check q3 q5 k3 k5 (l ++ [x]) t5 (by omega) (by omega) hok' (fun r hr => by have := (hok5 r hr).1.small; omega)
  rw [checkA_al hw8' hal5, hlen1] at kc
  refine .join (fun us m => ∃ b, us = [.b b] ∧ b = false ∧ m5 = m) (.no (by ((try simp only [evE, liE, letsOf, letU, snd]); (try simp only [cmE])) <;> simp) (.callV kc (fun g => ⟨hwat hle5 g, hT5.reads g⟩) (.env (by (try simp only [liE, letsOf, letU, snd, List.append_nil]); rfl) (.no rfl (.callV kq (fun g => ⟨hT6.reads g, hT1.reads g⟩) (.env (by (try simp only [liE, letsOf, letU, snd, List.append_nil]); rfl) (.again rfl ⟨_, rfl, rfl, rfl⟩))))))) ?_
  rintro _ _ _ ⟨_, rfl, rfl, rfl⟩
  clear kq kc hT6 hq5
  have hscore : ∀ (q : Option Addr) (k : Nat) (ts : List IR), isAl ((l ++ [x]).map (·.w)) (ts.map (·.l)) = true → ts.length ≤ 1048576 → (∀ r ∈ ts, r.l.length ≤ r.cap) → RetP Tryd.prog n_multi_Score [slv q3 (l.length + 1) k3, slv q ts.length k, costs pc ws.length cc gap] (fun R => WordsAt R q3 (l ++ [x]) ∧ RowsAt R q ts ∧ CostsAt R pc ws ∧ TabOk R) (.tuple #[.int .i64 (costE ws gap (l.map (·.w) ++ [x.w]) (ts.map (·.l))), .int .i64 0]) := fun q k ts hal hr hrc => by
    have := c_scoreOk q3 q pc k3 k cc (l ++ [x]) ts ws gap hok' hc hw8' hal hr hrc
    rw [hlen1, hmapw] at this
    exact this
  have hcost5 : costE ws gap (l.map (·.w) ++ [x.w]) (t5.map (·.l)) = AI (cI (columnE ws gap (l.map (·.w) ++ [x.w])) (t1.map (·.l)) l.length l.length) (t1.map (·.l)).length x.w.length 0 0 := by rw [ht5]; exact insE_cost hnn
  have hpath : ∀ {out : List (List Int)}, PathI (t1.map (·.l)) l.length l.length x.w.length 0 0 out → isAl ((l ++ [x]).map (·.w)) out = true ∧ costE ws gap (l.map (·.w) ++ [x.w]) (t5.map (·.l)) ≤ costE ws gap (l.map (·.w) ++ [x.w]) out := fun {out} h => by
    refine ⟨?_, ?_⟩
    · rw [hmapw]
      have h' : PathI (t1.map (·.l)) (l.map (·.w)).length (l.map (·.w)).length x.w.length 0 0 out := by rw [hwlen]; exact h
      exact h'.al hal1
    · rw [hcost5, costE_sum]
      exact h.costs hnn
  refine .env (by (try simp only [liE, letsOf, letU, snd, List.append_nil]); rfl) (.no rfl (.callV (hscore q5 k5 t5 hal5 (by omega) (fun r hr => (hT5.rows r hr).le)) (fun g => ⟨hwat hle5 g, hT5.reads g, hp.2.2.1.mono g.R, hV.1.mono g.R⟩) (.env (by (try simp only [liE, letsOf, letU, snd, List.append_nil]); rfl) ?_)))
  generalize costE ws gap (l.map (·.w) ++ [x.w]) (t5.map (·.l)) = T at *
  have hls : ∀ d ∈ t1.map (·.l), d.length = l.length := fun d hd => (hcl d hd).1
  have hget : ∀ i (hi : i < t1.length), (t1.map (·.l)).getD i [] = t1[i].l := fun i hi => by rw [getD_at _ _ _ (by rw [hclen]; exact hi), List.getElem_map]
  refine .loop (fun z us m => ∃ (qb : Option Addr) (cb : Nat) (qw : Option Addr) (cw i : Nat) (tb tw : List IR), us = [.p qb, .i i, .i cb, .p qw, .i i, .i cw, .i i] ∧ z + i = t1.length ∧ tb.length = i ∧ tw.length = i ∧ tb.map (·.l) = ((t1.map (·.l)).take i).map (· ++ [-1]) ∧ tw.map (·.l) = withinC (t1.map (·.l)) x.w.length i ∧ TabR m qb cb tb ∧ TabR m qw cw tw ∧ ApartQ qb qw ∧ NewQ m5 qb ∧ NewQ m5 qw ∧ m5.le m) t1.length
    ⟨none, 0, none, 0, 0, [], [], rfl, by omega, rfl, rfl, rfl, rfl, .nil _, .nil _, nofun, nofun, nofun, Mem.le.refl _⟩ ?_
  rintro z _ m _ ⟨qb, cb, qw, cw, i, tb, tw, rfl, hz, hbl, hwl, htb, htw, hTb, hTw, hap, hnb, hnw, hle⟩
  refine .env (by (try simp only [liE, letsOf, letU, snd, List.append_nil]); rfl) (.chk (by ((try simp only [evE, liE, letsOf, letU, snd]); (try simp only [cmE])); omega) (.ite (fun h2 => ?_) (fun h2 => ?_))) <;> ((try simp only [evE, liE, letsOf, letU, snd] at h2); (try simp only [cmE] at h2))
  · have hi : i < t1.length := by omega
    have hri := hok1 _ (List.getElem_mem hi)
    have hrsm := hri.1.small
    have hTm := hT1.le' hle
    refine .alloc fun b3 => .envL (by simp only [List.nil_append, List.cons_append]; rfl) (.loadSl (t1.map IR.v) i t1.length t1[i].p t1[i].l.length t1[i].cap hi (row_at t1 i hi) (fun g => (hTm.reads g).1) (.env (by (try simp only [liE, letsOf, letU, snd, List.append_nil]); rfl) ?_))
    refine snocI (b0 := b3) (qx := t1[i].p) (capx := t1[i].cap) t1[i].l (-1) (fun g => (hTm.reads g).2 _ (List.getElem_mem hi)) hri.1.nil hrsm rfl ?_ (fun qa ca b4 qs cs' m6 hle6 hI6 => ?_) rfl (fun _ _ _ => rfl)
    · rintro b4 _ m' ⟨qa, ca, rfl⟩ g
      exact g.cells (j := 4) rfl rfl rfl
    have hTb6 := hTb.le hle6
    have hTw6 := hTw.le hle6
    have houtb := hTb6.out
    rw [hbl] at houtb
    refine .env (by (try simp only [liE, letsOf, letU, snd, List.append_nil]); rfl) (.envL (by simp only [List.nil_append, List.cons_append]; rfl) (.alloc fun b5 => .envL (by simp only [List.nil_append, List.cons_append]; rfl) (.append (q := qb) (cap := cb) (n := i) (qx := some ⟨b5, 0, none⟩) (kx := 1) (capx := 1) (news := [slv qs (t1[i].l ++ [-1]).length cs']) elT houtb (fun gd => gd.cells (j := 5) rfl rfl rfl) rfl (by simp [slv, Value.oneCell']) (fun h => by cases h) (by simp [maxLen]; omega) (by omega) (fun qb' cb' m7 hr7 hk7 hq7 => ?_))))
    have hTb7 : TabR m7 qb' cb' (tb ++ [⟨qs, cs', t1[i].l ++ [-1]⟩]) := hTb6.push (r := ⟨qs, cs', t1[i].l ++ [-1]⟩) hI6 (by rw [hbl]; exact hr7) (by rw [hbl]; exact hk7)
    have hTw7 : TabR m7 qw cw tw := hTw6.other hTb6 hap (by rw [hbl]; exact hk7)
    have hap7 : ApartQ qb' qw := hap.next hTw6.out hq7
    have hle67 := hle.trans hle6
    have hle7 : m5.le m7 := keep_new hle67 hnb hk7
    have hnb7 : NewQ m5 qb' := hnb.next hle67 hq7
    clear hTb hTw hTb6 hTw6 houtb hr7 hI6
    refine .env (by (try simp only [liE, letsOf, letU, snd, List.append_nil]); rfl) (.chk (by ((try simp only [evE, liE, letsOf, letU, snd]); (try simp only [cmE])); omega) (.join (fun us m => us = [.i (if i < x.w.length then (i : Int) else -1)] ∧ m7 = m) (.ite (fun h3 => .again rfl ⟨?_, rfl⟩) (fun h3 => .again rfl ⟨?_, rfl⟩)) ?_))
    · ((try simp only [evE, liE, letsOf, letU, snd] at h3); (try simp only [cmE] at h3)); rw [if_pos (by omega)]; (simp only [evE, liE, letsOf, letU, snd, Sh.uss, Sh.us, atAddr, map_add0, List.append_nil])
    · ((try simp only [evE, liE, letsOf, letU, snd] at h3); (try simp only [cmE] at h3)); rw [if_neg (by omega)]; (simp only [evE, liE, letsOf, letU, snd, Sh.uss, Sh.us, atAddr, map_add0, List.append_nil])
    rintro _ _ _ ⟨rfl, rfl⟩
    have hTm7 := hT1.le' hle7
    refine .env (by (try simp only [liE, letsOf, letU, snd, List.append_nil]); rfl) (.alloc fun b6 => .envL (by simp only [List.nil_append, List.cons_append]; rfl) (.loadSl (t1.map IR.v) i t1.length t1[i].p t1[i].l.length t1[i].cap hi (row_at t1 i hi) (fun g => (hTm7.reads g).1) (.env (by (try simp only [liE, letsOf, letU, snd, List.append_nil]); rfl) ?_)))
    refine snocI (b0 := b6) (qx := t1[i].p) (capx := t1[i].cap) t1[i].l (if i < x.w.length then (i : Int) else -1) (fun g => (hTm7.reads g).2 _ (List.getElem_mem hi)) hri.1.nil hrsm rfl ?_ (fun qa2 ca2 b7 qs2 cs2 m8 hle8 hI8 => ?_) rfl (fun _ _ _ => rfl)
    · rintro b7 _ m' ⟨qa2, ca2, rfl⟩ g
      exact g.cells (j := 7) rfl rfl rfl
    have hTb8 := hTb7.le hle8
    have hTw8 := hTw7.le hle8
    have houtw := hTw8.out
    rw [hwl] at houtw
    refine .env (by (try simp only [liE, letsOf, letU, snd, List.append_nil]); rfl) (.envL (by simp only [List.nil_append, List.cons_append]; rfl) (.alloc fun b8 => .envL (by simp only [List.nil_append, List.cons_append]; rfl) (.append (q := qw) (cap := cw) (n := i) (qx := some ⟨b8, 0, none⟩) (kx := 1) (capx := 1) (news := [slv qs2 (t1[i].l ++ [if i < x.w.length then (i : Int) else -1]).length cs2]) elT houtw (fun gd => gd.cells (j := 8) rfl rfl rfl) rfl (by simp [slv, Value.oneCell']) (fun h => by cases h) (by simp [maxLen]; omega) (by omega) (fun qw' cw' m9 hr9 hk9 hq9 => .againL rfl fun gd => ⟨z - 1, by omega, qb', cb', qw', cw', i + 1, tb ++ [⟨qs, cs', t1[i].l ++ [-1]⟩], tw ++ [⟨qs2, cs2, t1[i].l ++ [if i < x.w.length then (i : Int) else -1]⟩], ?_, by omega, by rw [List.length_append, hbl]; rfl, by rw [List.length_append, hwl]; rfl, ?_, ?_, ?_, ?_, ?_, ?_, ?_, ?_⟩))))
    · (simp only [evE, liE, letsOf, letU, snd, Sh.uss, Sh.us, atAddr, map_add0, List.append_nil]); rw [add_i64 i (by omega)]
    · rw [List.take_succ_eq_append_getElem (by rw [hclen]; exact hi), List.map_append, List.map_append, htb, List.getElem_map]; rfl
    · rw [withinC_snoc, List.map_append, htw, hget i hi]; rfl
    · have hbl8 : (tb ++ [(⟨qs, cs', t1[i].l ++ [-1]⟩ : IR)]).length = i + 1 := by rw [List.length_append, hbl]; rfl
      exact (hTb8.other hTw8 hap7.symm (by rw [hwl]; exact hk9)).le (gd.leB _ _ 3)
    · have hTw9 : TabR m9 qw' cw' (tw ++ [⟨qs2, cs2, t1[i].l ++ [if i < x.w.length then (i : Int) else -1]⟩]) := hTw8.push (r := ⟨qs2, cs2, t1[i].l ++ [if i < x.w.length then (i : Int) else -1]⟩) hI8 (by rw [hwl]; exact hr9) (by rw [hwl]; exact hk9)
      exact hTw9.le (gd.leB _ _ 3)
    · exact (hap7.symm.next hTb8.out hq9).symm
    · exact hnb7
    · exact hnw.next (hle7.trans hle8) hq9
    · exact (keep_new (hle7.trans hle8) hnw hk9).trans (gd.leB _ _ 3)
  · obtain rfl : i = t1.length := by omega
    rw [List.take_of_length_le (by omega)] at htb
    refine .loop (fun z us m => ∃ (qb : Option Addr) (cb : Nat) (qw : Option Addr) (cw j : Nat) (tb tw : List IR), us = [.p qb, .i tb.length, .i cb, .p qw, .i tw.length, .i cw, .i j] ∧ z + j = x.w.length ∧ tb.length = t1.length + j ∧ tw.length = t1.length + (j - t1.length) ∧ tb.map (·.l) = (t1.map (·.l)).map (· ++ [-1]) ++ soundsL l.length 0 j ∧ tw.map (·.l) = withinC (t1.map (·.l)) x.w.length t1.length ++ soundsL l.length t1.length (j - t1.length) ∧ TabR m qb cb tb ∧ TabR m qw cw tw ∧ ApartQ qb qw ∧ NewQ m5 qb ∧ NewQ m5 qw ∧ m5.le m) x.w.length
      ⟨qb, cb, qw, cw, 0, tb, tw, ?_, by omega, by omega, by omega, ?_, ?_, hTb, hTw, hap, hnb, hnw, hle⟩ ?_
    · rw [hbl, hwl]; exact (by (simp only [evE, liE, letsOf, letU, snd, Sh.uss, Sh.us, atAddr, map_add0, List.append_nil]) <;> rfl)
    · rw [htb]; unfold soundsL; simp
    · rw [htw]; unfold soundsL; simp
    clear hbl hwl htb htw hTb hTw hap hnb hnw hle
    rintro z2 _ m2 _ ⟨qb2, cb2, qw2, cw2, j, tb2, tw2, rfl, hz2, hbl, hwl, htb, htw, hTb, hTw, hap, hnb, hnw, hle⟩
    refine .env (by (try simp only [liE, letsOf, letU, snd, List.append_nil]); rfl) (.chk (by ((try simp only [evE, liE, letsOf, letU, snd]); (try simp only [cmE])); omega) (.ite (fun h3 => ?_) (fun h3 => ?_))) <;> ((try simp only [evE, liE, letsOf, letU, snd] at h3); (try simp only [cmE] at h3))
    · have hj : j < x.w.length := by omega
      refine .chk (by ((try simp only [evE, liE, letsOf, letU, snd]); (try simp only [cmE])); omega) (.make (z := .int .i64 0) (bytes := 8) (l.length + 1) Tryd.underlying49 int_info rfl (by omega) (by simp [maxLen]; omega) (fun gc hgc hrow => ?_) (by show Value.int .i64 (ar .add .i64 (l.length : Int) 1) = _; rw [add_i64 _ (by omega)]) (by show Value.int .i64 (ar .add .i64 (l.length : Int) 1) = _; rw [add_i64 _ (by omega)]))
      have hle3 : m2.le (m2.upd gc (.cells (madeCells #[Value.int .i64 0] (l.length + 1)) 3 (0, 0))) := fun b o hb => by
        rw [Mem.upd_other _ _ (fun e => by rw [e, hgc] at hb; cases hb)]; exact hb
      generalize Mem.upd _ gc _ = m3' at hrow hle3 ⊢
      rw [row_ints] at hrow
      refine .env (by (try simp only [liE, letsOf, letU, snd, List.append_nil]); rfl) (.loop (fun z us m => ∃ (k : Nat) (xs : List Int), us = [.i k] ∧ z + k = l.length ∧ m2.le m ∧ xs.length = l.length + 1 ∧ Row m 3 1 (some ⟨gc, 0, none⟩) (l.length + 1) (l.length + 1) (intsL xs) ∧ ∀ y, y < k → labAt xs y = -1) l.length
        ⟨0, List.replicate (l.length + 1) 0, rfl, by omega, hle3, List.length_replicate, hrow, fun y hy => by omega⟩ ?_)
      clear hrow hle3 m3'
      rintro z4 _ m4' _ ⟨k, xs, rfl, hz4, hle4, hxl4, hR4, hxs⟩
      refine .env (by (try simp only [liE, letsOf, letU, snd, List.append_nil]); rfl) (.chk (by ((try simp only [evE, liE, letsOf, letU, snd]); (try simp only [cmE])); omega) (.ite (fun h4 => ?_) (fun h4 => .chk (by ((try simp only [evE, liE, letsOf, letU, snd]); (try simp only [cmE])); omega) ?_))) <;> ((try simp only [evE, liE, letsOf, letU, snd] at h4); (try simp only [cmE] at h4))
      · have hk : k < l.length := by omega
        refine .storeR k (by omega : k < l.length + 1) hR4 rfl rfl rfl fun m6 g6 hg6 hR6 hs6 => .again rfl ⟨z4 - 1, by omega, k + 1, xs.set k (-1), ?_, by omega, ?_, by rw [List.length_set]; exact hxl4, ?_, fun y hy => ?_⟩
        all_goals cases hg6
        · (simp only [evE, liE, letsOf, letU, snd, Sh.uss, Sh.us, atAddr, map_add0, List.append_nil]); rw [add_i64 k (by omega)]
        · intro b o hb
          rw [hs6 b (fun e => by rw [e, hgc] at hb; cases hb)]; exact hle4 b o hb
        · replace hR6 : Row m6 3 1 (some ⟨gc, 0, none⟩) (l.length + 1) (l.length + 1) ((intsL xs).set k (.int .i64 (-1))) := hR6
          rw [intsL_set] at hR6; exact hR6
        · rw [labAt_set (by omega)]
          by_cases e : k = y
          · rw [if_pos e]
          · rw [if_neg e]; exact hxs y (by omega)
      · obtain rfl : k = l.length := by omega
        refine .storeR l.length (by omega : l.length < l.length + 1) hR4 rfl rfl rfl fun m6 g6 hg6 hR6 hs6 => ?_
        cases hg6
        replace hR6 : Row m6 3 1 (some ⟨gc, 0, none⟩) (l.length + 1) (l.length + 1) ((intsL xs).set l.length (.int .i64 (j : Int))) := hR6
        have hcol : xs.set l.length (j : Int) = List.replicate l.length (-1) ++ [(j : Int)] := by
          refine labAt_ext (by rw [List.length_set, hxl4]; simp) fun y hy => ?_
          rw [List.length_set, hxl4] at hy
          rw [labAt_set (by omega)]
          by_cases e : l.length = y
          · rw [if_pos e]
            unfold labAt
            rw [List.getElem?_append_right (by simp; omega)]
            simp [e]
          · rw [if_neg e, hxs y (by omega)]
            unfold labAt
            rw [List.getElem?_append_left (by simp; omega), List.getElem?_replicate, if_pos (by omega)]; rfl
        rw [intsL_set, hcol] at hR6
        have hle6 : m2.le m6 := fun b o hb => by
          rw [hs6 b (fun e => by rw [e, hgc] at hb; cases hb)]; exact hle4 b o hb
        have hI6 : RowI m6 (some ⟨gc, 0, none⟩) (l.length + 1) (List.replicate l.length (-1) ++ [(j : Int)]) := .of (by rw [List.length_append, List.length_replicate]; exact hR6)
        have hTb6 := hTb.le hle6
        have hTw6 := hTw.le hle6
        have hcl' : (List.replicate l.length (-1 : Int) ++ [(j : Int)]).length = l.length + 1 := by simp
        refine .alloc fun b3 => .envL (by simp only [List.nil_append, List.cons_append]; rfl) (.append (q := qb2) (cap := cb2) (n := tb2.length) (qx := some ⟨b3, 0, none⟩) (kx := 1) (capx := 1) (news := [slv (some ⟨gc, 0, none⟩) (l.length + 1) (l.length + 1)]) elT hTb6.out (fun gd => gd.cells (j := 3) rfl rfl rfl) rfl (by simp [slv, Value.oneCell']) (fun h => by cases h) (by simp [maxLen]; omega) (by omega) (fun qb' cb' m7 hr7 hk7 hq7 => .env (by (try simp only [liE, letsOf, letU, snd, List.append_nil]); rfl) (.chk (by ((try simp only [evE, liE, letsOf, letU, snd]); (try simp only [cmE])); omega) ?_)))
        have hTb7 : TabR m7 qb' cb' (tb2 ++ [⟨some ⟨gc, 0, none⟩, l.length + 1, List.replicate l.length (-1) ++ [(j : Int)]⟩]) := hTb6.push (r := ⟨some ⟨gc, 0, none⟩, l.length + 1, List.replicate l.length (-1) ++ [(j : Int)]⟩) hI6 (by show Row _ _ _ _ _ _ (tb2.map IR.v ++ [slv (some ⟨gc, 0, none⟩) (List.replicate l.length (-1 : Int) ++ [(j : Int)]).length (l.length + 1)]); rw [hcl']; exact hr7) hk7
        have hTw7 : TabR m7 qw2 cw2 tw2 := hTw6.other hTb6 hap hk7
        have hI7 : RowI m7 (some ⟨gc, 0, none⟩) (l.length + 1) (List.replicate l.length (-1) ++ [(j : Int)]) := hI6.keepA hTb6.out hk7
        have hap7 : ApartQ qb' qw2 := hap.next hTw6.out hq7
        have hle26 := hle.trans hle6
        have hle7 : m5.le m7 := keep_new hle26 hnb hk7
        have hnb7 : NewQ m5 qb' := hnb.next hle26 hq7
        have hsb : (tb2 ++ [(⟨some ⟨gc, 0, none⟩, l.length + 1, List.replicate l.length (-1) ++ [(j : Int)]⟩ : IR)]).map (·.l) = (t1.map (·.l)).map (· ++ [-1]) ++ soundsL l.length 0 (j + 1) := by
          rw [soundsL_snoc, List.map_append, htb, ← List.append_assoc, Nat.zero_add]; rfl
        refine .join (fun us m => ∃ (qw' : Option Addr) (cw' : Nat) (tw' : List IR), us = [.p qw', .i tw'.length, .i cw'] ∧ tw'.length = t1.length + (j + 1 - t1.length) ∧ tw'.map (·.l) = withinC (t1.map (·.l)) x.w.length t1.length ++ soundsL l.length t1.length (j + 1 - t1.length) ∧ TabR m qb' cb' (tb2 ++ [⟨some ⟨gc, 0, none⟩, l.length + 1, List.replicate l.length (-1) ++ [(j : Int)]⟩]) ∧ TabR m qw' cw' tw' ∧ ApartQ qb' qw' ∧ NewQ m5 qw' ∧ m5.le m) (.ite (fun h5 => ?_) (fun h5 => .again rfl ⟨qw2, cw2, tw2, (by (simp only [evE, liE, letsOf, letU, snd, Sh.uss, Sh.us, atAddr, map_add0, List.append_nil]) <;> rfl), ?_, ?_, hTb7, hTw7, hap7, hnw, hle7⟩)) ?_
        · ((try simp only [evE, liE, letsOf, letU, snd] at h5); (try simp only [cmE] at h5))
          refine .alloc fun b4 => .envL (by simp only [List.nil_append, List.cons_append]; rfl) (.append (q := qw2) (cap := cw2) (n := tw2.length) (qx := some ⟨b4, 0, none⟩) (kx := 1) (capx := 1) (news := [slv (some ⟨gc, 0, none⟩) (l.length + 1) (l.length + 1)]) elT hTw7.out (fun gd => gd.cells (j := 4) rfl rfl rfl) rfl (by simp [slv, Value.oneCell']) (fun h => by cases h) (by simp [maxLen]; omega) (by omega) (fun qw' cw' m8 hr8 hk8 hq8 => .againL rfl fun gd => ⟨qw', cw', tw2 ++ [⟨some ⟨gc, 0, none⟩, l.length + 1, List.replicate l.length (-1) ++ [(j : Int)]⟩], ?_, ?_, ?_, ?_, ?_, ?_, ?_, ?_⟩))
          · (simp only [evE, liE, letsOf, letU, snd, Sh.uss, Sh.us, atAddr, map_add0, List.append_nil]); rw [List.length_append]; rfl
          · rw [List.length_append, hwl]; simp; omega
          · rw [show j + 1 - t1.length = (j - t1.length) + 1 by omega, soundsL_snoc, List.map_append, htw, ← List.append_assoc, show t1.length + (j - t1.length) = j by omega]; rfl
          · exact (hTb7.other hTw7 hap7.symm hk8).le (gd.leB _ _ 4)
          · have hTw8 : TabR m8 qw' cw' (tw2 ++ [⟨some ⟨gc, 0, none⟩, l.length + 1, List.replicate l.length (-1) ++ [(j : Int)]⟩]) := hTw7.push (r := ⟨some ⟨gc, 0, none⟩, l.length + 1, List.replicate l.length (-1) ++ [(j : Int)]⟩) hI7 (by show Row _ _ _ _ _ _ (tw2.map IR.v ++ [slv (some ⟨gc, 0, none⟩) (List.replicate l.length (-1 : Int) ++ [(j : Int)]).length (l.length + 1)]); rw [hcl']; exact hr8) hk8
            exact hTw8.le (gd.leB _ _ 4)
          · exact (hap7.symm.next hTb7.out hq8).symm
          · exact hnw.next hle7 hq8
          · exact (keep_new hle7 hnw hk8).trans (gd.leB _ _ 4)
        · ((try simp only [evE, liE, letsOf, letU, snd] at h5); (try simp only [cmE] at h5)); omega
        · ((try simp only [evE, liE, letsOf, letU, snd] at h5); (try simp only [cmE] at h5))
          rw [htw, show j + 1 - t1.length = 0 by omega, show j - t1.length = 0 by omega]
        · rintro _ m8 _ ⟨qw', cw', tw', rfl, a1, a2, a3, a4, a5, a6, a7⟩
          refine .env (by (try simp only [liE, letsOf, letU, snd, List.append_nil]); rfl) (.againL rfl fun gd => ⟨z2 - 1, by omega, qb', cb', qw', cw', j + 1, _, tw', ?_, by omega, ?_, a1, hsb, a2, a3.le (gd.leB _ _ 3), a4.le (gd.leB _ _ 3), a5, hnb7, a6, a7.trans (gd.leB _ _ 3)⟩)
          · (simp only [evE, liE, letsOf, letU, snd, Sh.uss, Sh.us, atAddr, map_add0, List.append_nil]); rw [add_i64 j (by omega), List.length_append]; rfl
          · rw [List.length_append, hbl]; simp; omega
    · obtain rfl : j = x.w.length := by omega
      obtain ⟨ha1, hb1⟩ := hpath (behind_path (wn := x.w.length) hls)
      obtain ⟨ha2, hb2⟩ := hpath (within_path (wn := x.w.length) hls)
      have e1 : tb2.map (·.l) = behindL (t1.map (·.l)) l.length x.w.length := htb
      have e2 : tw2.map (·.l) = withinL (t1.map (·.l)) l.length x.w.length := by unfold withinL; rw [htw, hclen]
      rw [← e1] at ha1 hb1
      rw [← e2] at ha2 hb2
      have s1 := hscore qb2 cb2 tb2 ha1 (by omega) (fun r hr => (hTb.rows r hr).le)
      have s2 := hscore qw2 cw2 tw2 ha2 (by omega) (fun r hr => (hTw.rows r hr).le)
      generalize costE ws gap (l.map (·.w) ++ [x.w]) (tb2.map (·.l)) = M at *
      generalize costE ws gap (l.map (·.w) ++ [x.w]) (tw2.map (·.l)) = N at *
      refine .callV s1 (fun g => ⟨hwat (hle5.trans hle) g, hTb.tab.reads g, hp.2.2.1.mono g.R, hV.1.mono g.R⟩) (.env (by (try simp only [liE, letsOf, letU, snd, List.append_nil]); rfl) ?_)
      refine .callV s2 (fun g => ⟨hwat (hle5.trans hle) g, hTw.tab.reads g, hp.2.2.1.mono g.R, hV.1.mono g.R⟩) (.env (by (try simp only [liE, letsOf, letU, snd, List.append_nil]); rfl) ?_)
      refine .join (fun us m => us = [.b true]) (.yes (by ((try simp only [evE, liE, letsOf, letU, snd]); (try simp only [cmE])); simp; omega) (.callV c_works (fun g => hV.mono g.R) (.env (by (try simp only [liE, letsOf, letU, snd, List.append_nil]); rfl) (.again rfl rfl)))) ?_
      rintro _ _ _ rfl
      exact .env (by (try simp only [liE, letsOf, letU, snd, List.append_nil]); rfl) (.ret rfl rfl)
end Go.Proofs.YtialbhieaipcgaaDoor
