/- Chapter 18: a refined alignment is not dearer, and cannot be refined. -/
import Derived.Test.YtialbhieaipcgaaDoorYm
import Derived.Test.YtialbhieaipcgaaDoorTcRefined
set_option linter.unusedSimpArgs false
set_option linter.unusedVariables false
namespace Go.Sy
open Go Go.RowKit
section
variable {ws : List Int} {gap : Int} {W : List (List Snd)}
theorem pass_mono (c : List (List Int)) (k d : Nat) : costE ws gap W (passR ws gap W (k + d) c) ≤ costE ws gap W (passR ws gap W k c) := by
  induction d with
  | zero => exact Int.le_refl _
  | succ d ih =>
    have := (step_le (ws := ws) (gap := gap) (W := W) (passR ws gap W (k + d) c) (k + d)).1
    show costE ws gap W (stepR ws gap W (passR ws gap W (k + d) c) (k + d)) ≤ _
    omega
/-- What cannot be refined cannot be improved by one word. -/
theorem fix_step {x : List (List Int)} (h : ¬ costE ws gap W (passR ws gap W W.length x) < costE ws gap W x) {k : Nat} (hk : k < W.length) : costE ws gap W x ≤ costE ws gap W (addR ws gap W x k) := by
  have h1 := pass_le (ws := ws) (gap := gap) (W := W) x k
  have h2 := pass_mono (ws := ws) (gap := gap) (W := W) x k (W.length - k)
  rw [show k + (W.length - k) = W.length by omega] at h2
  have h3 := h1.2 (by omega)
  have h4 := pass_le (ws := ws) (gap := gap) (W := W) x (k + 1)
  have h5 := pass_mono (ws := ws) (gap := gap) (W := W) x (k + 1) (W.length - (k + 1))
  rw [show k + 1 + (W.length - (k + 1)) = W.length by omega] at h5
  have h6 : costE ws gap W (stepR ws gap W x k) = costE ws gap W x := by
    have e : passR ws gap W (k + 1) x = stepR ws gap W (passR ws gap W k x) k := rfl
    rw [h3] at e
    rw [← e]; omega
  unfold stepR at h6
  split at h6
  · omega
  · rename_i h; omega
end
theorem al_none {cols : List (List Int)} (h : isAl [] cols = true) : cols = [] := by
  cases cols with
  | nil => rfl
  | cons c cols =>
    obtain ⟨h1, x, hx, _⟩ := (isAl_of h).1 c (List.mem_cons_self ..)
    have : c = [] := List.length_eq_zero_iff.1 h1
    rw [this] at hx; cases hx
theorem withoutE_ok {W : List (List Snd)} {cols : List (List Int)} {k : Nat} (h : checkA W cols = 0) (hk : k < W.length) : withoutE W cols k = (withoutS cols k, 0) := by
  unfold withoutE; rw [if_neg (by simp [h]), if_neg (by omega), Int.toNat_natCast]
theorem addA_ok {ws : List Int} {gap : Int} {W : List (List Snd)} {cols : List (List Int)} {w : List Snd} (hc : checkC ws gap = 0) (h7 : W.length ≤ 7) (hL : checkL W = 0) (hw : checkW w = 0) (hal : isAl W cols = true) : addA ws gap W cols w = (insE (columnE ws gap (W ++ [w])) cols W.length W.length w.length, 0) := by
  have h8 : wordsE 7 W = 0 := by unfold wordsE; rw [if_neg (by omega)]; exact hL
  have h9 : wordsE 8 W = 0 := by unfold wordsE; rw [if_neg (by omega)]; exact hL
  have he : addErr ws gap W cols w = 0 := by
    show (if checkC ws gap ≠ 0 then checkC ws gap else if wordsE 7 W ≠ 0 then wordsE 7 W else if checkW w ≠ 0 then checkW w else if checkA W cols ≠ 0 then checkA W cols else 0) = 0
    rw [if_neg (by simp [hc]), if_neg (by simp [h8]), if_neg (by simp [hw]), checkA_al h9 hal, if_neg (by decide)]
  unfold addA
  rw [he, if_neg (by decide)]
end Go.Sy
namespace Go.Proofs.YtialbhieaipcgaaDoor
open Go Go.Sy Go.RowKit
theorem cut_den {p : Option Addr} {cp n : Nat} (h0 : 0 < n) (hn : n < 2 ^ 40) : Value.slice (Option.map (fun a => a.add (if (cp : Int) = 0 then (0 : Int) else 0).toNat) p) (ar .sub .i64 (n : Int) 1).toNat ((cp : Int)).toNat = slv p (n - 1) cp := by
  rw [subI (by omega) (by omega), show ((n : Int) - 1) = ((n - 1 : Nat) : Int) by omega]; exact head_den
set_option maxHeartbeats 2000000 in
theorem l_MultiRefined (p pc ps : Option Addr) (cp cc cs : Nat) (l : List WD) (ws : List Int) (gap : Int) (st : List Int) (hl : l.length < 2 ^ 63) (hlc : l.length ≤ cp) (hpn : p = none → cp = 0) (hok : ∀ x ∈ l, Wok x.w) (hw : ∀ x ∈ l, x.w.length < 2 ^ 63) (hst : st.length < 2 ^ 63) :
    RetP Tryd.prog n_law18_MultiRefined [slv p l.length cp, costs pc ws.length cc gap, slv ps st.length cs] (fun R => WordsAt R p l ∧ CostsAt R pc ws ∧ Cells R ps (st.map (.int .u8)) ∧ VarsOk R) (.bool true) := by
  refine Fn.of S_law18_MultiRefined mx [.p p, .i l.length, .i cp, .p pc, .i ws.length, .i cc, .i gap, .p ps, .i st.length, .i cs] rfl rfl fun c hp => .alloc fun b0 => ?_
  have hV := hp.2.2.2
  refine .join (fun us m => ∃ b, us = [.b b] ∧ (b = false → goodW 4 8 (l.map (·.w)) = true ∧ st.length ≤ 100 ∧ checkC ws gap = 0) ∧ Mem.emp = m) ?_ ?_
  · refine .callV (c_good p cp l 4 8 hl hok hw) (fun g => hp.1.mono g.R) (.env (by (try simp only [liE, letsOf, letU, snd, List.append_nil]); rfl) (.ite (fun h1 => .again rfl ⟨true, rfl, nofun, rfl⟩) (fun h1 => .chk (by ((try simp only [evE, liE, letsOf, letU, snd]); (try simp only [cmE])); omega) (.ite (fun h2 => .again rfl ⟨true, rfl, nofun, rfl⟩) (fun h2 => .callV (c_checkCosts pc cc ws gap) (fun g => hp.2.1.mono g.R) ?_))))) <;> ((try simp only [evE, liE, letsOf, letU, snd] at h1); (try simp only [cmE] at h1))
    ((try simp only [evE, liE, letsOf, letU, snd] at h2); (try simp only [cmE] at h2))
    refine .env (by (try simp only [liE, letsOf, letU, snd, List.append_nil]); rfl) (.again rfl ⟨_, rfl, fun h3 => ⟨h1, by omega, by ((try simp only [evE, liE, letsOf, letU, snd] at h3); (try simp only [cmE] at h3)); exact h3⟩, rfl⟩)
  rintro _ _ _ ⟨b, rfl, hb, rfl⟩
  refine .env (by (try simp only [liE, letsOf, letU, snd, List.append_nil]); rfl) (.ite (fun h1 => .callV c_works (fun g => hV.mono g.R) (.env (by (try simp only [liE, letsOf, letU, snd, List.append_nil]); rfl) (.ret rfl rfl))) (fun h1 => ?_)) <;> ((try simp only [evE, liE, letsOf, letU, snd] at h1); (try simp only [cmE] at h1))
  obtain ⟨hg, hst, hc⟩ := hb h1
  clear hb
  have hgW := goodW_of hg
  have hwlen : (l.map (·.w)).length = l.length := List.length_map _
  have hl4 : l.length ≤ 4 := by have := hgW.1; omega
  have hw8 : wordsE 8 (l.map (·.w)) = 0 := good_words hg (by omega)
  have hL : checkL (l.map (·.w)) = 0 := (wordsE_zero hw8).2
  have hw32 := wl_32 hL
  refine .callE (c_choice p ps cp cs l st (by omega) (fun x hx => by have := (hgW.2 x.w (List.mem_map_of_mem hx)).1; omega) (by omega)) (fun g => ⟨hp.1.mono g.R, hp.2.2.1.mono g.R⟩) ?_
  rintro v mq m1 hle1 hq1 ⟨q1, k1, t1, rfl, hT1, hal1, hn1⟩
  refine ⟨[.p q1, .i (t1.length : Nat), .i k1], uOk_of rfl, (slv_fresh _ _ _ _ _).symm, .env (by (try simp only [liE, letsOf, letU, snd, List.append_nil]); rfl) ?_⟩
  have hT1 := hT1.le' hq1
  have hok1 := tabOk_len hT1 hal1 (by omega)
  refine .callE (c_Refine p q1 pc cp k1 cc l t1 ws gap (by omega) hok (by omega) (fun r hr => (hok1 r hr).1)) (fun g => ⟨hp.1.mono g.R, hT1.reads g, hp.2.1.mono g.R, hV.mono g.R⟩) ?_
  rintro v mq m2 hle2 hq2 ⟨q2, k2, t2, e2, rfl, hQ2, hT2⟩
  have hRef : ∀ {ts us : List IR} {e : Int}, isAl (l.map (·.w)) (ts.map (·.l)) = true → RefQ ws gap (l.map (·.w)) (ts.map (·.l)) (us.map (·.l)) e → RefR ws gap (l.map (·.w)) (ts.map (·.l)) (us.map (·.l)) ∧ e = 0 := fun hal h => by
    unfold RefQ at h
    rw [score_al hc hw8 hal, if_neg (by simp)] at h
    exact h
  obtain ⟨hR2, rfl⟩ := hRef hal1 hQ2
  obtain ⟨hal2, hcle, hceq, hfix⟩ := hR2.al hc (by omega) hal1
  refine ⟨[.p q2, .i (t2.length : Nat), .i k2, .i 0], uOk_of rfl, (tab_fresh _ _ _ _ _ _).symm, .env (by (try simp only [liE, letsOf, letU, snd, List.append_nil]); rfl) ?_⟩
  have hT1 := hT1.le' hle2
  have hT2 := hT2.le' hq2
  have hn2 := al_len hal2 (by omega) hw32
  rw [List.length_map] at hn2
  have hok2 := tabOk_len hT2 hal2 (by omega)
  refine .callE (c_Refine p q2 pc cp k2 cc l t2 ws gap (by omega) hok (by omega) (fun r hr => (hok2 r hr).1)) (fun g => ⟨hp.1.mono g.R, hT2.reads g, hp.2.1.mono g.R, hV.mono g.R⟩) ?_
  rintro v mq m3 hle3 hq3 ⟨q3, k3, t3, e3, rfl, hQ3, hT3⟩
  obtain ⟨hR3, rfl⟩ := hRef hal2 hQ3
  have h32 : t3.map (·.l) = t2.map (·.l) := hR3.det (.done _ hfix)
  refine ⟨[.p q3, .i (t3.length : Nat), .i k3, .i 0], uOk_of rfl, (tab_fresh _ _ _ _ _ _).symm, .env (by (try simp only [liE, letsOf, letU, snd, List.append_nil]); rfl) ?_⟩
  have hT1 := hT1.le' hle3
  have hT2 := hT2.le' hle3
  have hT3 := hT3.le' hq3
  clear hle1 hq1 hle2 hq2 hle3 hq3 hQ2 hQ3
  have ks1 := c_scoreOk p q1 pc cp k1 cc l t1 ws gap hok hc hw8 hal1 (by omega) (fun r hr => (hT1.rows r hr).le)
  have ks2 := c_scoreOk p q2 pc cp k2 cc l t2 ws gap hok hc hw8 hal2 (by omega) (fun r hr => (hT2.rows r hr).le)
  have hfk := fun k hk => fix_step hfix (k := k) hk
  generalize hM : costE ws gap (l.map (·.w)) (t1.map (·.l)) = M at *
  generalize hN : costE ws gap (l.map (·.w)) (t2.map (·.l)) = N at *
  refine .callV ks1 (fun g => ⟨hp.1.mono g.R, hT1.reads g, hp.2.1.mono g.R, hV.1.mono g.R⟩) (.env (by (try simp only [liE, letsOf, letU, snd, List.append_nil]); rfl) ?_)
  refine .callV ks2 (fun g => ⟨hp.1.mono g.R, hT2.reads g, hp.2.1.mono g.R, hV.1.mono g.R⟩) (.env (by (try simp only [liE, letsOf, letU, snd, List.append_nil]); rfl) ?_)
  have hn3 : t3.length = t2.length := by have := congrArg List.length h32; simpa using this
  have hb40 : ∀ {ts : List IR}, isAl (l.map (·.w)) (ts.map (·.l)) = true → ∀ r ∈ ts, r.l.length < 2 ^ 62 := fun hal r hr => by have := al_small hal (by omega) r hr; omega
  have kq := c_same q2 q3 k2 k3 t2 t3 (by omega) (by omega) (hb40 hal2) (hb40 (by rw [h32]; exact hal2))
  rw [h32, decide_eq_true rfl] at kq
  refine .join (fun us m => ∃ b, us = [.b b] ∧ b = false ∧ m3 = m) (.no (by ((try simp only [evE, liE, letsOf, letU, snd]); (try simp only [cmE])) <;> simp) (.callV kq (fun g => ⟨hT2.reads g, hT3.reads g⟩) (.env (by (try simp only [liE, letsOf, letU, snd, List.append_nil]); rfl) (.yes (by ((try simp only [evE, liE, letsOf, letU, snd]); (try simp only [cmE])); simp; omega) (.ite (fun h2 => ?_) (fun h2 => .again rfl ⟨_, rfl, rfl, rfl⟩)))))) ?_
  · ((try simp only [evE, liE, letsOf, letU, snd] at h2); (try simp only [cmE] at h2))
    have kq2 := c_same q2 q1 k2 k1 t2 t1 (by omega) (by omega) (hb40 hal2) (hb40 hal1)
    rw [hceq h2, decide_eq_true rfl] at kq2
    exact .callV kq2 (fun g => ⟨hT2.reads g, hT1.reads g⟩) (.env (by (try simp only [liE, letsOf, letU, snd, List.append_nil]); rfl) (.again rfl ⟨_, rfl, rfl, rfl⟩))
  rintro _ _ _ ⟨_, rfl, rfl, rfl⟩
  clear kq ks1 ks2
  refine .env (by (try simp only [liE, letsOf, letU, snd, List.append_nil]); rfl) (.no rfl (.chk (by ((try simp only [evE, liE, letsOf, letU, snd]); (try simp only [cmE])); omega) (.ite (fun h2 => ?_) (fun h2 => ?_)))) <;> ((try simp only [evE, liE, letsOf, letU, snd] at h2); (try simp only [cmE] at h2))
  · have hl0 : l = [] := List.length_eq_zero_iff.1 (by omega)
    have ht0 : t2.length = 0 := by
      rw [hl0] at hal2
      have := al_none hal2
      simpa using this
    refine .join (fun us m => us = [.b true]) (.chk (by ((try simp only [evE, liE, letsOf, letU, snd]); (try simp only [cmE])); omega) (.yes (by ((try simp only [evE, liE, letsOf, letU, snd]); (try simp only [cmE])); omega) (.callV c_works (fun g => hV.mono g.R) (.env (by (try simp only [liE, letsOf, letU, snd, List.append_nil]); rfl) (.again rfl rfl))))) ?_
    rintro _ _ _ rfl
    exact .env (by (try simp only [liE, letsOf, letU, snd, List.append_nil]); rfl) (.ret rfl rfl)
  · have hl0 : 0 < l.length := by omega
    obtain ⟨k, hk⟩ : ∃ k, l.length = k + 1 := ⟨l.length - 1, by omega⟩
    have hkl : k < l.length := by omega
    have hkW : k < (l.map (·.w)).length := by omega
    have hsub : ar .sub .i64 (l.length : Int) 1 = (k : Int) := by rw [subI (by omega) (by omega)]; omega
    have kw := c_Without p q2 cp k2 l t2 k (by omega) (by omega) hok (fun r hr => (hok2 r hr).1)
    rw [withoutE_ok (checkA_al hw8 hal2) hkW] at kw
    refine .chk (by ((try simp only [evE, liE, letsOf, letU, snd]); (try simp only [cmE])); omega) (.callE kw (fun g => ⟨hp.1.mono g.R, hT2.reads g⟩) ?_ (by show [_, _, Value.int .i64 (ar .sub .i64 (l.length : Int) 1)] = _; rw [hsub]; rfl))
    clear kw
    rintro v mq m4 hle4 hq4 ⟨q4, k4, t4, rfl, ht4, hT4⟩
    replace ht4 : t4.map (·.l) = withoutS (t2.map (·.l)) k := ht4
    refine ⟨[.p q4, .i (t4.length : Nat), .i k4, .i 0], uOk_of rfl, (tab_fresh _ _ _ _ _ _).symm, .env (by (try simp only [liE, letsOf, letU, snd, List.append_nil]); rfl) ?_⟩
    have hT4 := hT4.le' hq4
    have hn4 := withoutS_len (t2.map (·.l)) k
    rw [← ht4, List.length_map, List.length_map] at hn4
    have hWt : (l.map (·.w)).eraseIdx k = (l.take k).map (·.w) := by
      rw [List.eraseIdx_eq_take_drop_succ, List.drop_eq_nil_of_le (by omega), List.append_nil, List.map_take]
    have hal4 : isAl ((l.take k).map (·.w)) (t4.map (·.l)) = true := by rw [ht4, ← hWt]; exact without_al hkW hal2
    have htkl : (l.take k).length = k := by rw [List.length_take]; omega
    have hWs : (l.take k).map (·.w) ++ [l[k].w] = l.map (·.w) := by
      have : l.take k ++ [l[k]] = l := by
        have := List.take_succ_eq_append_getElem hkl
        rw [List.take_of_length_le (by omega)] at this
        exact this.symm
      conv => rhs; rw [← this]
      rw [List.map_append]; rfl
    have hLt : checkL ((l.take k).map (·.w)) = 0 := checkL_all fun w hw => by
      obtain ⟨y, hy, rfl⟩ := List.mem_map.1 hw
      exact checkL_zero hL _ (List.mem_map_of_mem (List.mem_of_mem_take hy))
    have hwk : checkW l[k].w = 0 := checkL_zero hL _ (List.mem_map_of_mem (List.getElem_mem hkl))
    have hok4 := tabOk_len hT4 hal4 (by rw [List.length_map]; omega)
    have kA := c_Add p q4 pc cp k4 cc (l.take k) l[k] t4 ws gap (by omega) (by omega) hpn (fun y hy => hok y (List.mem_of_mem_take hy)) (hok _ (List.getElem_mem hkl)) (by omega) (fun r hr => (hok4 r hr).1)
    rw [addA_ok hc (by rw [List.length_map]; omega) hLt hwk hal4, hWs, ht4, List.length_map, htkl] at kA
    have hadd : insE (columnE ws gap (l.map (·.w))) (withoutS (t2.map (·.l)) k) k k l[k].w.length = addR ws gap (l.map (·.w)) (t2.map (·.l)) k := by
      unfold addR; rw [hwlen, hk, getD_w l k hkl]; rfl
    rw [hadd] at kA
    refine .chk (by ((try simp only [evE, liE, letsOf, letU, snd]); (try simp only [cmE])); rw [hsub]; simp; omega) (.loadWD l k hkl (fun g => hp.1.1.mono g.R) (.env (by (try simp only [liE, letsOf, letU, snd, List.append_nil]); rfl) ?_) hsub)
    refine .callE kA (fun g => ⟨words_take (hp.1.mono g.R) _, hT4.reads g, hp.1.2 _ (List.getElem_mem hkl) |>.mono g.R, hp.2.1.mono g.R, hV.mono g.R⟩) ?_ (by
      show [Value.slice _ _ _, _, _, _] = _
      have := cut_den (p := p) (cp := cp) (n := l.length) hl0 (by omega)
      rw [show l.length - 1 = k by omega] at this
      rw [← this]; rfl)
    clear kA
    rintro v mq m5 hle5 hq5 ⟨q5, k5, t5, rfl, ht5, hT5⟩
    refine ⟨[.p q5, .i (t5.length : Nat), .i k5, .i 0], uOk_of rfl, (tab_fresh _ _ _ _ _ _).symm, .env (by (try simp only [liE, letsOf, letU, snd, List.append_nil]); rfl) ?_⟩
    have hT5 := hT5.le' hq5
    replace ht5 : t5.map (·.l) = addR ws gap (l.map (·.w)) (t2.map (·.l)) k := ht5
    have hal5 : isAl (l.map (·.w)) (t5.map (·.l)) = true := by rw [ht5]; exact addR_al hc (by omega) hkW hal2
    have hn5 := al_len hal5 (by omega) hw32
    rw [List.length_map] at hn5
    have ks5 := c_scoreOk p q5 pc cp k5 cc l t5 ws gap hok hc hw8 hal5 (by omega) (fun r hr => (hT5.rows r hr).le)
    have hO := hfk k hkW
    rw [← ht5] at hO
    generalize costE ws gap (l.map (·.w)) (t5.map (·.l)) = O at *
    refine .callV ks5 (fun g => ⟨hp.1.mono g.R, hT5.reads g, hp.2.1.mono g.R, hV.1.mono g.R⟩) (.env (by (try simp only [liE, letsOf, letU, snd, List.append_nil]); rfl) ?_)
    refine .join (fun us m => us = [.b true]) (.yes (by ((try simp only [evE, liE, letsOf, letU, snd]); (try simp only [cmE])); simp; omega) (.callV c_works (fun g => hV.mono g.R) (.env (by (try simp only [liE, letsOf, letU, snd, List.append_nil]); rfl) (.again rfl rfl)))) ?_
    rintro _ _ _ rfl
    exact .env (by (try simp only [liE, letsOf, letU, snd, List.append_nil]); rfl) (.ret rfl rfl)
end Go.Proofs.YtialbhieaipcgaaDoor
