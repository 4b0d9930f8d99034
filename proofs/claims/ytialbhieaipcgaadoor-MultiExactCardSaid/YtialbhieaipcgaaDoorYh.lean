/- Chapter 18: no alignment is cheaper than that of Exact. -/
import Derived.Test.YtialbhieaipcgaaDoorYg
import Derived.Test.YtialbhieaipcgaaDoorTcExact
set_option linter.unusedSimpArgs false
set_option linter.unusedVariables false
namespace Go.Proofs.YtialbhieaipcgaaDoor
open Go Go.Sy Go.RowKit
set_option maxHeartbeats 1000000 in
theorem l_MultiExact (p pc ps : Option Addr) (cp cc cs : Nat) (l : List WD) (ws : List Int) (gap : Int) (st : List Int) (hl : l.length < 2 ^ 63) (hlc : l.length ≤ cp) (hok : ∀ x ∈ l, Wok x.w) (hw : ∀ x ∈ l, x.w.length < 2 ^ 63) (hst : st.length < 2 ^ 63) :
    RetP Tryd.prog n_law18_MultiExact [slv p l.length cp, costs pc ws.length cc gap, slv ps st.length cs] (fun R => WordsAt R p l ∧ CostsAt R pc ws ∧ Cells R ps (st.map (.int .u8)) ∧ VarsOk R) (.bool true) := by
  refine Fn.of S_law18_MultiExact mx [.p p, .i l.length, .i cp, .p pc, .i ws.length, .i cc, .i gap, .p ps, .i st.length, .i cs] rfl rfl fun c hp => .alloc fun b0 => ?_
  have hV := hp.2.2.2
  refine .join (fun us m => ∃ b, us = [.b b] ∧ (b = false → goodW 3 6 (l.map (·.w)) = true ∧ st.length ≤ 100 ∧ checkC ws gap = 0) ∧ Mem.emp = m) ?_ ?_
  · refine .callV (c_good p cp l 3 6 hl hok hw) (fun g => hp.1.mono g.R) (.env (by (try simp only [liE, letsOf, letU, snd, List.append_nil]); rfl) (.ite (fun h1 => .again rfl ⟨true, rfl, nofun, rfl⟩) (fun h1 => .chk (by ((try simp only [evE, liE, letsOf, letU, snd]); (try simp only [cmE])); omega) (.ite (fun h2 => .again rfl ⟨true, rfl, nofun, rfl⟩) (fun h2 => .callV (c_checkCosts pc cc ws gap) (fun g => hp.2.1.mono g.R) ?_))))) <;> ((try simp only [evE, liE, letsOf, letU, snd] at h1); (try simp only [cmE] at h1))
    ((try simp only [evE, liE, letsOf, letU, snd] at h2); (try simp only [cmE] at h2))
    refine .env (by (try simp only [liE, letsOf, letU, snd, List.append_nil]); rfl) (.again rfl ⟨_, rfl, fun h3 => ⟨h1, by omega, by ((try simp only [evE, liE, letsOf, letU, snd] at h3); (try simp only [cmE] at h3)); exact h3⟩, rfl⟩)
  rintro _ _ _ ⟨b, rfl, hb, rfl⟩
  refine .env (by (try simp only [liE, letsOf, letU, snd, List.append_nil]); rfl) (.ite (fun h1 => .callV c_works (fun g => hV.mono g.R) (.env (by (try simp only [liE, letsOf, letU, snd, List.append_nil]); rfl) (.ret rfl rfl))) (fun h1 => ?_)) <;> ((try simp only [evE, liE, letsOf, letU, snd] at h1); (try simp only [cmE] at h1))
  obtain ⟨hg, hst, hc⟩ := hb h1
  clear hb
  have hgW := goodW_of hg
  have hwlen : (l.map (·.w)).length = l.length := List.length_map _
  have hl3 : l.length ≤ 3 := by have := hgW.1; omega
  have hW3 : (l.map (·.w)).length ≤ 3 := by omega
  have hw8 : wordsE 8 (l.map (·.w)) = 0 := good_words hg (by omega)
  have hexal := (outX_is hc hW3 (remX (endX (l.map (·.w))) p0) p0 (p0_le _) (Nat.le_refl _))
  have hexA := hexal.1.al
  have hpral := progE_al hc (l.map (·.w)) (by omega) (l.map (·.w)).length (Nat.le_refl _)
  rw [List.take_length] at hpral
  have hsame := fun h2 => exact_prog hc (l.map (·.w)) h2
  have hEs := exactA_small ws gap (l.map (·.w))
  have hPs := progA_small ws gap (l.map (·.w))
  rw [exactA_ok hc hg] at hEs
  rw [progA_ok hc hw8] at hPs
  have hexl := outX_len (cX ws gap (l.map (·.w))) (endX (l.map (·.w))) (colX (l.map (·.w)).length) (remX (endX (l.map (·.w))) p0) p0
  have hprl := progE_len ws gap (l.map (·.w)) (l.map (·.w)).length
  have hsl := sumL_le (words_len (wordsE_zero hw8).2) (l.map (·.w)).length (Nat.le_refl _)
  have hrem : remX (endX (l.map (·.w))) p0 ≤ 18 := by
    have h6 := end_six (W := l.map (·.w)) fun k hk => by have := (hgW.2 _ (List.getElem_mem hk)).1; omega
    have a := h6 0 (by decide)
    have b := h6 1 (by decide)
    have d := h6 2 (by decide)
    simp only [at3] at a b d
    show (endX (l.map (·.w))).1 - 0 + ((endX (l.map (·.w))).2.1 - 0) + ((endX (l.map (·.w))).2.2 - 0) ≤ 18
    omega
  have kE := c_Exact p pc cp cc l ws gap (by omega) hok
  rw [exactA_ok hc hg] at kE
  have kP := c_Progressive p pc cp cc l ws gap (by omega) hlc hok
  rw [progA_ok hc hw8] at kP
  have hleast : ∀ cols, isAl (l.map (·.w)) cols = true → EX (cX ws gap (l.map (·.w))) (endX (l.map (·.w))) p0 ≤ costE ws gap (l.map (·.w)) cols := fun cols h => EX_least hc hW3 cols p0 (p0_le _) (.of h)
  have hcost := hexal.2
  generalize outX (cX ws gap (l.map (·.w))) (endX (l.map (·.w))) (colX (l.map (·.w)).length) (remX (endX (l.map (·.w))) p0) p0 = O at *
  generalize EX (cX ws gap (l.map (·.w))) (endX (l.map (·.w))) p0 = n at *
  generalize hPR : progE ws gap (l.map (·.w)) (l.map (·.w)).length = Q at *
  dsimp only at kE kP hEs hPs
  clear hexal hPR
  refine .callE kE (fun g => ⟨hp.1.mono g.R, hp.2.1.mono g.R, hV.1.mono g.R⟩) ?_
  rintro v mq1 m1 hle1 hq1 ⟨q1, k1, t1, rfl, ht1, hT1⟩
  refine ⟨[.p q1, .i (t1.length : Nat), .i k1, .i n, .i 0], uOk_of rfl, (ext_fresh _ _ _ _ _ _ _).symm, .env (by (try simp only [liE, letsOf, letU, snd, List.append_nil]); rfl) ?_⟩
  have hT1 := hT1.le' hq1
  have ht1l := congrArg List.length ht1
  rw [List.length_map] at ht1l
  have ks := c_scoreOk p q1 pc cp k1 cc l t1 ws gap hok hc hw8 (by rw [ht1]; exact hexA) (by omega) (fun r hr => (hT1.rows r hr).le)
  rw [ht1, hcost] at ks
  refine .callV ks (fun g => ⟨hp.1.mono g.R, hT1.reads g, hp.2.1.mono g.R, hV.1.mono g.R⟩) (.env (by (try simp only [liE, letsOf, letU, snd, List.append_nil]); rfl) ?_)
  refine .callE (c_choice p ps cp cs l st (by omega) (fun x hx => by have := (hgW.2 x.w (List.mem_map_of_mem hx)).1; omega) (by omega)) (fun g => ⟨hp.1.mono g.R, hp.2.2.1.mono g.R⟩) ?_
  rintro v mq2 m2 hle2 hq2 ⟨q2, k2, t2, rfl, hT2, hal2, ht2l⟩
  refine ⟨[.p q2, .i (t2.length : Nat), .i k2], uOk_of rfl, (slv_fresh _ _ _ _ _).symm, .env (by (try simp only [liE, letsOf, letU, snd, List.append_nil]); rfl) ?_⟩
  have hT1 := hT1.le' hle2
  have hT2 := hT2.le' hq2
  have ks2 := c_scoreOk p q2 pc cp k2 cc l t2 ws gap hok hc hw8 hal2 (by omega) (fun r hr => (hT2.rows r hr).le)
  have hn2 := hleast _ hal2
  generalize costE ws gap (l.map (·.w)) (t2.map (·.l)) = o at ks2 hn2
  refine .callV ks2 (fun g => ⟨hp.1.mono g.R, hT2.reads g, hp.2.1.mono g.R, hV.1.mono g.R⟩) (.env (by (try simp only [liE, letsOf, letU, snd, List.append_nil]); rfl) ?_)
  refine .callE kP (fun g => ⟨hp.1.mono g.R, hp.2.1.mono g.R, hV.1.mono g.R, hV.2.mono g.R⟩) ?_
  rintro v mq3 m3 hle3 hq3 ⟨q3, k3, t3, rfl, ht3, hT3⟩
  refine ⟨[.p q3, .i (t3.length : Nat), .i k3, .i 0], uOk_of rfl, (tab_fresh _ _ _ _ _ _).symm, .env (by (try simp only [liE, letsOf, letU, snd, List.append_nil]); rfl) ?_⟩
  have hT1 := hT1.le' hle3
  have hT3 := hT3.le' hq3
  have ht3l := congrArg List.length ht3
  rw [List.length_map] at ht3l
  have ks3 := c_scoreOk p q3 pc cp k3 cc l t3 ws gap hok hc hw8 (by rw [ht3]; exact hpral) (by omega) (fun r hr => (hT3.rows r hr).le)
  have hn3 := hleast _ hpral
  rw [ht3] at ks3
  generalize costE ws gap (l.map (·.w)) Q = q at ks3 hn3
  refine .callV ks3 (fun g => ⟨hp.1.mono g.R, hT3.reads g, hp.2.1.mono g.R, hV.1.mono g.R⟩) (.env (by (try simp only [liE, letsOf, letU, snd, List.append_nil]); rfl) ?_)
  refine .no (by ((try simp only [evE, liE, letsOf, letU, snd]); (try simp only [cmE])); simp; omega) (.join (fun us m => us = [.b true]) (.chk (by ((try simp only [evE, liE, letsOf, letU, snd]); (try simp only [cmE])); omega) (.ite (fun h1 => .callV c_works (fun g => hV.mono g.R) (.env (by (try simp only [liE, letsOf, letU, snd, List.append_nil]); rfl) (.again rfl rfl))) (fun h1 => ?_))) ?_)
  · ((try simp only [evE, liE, letsOf, letU, snd] at h1); (try simp only [cmE] at h1))
    have hOQ := hsame (by omega)
    have kq := c_same q1 q3 k1 k3 t1 t3 (by omega) (by omega) (fun r hr => by have := hEs.2 r.l (by rw [← ht1]; exact List.mem_map_of_mem hr); omega) (fun r hr => by have := hPs.2 r.l (by rw [← ht3]; exact List.mem_map_of_mem hr); omega)
    rw [ht1, ht3, hOQ, decide_eq_true rfl] at kq
    refine .callV kq (fun g => ⟨hT1.reads g, hT3.reads g⟩) (.env (by (try simp only [liE, letsOf, letU, snd, List.append_nil]); rfl) (.yes rfl (.callV c_works (fun g => hV.mono g.R) (.env (by (try simp only [liE, letsOf, letU, snd, List.append_nil]); rfl) (.again rfl rfl)))))
  · rintro _ _ _ rfl
    exact .env (by (try simp only [liE, letsOf, letU, snd, List.append_nil]); rfl) (.ret rfl rfl)
end Go.Proofs.YtialbhieaipcgaaDoor
