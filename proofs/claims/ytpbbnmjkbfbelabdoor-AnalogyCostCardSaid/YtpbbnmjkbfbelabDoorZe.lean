/- Chapter 30: the law of one cost. -/
import Derived.Test.YtpbbnmjkbfbelabDoorZd
import Derived.Test.YtpbbnmjkbfbelabDoorTcCost
set_option linter.unusedSimpArgs false
set_option linter.unusedVariables false
namespace Go.Sy
open Go Go.RowKit
theorem expl_any {ms : List MD} {c d : List Snd} (h : chkM ms [c, d] = 0) : (explW ms c d).2.1 = ms.any (supM c d) ∧ (explW ms c d).2.2 = 0 := by
  unfold explW
  rw [if_neg (by simp [h]), ← any_index (supM c d) ms]
  cases ms.findIdx? (supM c d) with
  | none => exact ⟨rfl, rfl⟩
  | some i => exact ⟨(decide_eq_true (Int.natCast_nonneg i)).symm, rfl⟩
end Go.Sy
namespace Go.Proofs.YtpbbnmjkbfbelabDoor
open Go Go.Sy Go.RowKit
theorem c_good (q : Option Addr) (cq : Nat) (l : List WD) (h : ∀ x ∈ l, Wok x.w) (hl : l.length < 2 ^ 62) : RetP Tryd.prog n_law30_good [slv q l.length cq] (fun R => WordsAt R q l) (.bool (decide (checkL (l.map (·.w)) = 0))) := by
  refine Fn.of S_law30_good mx [.p q, .i l.length, .i cq] rfl rfl fun c hp => ?_
  refine .loop (fun n us _ => ∃ (e : Bool) (j : Nat), us = [.b e, .i j] ∧ n + j = l.length ∧ checkL ((l.map (·.w)).take j) = 0) l.length ⟨false, 0, rfl, rfl, rfl⟩ ?_
  rintro n _ m _ ⟨e, j, rfl, hn, hc⟩
  refine .env (by (try simp only [liE, lO, lU, snd, aN]); rfl) (.chk (by ((try simp only [evE, liE, lO, lU, snd]); (try simp only [cmE])); omega) (.ite (fun h1 => ?_) (fun h1 => .ret rfl ?_))) <;> ((try simp only [evE, liE, lO, lU, snd] at h1); (try simp only [cmE] at h1))
  · have hj : j < l.length := by omega
    have hbad : checkW l[j].w ≠ 0 → ¬ checkL (l.map (·.w)) = 0 := fun hne h0 => hne (checkL_zero h0 _ (List.mem_map_of_mem (List.getElem_mem hj)))
    refine .loadWD l j hj (fun g => hp.1.mono g.R) (.env (by (try simp only [liE, lO, lU, snd, aN]); rfl) (.chk (by ((try simp only [evE, liE, lO, lU, snd]); (try simp only [cmE])); omega) (.ite (fun h2 => .ret rfl ?_) (fun h2 => ?_)))) <;> ((try simp only [evE, liE, lO, lU, snd] at h2); (try simp only [cmE] at h2))
    · have : checkW l[j].w ≠ 0 := fun h0 => by have := (checkW_zero h0).1; omega
      rw [decide_eq_false (hbad this)]; rfl
    refine .loadWD l j hj (fun g => hp.1.mono g.R) (.env (by (try simp only [liE, lO, lU, snd, aN]); rfl) (.callV (c_wordCheck l[j].p l[j].cap l[j].w (h _ (List.getElem_mem hj))) (fun g => (hp.2 _ (List.getElem_mem hj)).mono g.R) (.env (by (try simp only [liE, lO, lU, snd, aN]); rfl) (.ite (fun h3 => .ret rfl ?_) (fun h3 => .again rfl ⟨n - 1, by omega, e, j + 1, ?_, by omega, ?_⟩))))) <;> ((try simp only [evE, liE, lO, lU, snd] at h3); (try simp only [cmE] at h3))
    · rw [decide_eq_false (hbad h3)]; rfl
    · (simp only [evE, liE, lO, lU, snd, Sh.uss, Sh.us, atAddr, map_add0, List.append_nil]); rw [add_i64 j (by omega)]
    · exact checkL_snoc (by simpa using hj) hc (by simpa using h3)
  · rw [List.take_of_length_le (by simp; omega)] at hc
    rw [decide_eq_true hc]; rfl
set_option maxHeartbeats 2000000 in
theorem l_AnalogyCost (p : Option Addr) (cp : Nat) (ms : List MD) (C G A : WD) (w g : Int) (hm : ModelsOk ms) (hc : Wok C.w) (hg : Wok G.w) (ha : Wok A.w) (oc : C.ok) (hl' : ms.length ≤ maxLen) (hwr : 0 ≤ w ∧ w < 256) (hgr : 0 ≤ g ∧ g < 256) :
    RetP Tryd.prog n_law30_AnalogyCost [slv p ms.length cp, C.v, .agg #[G.v, A.v], .int .u8 w, .int .u8 g] (fun R => ModelsAt R p ms ∧ WordAt R C.p C.w ∧ WordAt R G.p G.w ∧ WordAt R A.p A.w ∧ VarsAll R) (.bool true) := by
  refine Fn.of S_law30_AnalogyCost mx [.p p, .i ms.length, .i cp, .p C.p, .i C.w.length, .i C.cap, .p G.p, .i G.w.length, .i G.cap, .p A.p, .i A.w.length, .i A.cap, .i w, .i g] rfl rfl fun c hp => .alloc fun b0 => ?_
  obtain ⟨hM, hC, hG, hA, hV⟩ := hp
  have hok3 : ∀ x ∈ [C, G, A], Wok x.w := by
    intro x hx; simp only [List.mem_cons, List.not_mem_nil, or_false] at hx; rcases hx with rfl | rfl | rfl <;> assumption
  refine .join (fun us _ => ∃ x : Bool, us = [.b x] ∧ (x = false → ms.length ≤ 12 ∧ checkL [C.w, G.w, A.w] = 0)) (.chk (by ((try simp only [evE, liE, lO, lU, snd]); (try simp only [cmE])); omega) (.ite (fun h1 => .again rfl ⟨true, rfl, nofun⟩) (fun h1 => .alloc fun b1 => ?_))) ?_
  · ((try simp only [evE, liE, lO, lU, snd] at h1); (try simp only [cmE] at h1))
    refine .callV (c_good (some ⟨b1, 0, none⟩) 3 [C, G, A] hok3 (by simp)) (fun g => words3 (g.cells (j := 1) rfl rfl rfl) (hC.mono g.R) (hG.mono g.R) (hA.mono g.R)) (.env (by (try simp only [liE, lO, lU, snd, aN]); rfl) (.again rfl ⟨_, rfl, fun h => ⟨by omega, ?_⟩⟩))
    replace h : (!decide (checkL [C.w, G.w, A.w] = 0)) = false := h
    simpa using h
  rintro _ m0 _ ⟨x, rfl, hx⟩
  refine .env (by (try simp only [liE, lO, lU, snd, aN]); rfl) (.ite (fun h1 => .callV c_works (fun g => hV.2.2.mono g.R) (.env (by (try simp only [liE, lO, lU, snd, aN]); rfl) (.ret rfl rfl))) (fun h1 => ?_))
  obtain ⟨hl, hcd⟩ := hx (by simpa [BT.eval, Env.bool] using h1)
  refine .loop (fun n us _ => ∃ (e : Bool) (j : Nat), us = [.b e, .i j] ∧ n + j = ms.length ∧ ∀ i (hi : i < ms.length), i < j → checkL [ms[i].a.w, ms[i].b.w] = 0) ms.length ⟨false, 0, rfl, rfl, fun i hi h => by omega⟩ ?_
  rintro n _ m _ ⟨e, j, rfl, hn, hj0⟩
  refine .env (by (try simp only [liE, lO, lU, snd, aN]); rfl) (.chk (by ((try simp only [evE, liE, lO, lU, snd]); (try simp only [cmE])); omega) (.ite (fun h2 => ?_) (fun h2 => ?_))) <;> ((try simp only [evE, liE, lO, lU, snd] at h2); (try simp only [cmE] at h2))
  · have hj : j < ms.length := by omega
    have hcs := mcells_at ms j hj
    have hok := hm _ (List.getElem_mem hj)
    have hat := hM.2 _ (List.getElem_mem hj)
    obtain ⟨b, o, hpe⟩ := (hM.1.some (i := j * 2) (by rw [mcells_len]; omega) : ∃ b o, p = some ⟨b, o, none⟩)
    have k1 : ∀ ρ : Env, ρ.ptr 0 = p → ρ.int 1 = (ms.length : Int) → ρ.int 16 = (j : Int) → (BT.pick (.cmp .geq (.var 16) (.lit 0)) (.pick (.cmp .lss (.var 16) (.var 1)) (.some 0) (.lit false)) (.lit false)).eval ρ = true := fun ρ e1 e2 e3 => by
      simp only [BT.eval, IT.eval, e1, e2, e3, hpe, cm, pick_and]; simp; omega
    have k2 : ∀ ρ : Env, ρ.ptr 0 = p → ρ.int 16 = (j : Int) → (BT.pick (.cmp .geq (.off (.var 16) 2 (.lit 0)) (.lit 0)) (.some 0) (.lit false)).eval ρ = true := fun ρ e1 e3 => by
      simp only [BT.eval, IT.eval, e1, e3, hpe, cm, pick_and]; simp; omega
    refine .chk (k1 _ rfl rfl rfl) (.chk (k2 _ rfl rfl) (.loadS (mcells ms) (j * 2) ms[j].a.p ms[j].a.w.length ms[j].a.cap ?_ hcs.1 (fun g => hM.1.mono g.R) (.env (by (try simp only [liE, lO, lU, snd, aN]); rfl) (.chk (k1 _ rfl rfl rfl) (.chk (k2 _ rfl rfl) (.loadS (mcells ms) (j * 2 + 1) ms[j].b.p ms[j].b.w.length ms[j].b.cap ?_ hcs.2 (fun g => hM.1.mono g.R) (.env (by (try simp only [liE, lO, lU, snd, aN]); rfl) (.alloc fun b1 => ?_))))))))
    · simp only [IT.eval, Env.int]; simp
    · simp only [IT.eval, Env.int]; simp <;> omega
    refine .callV (c_good (some ⟨b1, 0, none⟩) 2 [ms[j].a, ms[j].b] (by simp [hok.1, hok.2.1]) (by simp)) (fun g => words2 (g.cells (j := 1) rfl rfl rfl) (hat.1.mono g.R) (hat.2.mono g.R)) (.env (by (try simp only [liE, lO, lU, snd, aN]); rfl) (.ite (fun h3 => .callV c_works (fun g => hV.2.2.mono g.R) (.env (by (try simp only [liE, lO, lU, snd, aN]); rfl) (.ret rfl rfl))) (fun h3 => .again rfl ⟨n - 1, by omega, e, j + 1, ?_, by omega, fun i hi hij => ?_⟩)))
    · (simp only [evE, liE, lO, lU, snd, Sh.uss, Sh.us, atAddr, map_add0, List.append_nil]); rw [add_i64 j (by omega)]
    · replace h3 : (!decide (checkL [ms[j].a.w, ms[j].b.w] = 0)) = false := h3
      rcases Nat.lt_or_ge i j with h | h
      · exact hj0 i hi h
      · have : i = j := by omega
        subst this; simpa using h3
  have hmm : ∀ x ∈ ms, checkW x.a.w = 0 ∧ checkW x.b.w = 0 := fun x hx => by
    obtain ⟨i, hi, rfl⟩ := List.mem_iff_getElem.1 hx
    have := checkL_zero (hj0 i hi (by omega))
    exact ⟨this _ (List.mem_cons_self ..), this _ (List.mem_cons_of_mem _ (List.mem_cons_self ..))⟩
  clear hj0 h2
  have hcw := checkL_zero hcd
  simp only [List.mem_cons, List.not_mem_nil, or_false, forall_eq_or_imp, forall_eq] at hcw
  obtain ⟨wC, wG, wA⟩ := hcw
  have kA : chkM ms [C.w, G.w, A.w] = 0 := chkM_of (by omega) hmm (by simp [wC, wG, wA])
  have kN : chkM [] [C.w, G.w, A.w] = 0 := chkM_of (by simp) (by simp) (by simp [wC, wG, wA])
  have kG : chkM ms [C.w, G.w, G.w] = 0 := chkM_of (by omega) hmm (by simp [wC, wG])
  have kE : chkM ms [C.w, A.w] = 0 := chkM_of (by omega) hmm (by simp [wC, wA])
  have lG := (checkW_zero wG).1
  have lA := (checkW_zero wA).1
  have hw' : IntKind.i64.wrap w = w := wrap_i64 (by omega) (by omega)
  have hg' : IntKind.i64.wrap g = g := wrap_i64 (by omega) (by omega)
  have hcc : checkC [w, w, w] g = 0 := by
    have hb : badW w = false := by unfold badW; rw [decide_eq_false (by omega), decide_eq_false (by omega)]; rfl
    unfold checkC
    rw [if_neg]
    simp only [List.any_cons, List.any_nil, hb, List.length_cons, List.length_nil]
    rintro (h | h | h | h) <;> first | omega | cases h
  have hcc' : checkC [IntKind.i64.wrap w, IntKind.i64.wrap w, IntKind.i64.wrap w] (IntKind.i64.wrap g) = 0 := by rw [hw', hg']; exact hcc
  have D0 := two_cost (r := G.w) (a := A.w) hcc' lG
  rw [hg'] at D0
  refine .alloc fun b1 => .alloc fun b2 => .envL (by simp only [List.nil_append, List.cons_append]; rfl) ?_
  have cM := c_costM p (some ⟨b1, 0, none⟩) cp 3 ms C G A [IntKind.i64.wrap w, IntKind.i64.wrap w, IntKind.i64.wrap w] (IntKind.i64.wrap g) hm hc hg ha oc (by omega) (by omega)
  have cN := c_costM none (some ⟨b1, 0, none⟩) 0 3 [] C G A [IntKind.i64.wrap w, IntKind.i64.wrap w, IntKind.i64.wrap w] (IntKind.i64.wrap g) (by intro x hx; cases hx) hc hg ha oc (by simp) (by omega)
  have cG := c_costM p (some ⟨b1, 0, none⟩) cp 3 ms C G G [IntKind.i64.wrap w, IntKind.i64.wrap w, IntKind.i64.wrap w] (IntKind.i64.wrap g) hm hc hg hg oc (by omega) (by omega)
  have cE := c_Explain p cp ms C A hm hc ha oc (by omega)
  have kP := c_Progressive (some ⟨b0, 0, none⟩) (some ⟨b1, 0, none⟩) 2 3 [G, A] [IntKind.i64.wrap w, IntKind.i64.wrap w, IntKind.i64.wrap w] (IntKind.i64.wrap g) (by simp) (by simp) (fun x hx => hok3 x (List.mem_cons_of_mem _ hx))
  simp only [List.map_cons, List.map_nil] at kP
  have hw8 := chkM_words kA
  rw [two_prog hcc' hw8] at kP
  obtain ⟨e1, e2⟩ := expl_any kE
  rw [costM_ok hcc' kA] at cM
  rw [costM_ok hcc' kN] at cN
  rw [costM_ok hcc' kG, if_pos rfl] at cG
  generalize explW ms C.w A.w = X at cE e1 e2
  obtain ⟨x1, x2, x3⟩ := X
  obtain rfl : x2 = ms.any (supM C.w A.w) := e1
  obtain rfl : x3 = 0 := e2
  generalize ms.any (supM C.w A.w) = an at cM cE
  simp only [List.any_nil, Bool.false_eq_true, if_false] at cN
  refine .callV cM (fun q => ⟨hM.mono q.R, hC.mono q.R, hG.mono q.R, hA.mono q.R, q.cells (j := 1) rfl rfl rfl, hV.mono q.R⟩) (.env (by (try simp only [liE, lO, lU, snd, aN]); rfl) ?_)
  refine .callV cN (fun q => ⟨⟨fun i x h => by simp [mcells] at h, fun x hx => by cases hx⟩, hC.mono q.R, hG.mono q.R, hA.mono q.R, q.cells (j := 1) rfl rfl rfl, hV.mono q.R⟩) (.env (by (try simp only [liE, lO, lU, snd, aN]); rfl) ?_)
  refine .callV cG (fun q => ⟨hM.mono q.R, hC.mono q.R, hG.mono q.R, hG.mono q.R, q.cells (j := 1) rfl rfl rfl, hV.mono q.R⟩) (.env (by (try simp only [liE, lO, lU, snd, aN]); rfl) ?_)
  refine .callV cE (fun q => ⟨hM.mono q.R, hC.mono q.R, hA.mono q.R, hV.2.2.mono q.R⟩) (.env (by (try simp only [liE, lO, lU, snd, aN]); rfl) ?_)
  refine .sliceAll 2 (by decide) (by kernel_rfl) (by kernel_rfl) (by kernel_rfl) rfl (.env (by (try simp only [liE, lO, lU, snd, aN]); rfl) ?_)
  refine .callE kP (fun q => ⟨words2 (q.cells (j := 0) rfl rfl rfl) (hG.mono q.R) (hA.mono q.R), q.cells (j := 1) rfl rfl rfl, hV.1.mono q.R, hV.2.1.mono q.R⟩) ?_
  clear kP
  rintro v mq m1 hle hq ⟨q1, k1, t1, rfl, ht1, hT1⟩
  refine ⟨[.p q1, .i (t1.length : Nat), .i k1, .i 0], uOk_of rfl, (tab_fresh _ _ _ _ _ _).symm, .env (by (try simp only [liE, lO, lU, snd, aN]); rfl) ?_⟩
  replace ht1 : t1.map (·.l) = progE [IntKind.i64.wrap w, IntKind.i64.wrap w, IntKind.i64.wrap w] (IntKind.i64.wrap g) [G.w, A.w] 2 := ht1
  have hT1 := hT1.le' hq
  clear hle hq
  have hal : isAl [G.w, A.w] (t1.map (·.l)) = true := by rw [ht1]; exact two_al hcc'
  have hn1 := al_len hal (by simp) (wl_32 (wordsE_zero hw8).2)
  rw [List.length_map] at hn1
  have hok1 : ∀ r ∈ t1, r.l.length = 2 := fun r hr => (isAl_ent hal r.l (List.mem_map_of_mem hr)).1
  have kS := c_Score (some ⟨b0, 0, none⟩) q1 (some ⟨b1, 0, none⟩) 2 k1 3 [G, A] t1 [IntKind.i64.wrap w, IntKind.i64.wrap w, IntKind.i64.wrap w] (IntKind.i64.wrap g) (by simp) (fun x hx => hok3 x (List.mem_cons_of_mem _ hx)) (by omega) (fun r hr => by rw [hok1 r hr]; decide) (fun r hr => (hT1.rows r hr).le)
  simp only [List.map_cons, List.map_nil] at kS
  rw [score_al hcc' hw8 hal, ht1] at kS
  clear cM cN cG cE
  have D1 := hg'
  generalize hD : costE [IntKind.i64.wrap w, IntKind.i64.wrap w, IntKind.i64.wrap w] (IntKind.i64.wrap g) [G.w, A.w] (progE [IntKind.i64.wrap w, IntKind.i64.wrap w, IntKind.i64.wrap w] (IntKind.i64.wrap g) [G.w, A.w] 2) = D at kS ⊢
  have D0 : D ≤ g * ((G.w.length : Int) + (A.w.length : Int)) := by
    have := two_cost (r := G.w) (a := A.w) hcc' lG
    rw [hD, hg'] at this; exact this
  refine .sliceAll 2 (by decide) (by kernel_rfl) (by kernel_rfl) (by kernel_rfl) rfl (.env (by (try simp only [liE, lO, lU, snd, aN]); rfl) ?_)
  refine .callV kS (fun q => ⟨words2 (q.cells (j := 0) rfl rfl rfl) (hG.mono q.R) (hA.mono q.R), hT1.reads q, q.cells (j := 1) rfl rfl rfl, hV.1.mono q.R⟩) (.env (by (try simp only [liE, lO, lU, snd, aN]); rfl) (.no rfl ?_))
  clear kS
  refine .callV (c_wordEqual G.p A.p G.cap A.cap G.w A.w (by omega)) (fun q => ⟨hG.mono q.R, hA.mono q.R⟩) (.env (by (try simp only [liE, lO, lU, snd, aN]); rfl) (.ite (fun h3 => ?_) (fun h3 => ?_)))
  · replace h3 : decide (G.w = A.w) = true := h3
    have h3 := of_decide_eq_true h3
    rw [if_pos h3, if_pos h3]
    refine .join (fun us _ => us = [.b true]) (.yes rfl (.callV c_works (fun q => hV.2.2.mono q.R) (.env (by (try simp only [liE, lO, lU, snd, aN]); rfl) (.again rfl rfl)))) ?_
    rintro _ _ _ rfl
    exact .env (by (try simp only [liE, lO, lU, snd, aN]); rfl) (.ret rfl rfl)
  · replace h3 : decide (G.w = A.w) = false := h3
    have h3 := of_decide_eq_false h3
    rw [if_neg h3, if_neg h3]
    refine .join (fun us _ => us = [.i (if an = true then min D (IntKind.i64.wrap g) else D)]) (.ite (fun h4 => .again rfl ?_) (fun h4 => .again rfl ?_)) ?_
    · replace h4 : an = true := h4
      rw [if_pos h4, ← mn_min]; rfl
    · replace h4 : an = false := h4
      rw [if_neg (by simp [h4])]; rfl
    rintro _ _ _ rfl
    refine .env (by (try simp only [liE, lO, lU, snd, aN]); rfl) (.join (fun us _ => us = [.b true]) (.yes ?_ (.chk (by ((try simp only [evE, liE, lO, lU, snd]); (try simp only [cmE])); omega) (.chk (by ((try simp only [evE, liE, lO, lU, snd]); (try simp only [cmE])); omega) (.yes ?_ (.callV c_works (fun q => hV.2.2.mono q.R) (.env (by (try simp only [liE, lO, lU, snd, aN]); rfl) (.again rfl rfl))))))) ?_)
    · show (bif cm .eql D D then cm .eql (if an = true then min D (IntKind.i64.wrap g) else D) (if an = true then min D (IntKind.i64.wrap g) else D) else false) = true
      simp [cm]
    · have hmul : g * ((G.w.length : Int) + (A.w.length : Int)) ≤ 256 * 64 := Int.mul_le_mul (by omega) (by omega) (by omega) (by omega)
      have hmul0 : 0 ≤ g * ((G.w.length : Int) + (A.w.length : Int)) := Int.mul_nonneg (by omega) (by omega)
      show decide (D ≤ ar .mul .i64 (IntKind.i64.wrap g) (ar .add .i64 (G.w.length : Int) (A.w.length : Int))) = true
      rw [hg', addI (by omega) (by omega), mulI (by omega) (by omega)]
      exact decide_eq_true D0
    rintro _ _ _ rfl
    exact .env (by (try simp only [liE, lO, lU, snd, aN]); rfl) (.ret rfl rfl)
end Go.Proofs.YtpbbnmjkbfbelabDoor
