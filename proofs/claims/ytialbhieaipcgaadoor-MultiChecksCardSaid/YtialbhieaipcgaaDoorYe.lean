/- Chapter 18: the law of checks. -/
import Derived.Test.YtialbhieaipcgaaDoorYd
set_option linter.unusedSimpArgs false
set_option linter.unusedVariables false
namespace Go.Proofs.YtialbhieaipcgaaDoor
open Go Go.Sy Go.RowKit
theorem cells_eq (p q : Option Addr) (cp cq : Nat) (a b ls : List CE) (h1 : a = ls) (h2 : b = ls) (h : ls.length < 2 ^ 62) : RetP Tryd.prog n_law18_cells [slv p a.length cp, slv q b.length cq] (fun R => Cells R p (ccells a) ∧ Cells R q (ccells b)) (.bool true) := by
  subst h1; subst h2; exact c_cells p q cp cq _ h
set_option maxHeartbeats 1000000 in
theorem l_MultiChecks (p pc : Option Addr) (cp cc : Nat) (l : List WD) (rs : List IR) (k : Int) (hl : l.length < 2 ^ 63) (hr : rs.length < 2 ^ 63) (hok : ∀ x ∈ l, Wok x.w) (hw : ∀ x ∈ l, x.w.length < 2 ^ 63) (hrl : ∀ r ∈ rs, r.l.length < 2 ^ 63) (hrc : ∀ r ∈ rs, r.l.length ≤ r.cap ∧ (r.p = none → r.cap = 0)) :
    RetP Tryd.prog n_law18_MultiChecks [slv p l.length cp, slv pc rs.length cc, .int .i64 k] (fun R => WordsAt R p l ∧ RowsAt R pc rs ∧ VarsOk R) (.bool true) := by
  refine Fn.of S_law18_MultiChecks mx [.p p, .i l.length, .i cp, .p pc, .i rs.length, .i cc, .i k] rfl rfl fun c hp => ?_
  have hV := hp.2.2
  refine .callV (c_few p pc cp cc l rs hl hr hw hrl) (fun g => ⟨hp.1.mono g.R, hp.2.1.mono g.R⟩) (.env (by (try simp only [liE, letsOf, letU, snd, List.append_nil]); rfl) (.ite (fun h1 => .callV c_works (fun g => hV.mono g.R) (.env (by (try simp only [liE, letsOf, letU, snd, List.append_nil]); rfl) (.ret rfl rfl))) (fun h1 => ?_))) <;> ((try simp only [evE, liE, letsOf, letU, snd] at h1); (try simp only [cmE] at h1))
  obtain ⟨f1, f2, f3, f4⟩ := few_of h1
  rw [List.length_map] at f1 f2
  have hw' : ∀ x ∈ l, x.w.length < 2 ^ 62 := fun x hx => by have := f3 _ (List.mem_map_of_mem hx); omega
  have hrl' : ∀ r ∈ rs, r.l.length < 2 ^ 62 := fun x hx => by have := f4 _ (List.mem_map_of_mem hx); omega
  have hrok : ∀ r ∈ rs, r.ok := fun r hr => ⟨(hrc r hr).1, (hrc r hr).2, by have := f4 _ (List.mem_map_of_mem hr); omega⟩
  have hclen : (rs.map (·.l)).length = rs.length := List.length_map _
  have hwlen : (l.map (·.w)).length = l.length := List.length_map _
  have k1 := c_Row p pc cp cc l rs k (by omega) (by omega) hok hrl'
  have k2 := c_refRow p pc cp cc l rs k (by omega) (by omega) hok hw' hrl'
  have k3 := c_Cells p pc cp cc l rs (by omega) (by omega) hok hrl'
  have k4 := c_refCells p pc cp cc l rs (by omega) (by omega) hok hw' hrl'
  have k5 := c_Without p pc cp cc l rs k (by omega) (by omega) hok hrok
  have k6 := c_refWithoutX p pc cp cc l rs k (by omega) (by omega) hok hw' hrok
  have hsX : (rowCA (l.map (·.w)) (rs.map (·.l)) k).1.length ≤ 300 := by
    unfold rowCA
    split
    · exact Nat.zero_le _
    · split
      · exact Nat.zero_le _
      · rw [rowC_len, hclen]; exact f2
  have hsY : (cellsA (l.map (·.w)) (rs.map (·.l))).1.length ≤ 300 ∧ ∀ x ∈ (cellsA (l.map (·.w)) (rs.map (·.l))).1, x.length ≤ 20 := by
    unfold cellsA
    split
    · exact ⟨Nat.zero_le _, fun x hx => by cases hx⟩
    · refine ⟨by rw [List.length_map, hclen]; exact f2, fun x hx => ?_⟩
      obtain ⟨c, _, rfl⟩ := List.mem_map.1 hx
      rw [colC_len, hwlen]; exact f1
  have hsZ := withoutE_small (W := l.map (·.w)) (cols := rs.map (·.l)) k (by omega) (fun c hc => by have := f4 c hc; omega)
  generalize rowCA (l.map (·.w)) (rs.map (·.l)) k = X at k1 k2 hsX
  generalize cellsA (l.map (·.w)) (rs.map (·.l)) = Y at k3 k4 hsY
  generalize withoutE (l.map (·.w)) (rs.map (·.l)) k = Z at k5 k6 hsZ
  refine .callE k1 (fun g => ⟨hp.1.mono g.R, hp.2.1.mono g.R⟩) ?_
  rintro v mq m1 hle1 hq1 ⟨q1, d1, rfl, hR1⟩
  refine ⟨[.p q1, .i (X.1.length : Nat), .i d1, .i X.2], uOk_of rfl, (tab_fresh _ _ _ _ _ _).symm, .env (by (try simp only [liE, letsOf, letU, snd, List.append_nil]); rfl) ?_⟩
  have hR1 := Row.le hR1 hq1
  refine .callE k2 (fun g => ⟨hp.1.mono g.R, hp.2.1.mono g.R⟩) ?_
  rintro v mq2 m2 hle2 hq2 ⟨q2, d2, rfl, hR2⟩
  refine ⟨[.p q2, .i (X.1.length : Nat), .i d2, .i X.2], uOk_of rfl, (tab_fresh _ _ _ _ _ _).symm, .env (by (try simp only [liE, letsOf, letU, snd, List.append_nil]); rfl) ?_⟩
  have hR1 := Row.le hR1 hle2
  have hR2 := Row.le hR2 hq2
  clear hle1 hq1 hle2 hq2
  refine .callE k3 (fun g => ⟨hp.1.mono g.R, hp.2.1.mono g.R⟩) ?_
  rintro v mq3 m3 hle3 hq3 ⟨q3, d3, t3, rfl, ht3, hT3⟩
  refine ⟨[.p q3, .i (t3.length : Nat), .i d3, .i Y.2], uOk_of rfl, (tab_fresh _ _ _ _ _ _).symm, .env (by (try simp only [liE, letsOf, letU, snd, List.append_nil]); rfl) ?_⟩
  have hT3 := hT3.le hq3
  refine .callE k4 (fun g => ⟨hp.1.mono g.R, hp.2.1.mono g.R⟩) ?_
  rintro v mq4 m4 hle4 hq4 ⟨q4, d4, t4, rfl, ht4, hT4⟩
  refine ⟨[.p q4, .i (t4.length : Nat), .i d4, .i Y.2], uOk_of rfl, (tab_fresh _ _ _ _ _ _).symm, .env (by (try simp only [liE, letsOf, letU, snd, List.append_nil]); rfl) ?_⟩
  have hR1 := Row.le (Row.le hR1 hle3) hle4
  have hR2 := Row.le (Row.le hR2 hle3) hle4
  have hT3 := hT3.le hle4
  have hT4 := hT4.le hq4
  clear hle3 hq3 hle4 hq4
  refine .callE k5 (fun g => ⟨hp.1.mono g.R, hp.2.1.mono g.R⟩) ?_
  rintro v mq5 m5 hle5 hq5 ⟨q5, d5, t5, rfl, ht5, hT5⟩
  refine ⟨[.p q5, .i (t5.length : Nat), .i d5, .i Z.2], uOk_of rfl, (tab_fresh _ _ _ _ _ _).symm, .env (by (try simp only [liE, letsOf, letU, snd, List.append_nil]); rfl) ?_⟩
  have hT5 := hT5.le' hq5
  refine .callE k6 (fun g => ⟨hp.1.mono g.R, hp.2.1.mono g.R⟩) ?_
  rintro v mq6 m6 hle6 hq6 ⟨q6, d6, t6, rfl, ht6, hT6⟩
  refine ⟨[.p q6, .i (t6.length : Nat), .i d6, .i Z.2], uOk_of rfl, (tab_fresh _ _ _ _ _ _).symm, .env (by (try simp only [liE, letsOf, letU, snd, List.append_nil]); rfl) ?_⟩
  have hR1 := Row.le (Row.le hR1 hle5) hle6
  have hR2 := Row.le (Row.le hR2 hle5) hle6
  have hT3 := (hT3.le hle5).le hle6
  have hT4 := (hT4.le hle5).le hle6
  have hT5 := hT5.le' hle6
  have hT6 := hT6.le' hq6
  clear hle5 hq5 hle6 hq6 k1 k2 k3 k4 k5 k6
  have hl3 := congrArg List.length ht3
  have hl4 := congrArg List.length ht4
  rw [List.length_map] at hl3 hl4
  refine .join (fun us m => us = [.b false] ∧ m6 = m) ?_ ?_
  · refine .callV (c_Check p pc cp cc l rs (by omega) (by omega) hok hrl') (fun g => ⟨hp.1.mono g.R, hp.2.1.mono g.R⟩) (.env (by (try simp only [liE, letsOf, letU, snd, List.append_nil]); rfl) (.callV (c_refCheckX p pc cp cc l rs (by omega) (by omega) hok hw' hrl') (fun g => ⟨hp.1.mono g.R, hp.2.1.mono g.R⟩) ?_))
    refine .env (by (try simp only [liE, letsOf, letU, snd, List.append_nil]); rfl) (.no (by ((try simp only [evE, liE, letsOf, letU, snd]); (try simp only [cmE])) <;> simp) (.callV (cells_eq q1 q2 d1 d2 X.1 X.1 X.1 rfl rfl (by omega)) (fun g => ⟨hR1.reads g, hR2.reads g⟩) ?_))
    refine .env (by (try simp only [liE, letsOf, letU, snd, List.append_nil]); rfl) (.no rfl (.chk (by ((try simp only [evE, liE, letsOf, letU, snd]); (try simp only [cmE])); omega) (.chk (by ((try simp only [evE, liE, letsOf, letU, snd]); (try simp only [cmE])); omega) (.no (by ((try simp only [evE, liE, letsOf, letU, snd]); (try simp only [cmE])); omega) (.callV (same_eq q5 q6 d5 d6 t5 t6 _ ht5 ht6 hsZ) (fun g => ⟨hT5.reads g, hT6.reads g⟩) ?_)))))
    exact .env (by (try simp only [liE, letsOf, letU, snd, List.append_nil]); rfl) (.again rfl ⟨rfl, rfl⟩)
  rintro _ _ _ ⟨rfl, rfl⟩
  refine .env (by (try simp only [liE, letsOf, letU, snd, List.append_nil]); rfl) (.no rfl ?_)
  refine .loop (fun z us m => ∃ (e : Bool) (j : Nat), us = [.b e, .i j] ∧ z + j = t3.length ∧ m6 = m) t3.length ⟨false, 0, rfl, rfl, rfl⟩ ?_
  rintro z _ _ _ ⟨e, j, rfl, hz, rfl⟩
  refine .env (by (try simp only [liE, letsOf, letU, snd, List.append_nil]); rfl) (.chk (by ((try simp only [evE, liE, letsOf, letU, snd]); (try simp only [cmE])); omega) (.ite (fun h3 => ?_) (fun h3 => .callV c_works (fun g => hV.mono g.R) (.env (by (try simp only [liE, letsOf, letU, snd, List.append_nil]); rfl) (.ret rfl rfl))))) <;> ((try simp only [evE, liE, letsOf, letU, snd] at h3); (try simp only [cmE] at h3))
  have hj : j < t3.length := by omega
  have hj4 : j < t4.length := by omega
  have e34 : ∀ (ts : List CR) (h : ts.map (·.l) = Y.1) (hj : j < ts.length), ts[j].l = Y.1[j]'(by rw [← h, List.length_map]; exact hj) := fun ts h hj => by
    have := List.getElem_of_eq h (i := j) (by rw [List.length_map]; exact hj)
    rw [List.getElem_map] at this; exact this
  refine .loadSl (t3.map CR.v) j t3.length t3[j].p t3[j].l.length t3[j].cap hj (crow_at t3 j hj) (fun g => (hT3.reads g).1) (.env (by (try simp only [liE, letsOf, letU, snd, List.append_nil]); rfl) (.loadSl (t4.map CR.v) j t4.length t4[j].p t4[j].l.length t4[j].cap hj4 (crow_at t4 j hj4) (fun g => (hT4.reads g).1) (.env (by (try simp only [liE, letsOf, letU, snd, List.append_nil]); rfl) ?_)))
  refine .callV (cells_eq t3[j].p t4[j].p t3[j].cap t4[j].cap t3[j].l t4[j].l _ (e34 t3 ht3 hj) (e34 t4 ht4 hj4) (by have := hsY.2 _ (List.getElem_mem (show j < Y.1.length by omega)); omega)) (fun g => ⟨(hT3.reads g).2 _ (List.getElem_mem hj), (hT4.reads g).2 _ (List.getElem_mem hj4)⟩) (.env (by (try simp only [liE, letsOf, letU, snd, List.append_nil]); rfl) (.no rfl (.again rfl ⟨z - 1, by omega, e, j + 1, ?_, by omega, rfl⟩)))
  (simp only [evE, liE, letsOf, letU, snd, Sh.uss, Sh.us, atAddr, map_add0, List.append_nil]); rw [add_i64 j (by omega)]
end Go.Proofs.YtialbhieaipcgaaDoor
