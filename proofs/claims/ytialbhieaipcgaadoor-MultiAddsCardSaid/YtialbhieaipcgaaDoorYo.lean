/- Chapter 18: words are added as the document says; arguments stay as they are. -/
import Derived.Test.YtialbhieaipcgaaDoorYn
set_option linter.unusedSimpArgs false
set_option linter.unusedVariables false
namespace Go.Proofs.YtialbhieaipcgaaDoor
open Go Go.Sy Go.RowKit
/-- Rows that may be written. -/
def RowsAny (m : Mem) (rs : List IR) : Prop := ∀ r ∈ rs, r.l ≠ [] → ∃ xs, Row m 3 1 r.p r.cap r.l.length xs
set_option maxHeartbeats 2000000 in
theorem l_MultiAdds (p pcol pc : Option Addr) (cp ccol cc : Nat) (l : List WD) (x : WD) (rs : List IR) (ws : List Int) (gap : Int) (hl : l.length < 2 ^ 63) (hlc : l.length ≤ cp) (hpn : p = none → cp = 0) (hr : rs.length < 2 ^ 63) (hok : ∀ x ∈ l, Wok x.w) (hx : Wok x.w) (hxl : x.w.length < 2 ^ 63) (hw : ∀ x ∈ l, x.w.length < 2 ^ 63) (hrl : ∀ r ∈ rs, r.l.length < 2 ^ 63) (hrc : ∀ r ∈ rs, r.l.length ≤ r.cap ∧ (r.p = none → r.cap = 0)) :
    RetP Tryd.prog n_law18_MultiAdds [.agg #[slv p l.length cp, slv pcol rs.length ccol, x.v, slv pc ws.length cc, .int .i64 gap]] (fun R => WordsAt R p l ∧ RowsAt R pcol rs ∧ WordAt R x.p x.w ∧ CostsAt R pc ws ∧ VarsOk R) (.bool true) := by
  refine Fn.of S_law18_MultiAdds mx [.p p, .i l.length, .i cp, .p pcol, .i rs.length, .i ccol, .p x.p, .i x.w.length, .i x.cap, .p pc, .i ws.length, .i cc, .i gap] rfl rfl fun c hp => .alloc fun b0 => ?_
  have hV := hp.2.2.2.2
  have hclen : (rs.map (·.l)).length = rs.length := List.length_map _
  refine .join (fun us m => ∃ b, us = [.b b] ∧ (b = false → fewW (l.map (·.w)) (rs.map (·.l)) = true ∧ x.w.length ≤ 100) ∧ Mem.emp = m) ?_ ?_
  · refine .callV (c_few p pcol cp ccol l rs hl hr hw hrl) (fun g => ⟨hp.1.mono g.R, hp.2.1.mono g.R⟩) (.env (by (try simp only [liE, letsOf, letU, snd, List.append_nil]); rfl) (.ite (fun h1 => .again rfl ⟨true, rfl, nofun, rfl⟩) (fun h1 => ?_))) <;> ((try simp only [evE, liE, letsOf, letU, snd] at h1); (try simp only [cmE] at h1))
    obtain ⟨f1, _, f3, _⟩ := few_of h1
    rw [List.length_map] at f1
    refine .callV (c_small p cp l f1 (fun x hx => f3 _ (List.mem_map_of_mem hx))) (fun g => hp.1.mono g.R) (.env (by (try simp only [liE, letsOf, letU, snd, List.append_nil]); rfl) (.ite (fun h2 => .again rfl ⟨true, rfl, nofun, rfl⟩) (fun h2 => .chk (by ((try simp only [evE, liE, letsOf, letU, snd]); (try simp only [cmE])); omega) (.again rfl ⟨_, rfl, fun h3 => ⟨h1, by ((try simp only [evE, liE, letsOf, letU, snd] at h3); (try simp only [cmE] at h3)); omega⟩, rfl⟩))))
  rintro _ _ _ ⟨b, rfl, hb, rfl⟩
  refine .env (by (try simp only [liE, letsOf, letU, snd, List.append_nil]); rfl) (.ite (fun h1 => .callV c_works (fun g => hV.mono g.R) (.env (by (try simp only [liE, letsOf, letU, snd, List.append_nil]); rfl) (.ret rfl rfl))) (fun h1 => ?_)) <;> ((try simp only [evE, liE, letsOf, letU, snd] at h1); (try simp only [cmE] at h1))
  obtain ⟨hfew, hx100⟩ := hb h1
  obtain ⟨f1, f2, f3, f4⟩ := few_of hfew
  rw [List.length_map] at f1 f2
  have hrok : ∀ r ∈ rs, r.ok := fun r hr => ⟨(hrc r hr).1, (hrc r hr).2, by have := f4 _ (List.mem_map_of_mem hr); omega⟩
  clear hb
  refine .loop (fun z us m => ∃ (q : Option Addr) (cq j : Nat) (ts : List IR), us = [.p q, .i j, .i cq, .i j] ∧ z + j = rs.length ∧ ts.length = j ∧ ts.map (·.l) = (rs.map (·.l)).take j ∧ TabR m q cq ts) rs.length ⟨none, 0, 0, [], rfl, rfl, rfl, rfl, .nil _⟩ ?_
  rintro z _ m _ ⟨q, cq, j, ts, rfl, hz, htl, hts, hT⟩
  refine .env (by (try simp only [liE, letsOf, letU, snd, List.append_nil]); rfl) (.chk (by ((try simp only [evE, liE, letsOf, letU, snd]); (try simp only [cmE])); omega) (.ite (fun h2 => ?_) (fun h2 => ?_))) <;> ((try simp only [evE, liE, letsOf, letU, snd] at h2); (try simp only [cmE] at h2))
  · have hj : j < rs.length := by omega
    have hrj := hrok _ (List.getElem_mem hj)
    have hsm := hrj.small
    refine .alloc fun b1 => .loadSl (rs.map IR.v) j rs.length rs[j].p rs[j].l.length rs[j].cap hj (row_at rs j hj) (fun g => hp.2.1.1.mono g.R) (.env (by (try simp only [liE, letsOf, letU, snd, List.append_nil]); rfl) ?_)
    refine .appendLit (b0 := b1) (qx := rs[j].p) (kx := rs[j].l.length) (capx := rs[j].cap) (news := intsL rs[j].l) elI (fun g => (hp.2.1.2 _ (List.getElem_mem hj)).mono g.R) (by rw [intsL_len, Nat.mul_one]) (fun u hu => by unfold intsL at hu; obtain ⟨x, _, rfl⟩ := List.mem_map.1 hu; rfl) hrj.nil (by unfold maxLen; omega) (by omega) (fun q1 c1 m1 hr1 h01 hk1 => ?_)
    have hle1 : m.le m1 := fun b o hb => by rw [hk1 b (by rw [hb]; simp)]; exact hb
    have hI1 : RowI m1 q1 c1 rs[j].l := .lit hr1 h01
    have hT1 := hT.le hle1
    have hout := hT1.out
    rw [htl] at hout
    refine .env (by (try simp only [liE, letsOf, letU, snd, List.append_nil]); rfl) (.alloc' fun b2 _ hb2 _ => .append (q := q) (cap := cq) (n := j) (qx := some ⟨b2, 0, none⟩) (kx := 1) (capx := 1) (news := [slv q1 rs[j].l.length c1]) elT hout (fun gd => gd.cells (j := 2) rfl rfl rfl) rfl (by simp [slv, Value.oneCell']) (fun h => by cases h) (by simp [maxLen]; omega) (by omega) (fun q' cap' m' hr' hk' hq' => .againL rfl fun gd => ⟨z - 1, by omega, q', cap', j + 1, ts ++ [⟨q1, c1, rs[j].l⟩], ?_, by omega, by rw [List.length_append, htl]; rfl, ?_, ?_⟩))
    · (simp only [evE, liE, letsOf, letU, snd, Sh.uss, Sh.us, atAddr, map_add0, List.append_nil]); rw [add_i64 j (by omega)]
    · rw [List.take_succ_eq_append_getElem (by rw [hclen]; exact hj), List.map_append, hts, List.getElem_map]; rfl
    · have hT3 : TabR m' q' cap' (ts ++ [⟨q1, c1, rs[j].l⟩]) := hT1.push (r := ⟨q1, c1, rs[j].l⟩) hI1 (by rw [htl]; exact hr') (by rw [htl]; exact hk')
      exact hT3.le (gd.leB _ _ 1)
  obtain rfl : j = rs.length := by omega
  rw [List.take_of_length_le (by omega)] at hts
  have hTw : TabI m q cq ts := hT.tab
  clear hT
  have kA := c_Add p pcol pc cp ccol cc l x rs ws gap (by omega) hlc hpn hok hx (by omega) hrok
  have kB := c_refAdd p pcol pc cp ccol cc l x rs ws gap (by omega) hlc hpn hok hx (fun y hy => by have := f3 _ (List.mem_map_of_mem hy); omega) (by omega) hrok
  have hs := addA_small ws gap (l.map (·.w)) (rs.map (·.l)) x.w
  generalize addA ws gap (l.map (·.w)) (rs.map (·.l)) x.w = X at kA kB hs
  refine .callM kA rfl rfl (fun g => ⟨hp.1.mono g.R, hp.2.1.mono g.R, hp.2.2.1.mono g.R, hp.2.2.2.1.mono g.R, hV.mono g.R⟩) ?_
  clear kA
  rintro v mq1 hfr1 ⟨q1, k1, t1, rfl, ht1, hT1⟩
  refine ⟨[.p q1, .i (t1.length : Nat), .i k1, .i X.2], uOk_of rfl, (tab_fresh _ _ _ _ _ _).symm, .env (by (try simp only [liE, letsOf, letU, snd, List.append_nil]); rfl) ?_⟩
  have hnew : ∀ r ∈ t1, r.l ≠ [] → ∀ g o, r.p = some ⟨g, o, none⟩ → m g = none := fun r hr hne g o hg => by
    rcases ((hT1.rows r hr).row hne).2 with ⟨h, _⟩ | ⟨g', _, h, hg', _⟩
    · rw [h] at hg; cases hg
    · rw [h] at hg; cases hg
      exact (hfr1 _ (by rw [hg']; simp)).1
  have hle1 : m.le (m.join mq1) := fun b o hb => by rw [join_old (by rw [hb]; simp), hb]
  have hT1 : TabI (m.join mq1) q1 k1 t1 := hT1.joinR fun b hb => (hfr1 b hb).1
  generalize m.join mq1 = m1 at hle1 hT1 ⊢
  clear hfr1
  refine .callE kB (fun g => ⟨hp.1.mono g.R, hp.2.1.mono g.R, hp.2.2.1.mono g.R, hp.2.2.2.1.mono g.R⟩) ?_
  clear kB
  rintro v mq2 m2 hle2 hq2 ⟨q2, k2, t2, rfl, ht2, hT2⟩
  refine ⟨[.p q2, .i (t2.length : Nat), .i k2, .i X.2], uOk_of rfl, (tab_fresh _ _ _ _ _ _).symm, .env (by (try simp only [liE, letsOf, letU, snd, List.append_nil]); rfl) ?_⟩
  have hT1 := hT1.le' hle2
  have hT2 := hT2.le' hq2
  have hle := hle1.trans hle2
  clear hle1 hle2 hq2
  have hl1 := congrArg List.length ht1
  rw [List.length_map] at hl1
  refine .join (fun us m' => ∃ b, us = [.b b] ∧ b = false ∧ m2 = m') (.no (by ((try simp only [evE, liE, letsOf, letU, snd]); (try simp only [cmE])) <;> simp) (.callV (same_eq q1 q2 k1 k2 t1 t2 _ ht1 ht2 hs) (fun g => ⟨hT1.reads g, hT2.reads g⟩) (.env (by (try simp only [liE, letsOf, letU, snd, List.append_nil]); rfl) (.again rfl ⟨_, rfl, rfl, rfl⟩)))) ?_
  rintro _ _ _ ⟨_, rfl, rfl, rfl⟩
  refine .env (by (try simp only [liE, letsOf, letU, snd, List.append_nil]); rfl) (.no rfl ?_)
  have hany : RowsAny m2 t1 := fun r hr hne => ⟨_, (hT1.rows r hr).row hne⟩
  have hout := hT1.row
  have hlen40 : ∀ r ∈ t1, r.l.length < 2 ^ 40 := fun r hr => hs.2 r.l (by rw [← ht1]; exact List.mem_map_of_mem hr)
  refine .loop (fun z us m' => ∃ i : Nat, us = [.i i] ∧ z + i = t1.length ∧ m.le m' ∧ RowsAny m' t1 ∧ (t1 ≠ [] → Row m' 49 1 q1 k1 t1.length (t1.map IR.v))) t1.length ⟨0, rfl, rfl, hle, hany, hout⟩ ?_
  clear hany hout hle hT1 hT2
  rintro z3 _ m3 _ ⟨i, rfl, hz3, hle3, hany3, hout3⟩
  refine .env (by (try simp only [liE, letsOf, letU, snd, List.append_nil]); rfl) (.chk (by ((try simp only [evE, liE, letsOf, letU, snd]); (try simp only [cmE])); omega) (.ite (fun h3 => ?_) (fun h3 => ?_))) <;> ((try simp only [evE, liE, letsOf, letU, snd] at h3); (try simp only [cmE] at h3))
  · have hi : i < t1.length := by omega
    have hne1 : t1 ≠ [] := fun h => by rw [h] at hi; simp at hi
    have hi40 := hlen40 _ (List.getElem_mem hi)
    refine .loop (fun z us m' => ∃ k : Nat, us = [.i k] ∧ z + k = t1[i].l.length ∧ m.le m' ∧ RowsAny m' t1 ∧ (t1 ≠ [] → Row m' 49 1 q1 k1 t1.length (t1.map IR.v))) t1[i].l.length ⟨0, rfl, rfl, hle3, hany3, hout3⟩ ?_
    rintro z4 _ m4 _ ⟨k, rfl, hz4, hle4, hany4, hout4⟩
    have hR := hout4 hne1
    refine .env (by (try simp only [liE, letsOf, letU, snd, List.append_nil]); rfl) (.loadSl (t1.map IR.v) i t1.length t1[i].p t1[i].l.length t1[i].cap hi (row_at t1 i hi) (fun g => hR.reads g) (.env (by (try simp only [liE, letsOf, letU, snd, List.append_nil]); rfl) (.chk (by ((try simp only [evE, liE, letsOf, letU, snd]); (try simp only [cmE])); omega) (.ite (fun h4 => ?_) (fun h4 => .again rfl ⟨z3 - 1, by omega, i + 1, ?_, by omega, hle4, hany4, hout4⟩))))) <;> ((try simp only [evE, liE, letsOf, letU, snd] at h4); (try simp only [cmE] at h4))
    · have hk : k < t1[i].l.length := by omega
      have hne : t1[i].l ≠ [] := fun h => by rw [h] at hk; simp at hk
      obtain ⟨xs, hX⟩ := hany4 _ (List.getElem_mem hi) hne
      refine .loadSl (t1.map IR.v) i t1.length t1[i].p t1[i].l.length t1[i].cap hi (row_at t1 i hi) (fun g => hR.reads g) (.env (by (try simp only [liE, letsOf, letU, snd, List.append_nil]); rfl) (.storeR k hk hX rfl rfl rfl fun m5 g5 hg5 hR5 hs5 => .again rfl ⟨z4 - 1, by omega, k + 1, ?_, by omega, ?_, fun r hr hrne => ?_, fun _ => ?_⟩))
      · (simp only [evE, liE, letsOf, letU, snd, Sh.uss, Sh.us, atAddr, map_add0, List.append_nil]); rw [add_i64 k (by omega)]
      · intro b o hb
        rw [hs5 b (fun e => by subst e; have := hnew _ (List.getElem_mem hi) hne b 0 hg5; rw [this] at hb; cases hb)]
        exact hle4 b o hb
      · obtain ⟨ys, hY⟩ := hany4 r hr hrne
        exact Row.any hg5 hX hR5 hs5 hY
      · exact hR.keep fun b hb _ => hs5 b fun e => Row.apart hR hX (by decide) b hb (by rw [hg5, e])
    · (simp only [evE, liE, letsOf, letU, snd, Sh.uss, Sh.us, atAddr, map_add0, List.append_nil]); rw [add_i64 i (by omega)]
  · have kk := same_eq pcol q ccol cq rs ts _ rfl hts ⟨by omega, fun c hc => by have := f4 c hc; omega⟩
    rw [htl] at kk
    refine .join (fun us m => us = [.b true]) (.callV kk (fun g => ⟨hp.2.1.mono g.R, (hTw.le' hle3).reads g⟩) (.env (by (try simp only [liE, letsOf, letU, snd, List.append_nil]); rfl) (.yes rfl (.callV c_works (fun g => hV.mono g.R) (.env (by (try simp only [liE, letsOf, letU, snd, List.append_nil]); rfl) (.again rfl rfl)))))) ?_
    rintro _ _ _ rfl
    exact .env (by (try simp only [liE, letsOf, letU, snd, List.append_nil]); rfl) (.ret rfl rfl)
end Go.Proofs.YtialbhieaipcgaaDoor
