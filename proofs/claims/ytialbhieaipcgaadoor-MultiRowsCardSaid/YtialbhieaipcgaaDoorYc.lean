/- Chapter 18: the cells of all columns; the reference's cells and rows. -/
import Derived.Test.YtialbhieaipcgaaDoorYb
set_option linter.unusedSimpArgs false
set_option linter.unusedVariables false
namespace Go.Proofs.YtialbhieaipcgaaDoor
open Go Go.Sy Go.RowKit
/-- A row that is new since an earlier memory. -/
def NewQ (m : Mem) (q : Option Addr) : Prop := ∀ g o, q = some ⟨g, o, none⟩ → m g = none
theorem NewQ.next {m m2 : Mem} {q q' : Option Addr} (h : NewQ m q) (hle : m.le m2) (hq : q' = q ∨ ∃ g, q' = some ⟨g, 0, none⟩ ∧ m2 g = none) : NewQ m q' := fun g o e => by
  rcases hq with rfl | ⟨g', e', hg⟩
  · exact h g o e
  · rw [e'] at e; cases e
    cases hm : m g with
    | none => rfl
    | some x => rw [hle g x hm] at hg; cases hg
/-- What was there before a row was begun stays when the row grows. -/
theorem keep_new {m m2 m' : Mem} {q : Option Addr} {cap n : Nat} (hle : m.le m2) (h : NewQ m q) (hk : ∀ b, ((∃ o, q = some ⟨b, o, none⟩) → cap < n) → m2 b ≠ none → m' b = m2 b) : m.le m' := fun b o hb => by
  rw [hk b (fun ⟨x, hx⟩ => by rw [h b x hx] at hb; cases hb) (by rw [hle b o hb]; simp)]
  exact hle b o hb
theorem c_Cells (p pc : Option Addr) (cp cc : Nat) (l : List WD) (rs : List IR) (hl : l.length < 2 ^ 62) (hr : rs.length ≤ 1048576) (hok : ∀ x ∈ l, Wok x.w) (hrl : ∀ r ∈ rs, r.l.length < 2 ^ 62) :
    FnM Tryd.prog n_multi_Cells [slv p l.length cp, slv pc rs.length cc] (fun R => WordsAt R p l ∧ RowsAt R pc rs) fun v mq _ => ∃ q cq ts, v = .tuple #[slv q ts.length cq, .int .i64 (cellsA (l.map (·.w)) (rs.map (·.l))).2] ∧ ts.map (·.l) = (cellsA (l.map (·.w)) (rs.map (·.l))).1 ∧ TabC mq q cq ts := by
  have hclen : (rs.map (·.l)).length = rs.length := List.length_map _
  have hwlen : (l.map (·.w)).length = l.length := List.length_map _
  refine FnM.of S_multi_Cells mx [.p p, .i l.length, .i cp, .p pc, .i rs.length, .i cc] rfl rfl fun c hp => .callV (c_Check p pc cp cc l rs hl (by omega) hok hrl) (fun g => ⟨hp.1.mono g.R, hp.2.mono g.R⟩) (.env (by (try simp only [liE, letsOf, letU, snd, List.append_nil]); rfl) (.ite (fun h1 => .ret rfl ?_) (fun h1 => .chk (by ((try simp only [evE, liE, letsOf, letU, snd]); (try simp only [cmE])); omega) ?_))) <;> ((try simp only [evE, liE, letsOf, letU, snd] at h1); (try simp only [cmE] at h1))
  · unfold cellsA; rw [if_pos h1]; exact ⟨none, 0, [], rfl, rfl, .nil _⟩
  obtain ⟨_, _, hal⟩ := checkA_zero h1
  have hent := isAl_ent hal
  have hs : cellsA (l.map (·.w)) (rs.map (·.l)) = ((rs.map (·.l)).map (colC (l.map (·.w))), 0) := by unfold cellsA; rw [if_neg (by simp [h1])]
  rw [hs]
  refine .loop (fun z us m => ∃ (q : Option Addr) (cq j : Nat) (ts : List CR), j ≤ rs.length ∧ z = rs.length - j ∧ us = [.p q, .i j, .i cq, .i j] ∧ ts.length = j ∧ ts.map (·.l) = ((rs.map (·.l)).take j).map (colC (l.map (·.w))) ∧ TabC m q cq ts) rs.length ⟨none, 0, 0, [], Nat.zero_le _, rfl, rfl, rfl, rfl, .nil _⟩ ?_
  rintro z _ m _ ⟨q, cq, j, ts, hj, rfl, rfl, htl, hts, hT⟩
  refine .env (by (try simp only [liE, letsOf, letU, snd, List.append_nil]); rfl) (.ite (fun h4 => ?_) (fun h4 => .ret rfl ?_)) <;> ((try simp only [evE, liE, letsOf, letU, snd] at h4); (try simp only [cmE] at h4))
  · have hj : j < rs.length := by omega
    obtain ⟨hrl1, hre⟩ := hent rs[j].l (List.mem_map_of_mem (List.getElem_mem hj))
    rw [hwlen] at hrl1
    refine .loadSl (rs.map IR.v) j rs.length rs[j].p rs[j].l.length rs[j].cap hj (row_at rs j hj) (fun g => hp.2.1.mono g.R) (.env (by (try simp only [liE, letsOf, letU, snd, List.append_nil]); rfl) (.chk (by ((try simp only [evE, liE, letsOf, letU, snd]); (try simp only [cmE])); omega) ?_))
    refine .loop (fun z us m2 => ∃ (q2 : Option Addr) (cq2 i : Nat), i ≤ l.length ∧ z = l.length - i ∧ us = [.p q2, .i i, .i cq2, .i i] ∧ m.le m2 ∧ NewQ m q2 ∧ Row m2 67 3 q2 cq2 i (ccells ((colC (l.map (·.w)) rs[j].l).take i))) l.length ⟨none, 0, 0, Nat.zero_le _, rfl, rfl, Mem.le.refl _, nofun, Row.nil ..⟩ ?_
    rintro z2 _ m2 _ ⟨q2, cq2, i, hi, rfl, rfl, hle, hnew, hR⟩
    refine .env (by (try simp only [liE, letsOf, letU, snd, List.append_nil]); rfl) (.ite (fun h5 => ?_) (fun h5 => ?_)) <;> ((try simp only [evE, liE, letsOf, letU, snd] at h5); (try simp only [cmE] at h5))
    · have hi : i < l.length := by omega
      have hx := hre i (by omega)
      rw [wl_at l hi] at hx
      refine .elem1 (.int .i64 (labAt rs[j].l i)) (intsL rs[j].l) i rs[j].l.length rfl rfl (by omega) (fun g => (hp.2.2 _ (List.getElem_mem hj)).mono g.R) (intsL_at rs[j].l i (by omega)) (.env (by (try simp only [liE, letsOf, letU, snd, List.append_nil]); rfl) (.loadWD l i hi (fun g => hp.1.1.mono g.R) (.env (by (try simp only [liE, letsOf, letU, snd, List.append_nil]); rfl) (.callV (c_cell l[i].p l[i].cap l[i].w (labAt rs[j].l i) hx) (fun g => (hp.1.2 _ (List.getElem_mem hi)).mono g.R) ?_))))
      refine .env (by (try simp only [liE, letsOf, letU, snd, List.append_nil]); rfl) ?_
      have hst := colC_take (l.map (·.w)) rs[j].l (i := i) (by rw [hwlen]; exact hi)
      rw [getD_w l i hi] at hst
      generalize cellE l[i].w (labAt rs[j].l i) = x at hst ⊢
      refine .alloc' fun b0 _ hb0 _ => .append (q := q2) (cap := cq2) (n := i) (qx := some ⟨b0, 0, none⟩) (kx := 1) (capx := 1) (news := c3 x) elC hR (fun gd => gd.cells (j := 0) rfl rfl rfl) (c3_len x) (c3_one x) (fun h => by cases h) (by simp [maxLen]; omega) (by omega) (fun q' cap' m' hr' hk' hq' => .againL rfl fun gd => ⟨l.length - (i + 1), by omega, q', cap', i + 1, by omega, rfl, ?_, ?_, ?_, ?_⟩)
      · (simp only [evE, liE, letsOf, letU, snd, Sh.uss, Sh.us, atAddr, map_add0, List.append_nil]); rw [add_i64 i (by omega)]
      · exact (keep_new hle hnew hk').trans (gd.leB _ _ 0)
      · exact hnew.next hle hq'
      · rw [hst, ccells_snoc]
        exact Row.le hr' (gd.leB _ _ 0)
    · obtain rfl : i = l.length := by omega
      have hcl : (colC (l.map (·.w)) rs[j].l).length = l.length := by rw [colC_len, hwlen]
      rw [List.take_of_length_le (by omega)] at hR
      have hT2 := hT.le hle
      have hst : ((rs.map (·.l)).take (j + 1)).map (colC (l.map (·.w))) = ((rs.map (·.l)).take j).map (colC (l.map (·.w))) ++ [colC (l.map (·.w)) rs[j].l] := by
        rw [List.take_succ_eq_append_getElem (by rw [hclen]; exact hj), List.map_append, List.getElem_map]; rfl
      have hout := hT2.out
      rw [htl] at hout
      refine .alloc' fun b0 _ hb0 _ => .append (q := q) (cap := cq) (n := j) (qx := some ⟨b0, 0, none⟩) (kx := 1) (capx := 1) (news := [slv q2 l.length cq2]) elCC hout (fun gd => gd.cells (j := 0) rfl rfl rfl) rfl (by simp [slv, Value.oneCell']) (fun h => by cases h) (by simp [maxLen]; omega) (by omega) (fun q' cap' m' hr' hk' hq' => .againL rfl fun gd => ⟨rs.length - (j + 1), by omega, q', cap', j + 1, ts ++ [⟨q2, cq2, colC (l.map (·.w)) rs[j].l⟩], by omega, rfl, ?_, ?_, ?_, ?_⟩)
      · (simp only [evE, liE, letsOf, letU, snd, Sh.uss, Sh.us, atAddr, map_add0, List.append_nil]); rw [add_i64 j (by omega)]
      · rw [List.length_append, htl]; rfl
      · rw [hst, List.map_append, hts]; rfl
      · have hT3 : TabC m' q' cap' (ts ++ [⟨q2, cq2, colC (l.map (·.w)) rs[j].l⟩]) := hT2.push (r := ⟨q2, cq2, colC (l.map (·.w)) rs[j].l⟩) (by show Row _ _ _ _ _ (colC (l.map (·.w)) rs[j].l).length _; rw [hcl]; exact hR) (by rw [htl]; show Row _ _ _ _ _ _ (ts.map CR.v ++ [slv q2 (colC (l.map (·.w)) rs[j].l).length cq2]); rw [hcl]; exact hr') (by rw [htl]; exact hk')
        exact hT3.le (gd.leB _ _ 0)
  · obtain rfl : j = rs.length := by omega
    rw [List.take_of_length_le (by rw [hclen]; omega)] at hts
    exact ⟨q, cq, ts, by rw [htl]; rfl, hts, hT⟩
end Go.Proofs.YtialbhieaipcgaaDoor
