/- Layer 24: a task; its cells and states. -/
import Derived.Test.YtkhcfbdjmpodbaaDoorK1
set_option linter.unusedSimpArgs false
set_option linter.unusedVariables false
namespace Go.Sy
open Go Go.RowKit Go.Proofs.YtkhcfbdjmpodbaaDoor
def rmOf (rs : List RD) : List IR := rs.map fun r => ⟨r.p, r.cap, r.v⟩
theorem rmOf_len (rs : List RD) : (rmOf rs).length = rs.length := List.length_map _
theorem rmOf_v (rs : List RD) : (rmOf rs).map IR.v = rs.map RD.s := by unfold rmOf; rw [List.map_map]; rfl
theorem rmOf_at {cs : List Snd} {ws : List Int} {gap : Int} {rs : List RD} (h : MatRows cs ws gap (cs.length + 1) 0 (cs.length + 1) rs) {a b : Nat} (ha : a ≤ cs.length) (hb : b ≤ cs.length) : mAt (rmOf rs) a b = matE cs ws gap a b := by
  have hl := h.len
  have h1 := h.at' a (by omega) (by omega) b hb
  unfold mAt rmOf labAt
  rw [List.getElem?_map, List.getElem?_eq_getElem (l := rs) (i := a) (by omega)]
  show (rs[a].v[b]?).getD 0 = _
  rw [h1, if_pos]
  · rfl
  · unfold doneM
    simp only [Bool.or_eq_true, Bool.and_eq_true, decide_eq_true_eq]
    omega
theorem rmOf_ok {cs : List Snd} {ws : List Int} {gap : Int} {rs : List RD} (h : MatRows cs ws gap (cs.length + 1) 0 (cs.length + 1) rs) (hc : checkC ws gap = 0) (hE : matErr cs ws gap = 0) : OkM (rmOf rs) := by
  have hl := h.len
  have h11 : cs.length ≤ 11 ∧ overB cs ws gap = false := by
    unfold matErr at hE
    split at hE
    · cases hE
    · split at hE
      · cases hE
      · split at hE
        · cases hE
        · rename_i h1 _ h3
          exact ⟨by omega, by simpa using h3⟩
  refine ⟨by rw [rmOf_len]; omega, by rw [rmOf_len]; omega, fun r hr => ?_, fun r hr x hx => ?_⟩
  · obtain ⟨d, hd, rfl⟩ := List.mem_map.1 hr
    obtain ⟨a, ha, rfl⟩ := List.mem_iff_getElem.1 hd
    rw [rmOf_len, hl]
    exact h.rlen a ha (by omega)
  · obtain ⟨d, hd, rfl⟩ := List.mem_map.1 hr
    obtain ⟨a, ha, rfl⟩ := List.mem_iff_getElem.1 hd
    obtain ⟨b, hb, rfl⟩ := List.mem_iff_getElem.1 hx
    have hrl := h.rlen a ha (by omega)
    have h1 := rmOf_at h (a := a) (b := b) (by omega) (by simp only at hb; omega)
    have h2 := matE_bound hc h11.2 (a := a) (b := b) (by omega) (by simp only at hb; omega)
    unfold mAt rmOf labAt at h1
    rw [List.getElem?_map, List.getElem?_eq_getElem ha] at h1
    simp only [Option.map_some, Option.getD_some] at h1
    rw [List.getElem?_eq_getElem hb] at h1
    simp only [Option.getD_some] at h1
    simp only
    rw [h1]; exact h2
def stateE (cs : List Snd) (x : CE) : Int := if x.1 = 0 then -1 else if x.1 = 1 then cs.length else (cs.findIdx (fun y => y == x.2) : Nat)
theorem stateE_snd {cs : List Snd} (h : cs.Nodup) {j : Nat} (hj : j < cs.length) {x : CE} (h1 : x.1 = 2) (h2 : x.2 = cs[j]) : stateE cs x = j := by
  unfold stateE
  rw [if_neg (by omega), if_neg (by omega), h2]
  have : cs.findIdx (fun y => y == cs[j]) = j := by
    rw [List.findIdx_eq hj]
    refine ⟨by simp, fun i hi => ?_⟩
    simp only [beq_eq_false_iff_ne, ne_eq]
    intro e
    have := (List.getElem_inj h).1 e
    omega
  rw [this]
def knownCE (cs : List Snd) (x : CE) : Prop := okCE x ∧ (x.1 = 2 → x.2 ∈ cs)
theorem stateE_range {cs : List Snd} {x : CE} (h : knownCE cs x) : -1 ≤ stateE cs x ∧ stateE cs x < cs.length + 1 := by
  unfold stateE
  split
  · omega
  · split
    · omega
    · rename_i h1 h2
      have h3 : x.1 = 2 := by
        rcases h.1 with e | e | e <;> omega
      have : cs.findIdx (fun y => y == x.2) < cs.length := List.findIdx_lt_length_of_exists ⟨x.2, h.2 h3, by simp⟩
      omega
structure TaskAt (R : Mv) (x : Nat) (p pc pm : Option Addr) (cp cc km bm : Nat) (t : List ND) (cs : List Snd) (rm : List IR) : Prop where
  box : Cells R (some ⟨x, 0, none⟩) [slv p t.length cp, slv pc cs.length cc, .map (some bm), slv pm rm.length km]
  mp : ∃ es clock f, R.m bm = some es ∧ MapK isKS es clock f ∧ ∀ j (hj : j < cs.length), f (snd cs[j]) = some (.int .i64 (j : Nat))
  prob : ProbAt R p pm t rm
  cs : WordAt R pc cs
theorem TaskAt.mono {R S : Mv} {x : Nat} {p pc pm : Option Addr} {cp cc km bm : Nat} {t : List ND} {cs : List Snd} {rm : List IR} (h : TaskAt R x p pc pm cp cc km bm t cs rm) (hle : R.le S) : TaskAt S x p pc pm cp cc km bm t cs rm :=
  ⟨h.box.mono hle, let ⟨es, k, f, h1, h2⟩ := h.mp; ⟨es, k, f, hle.m _ _ h1, h2⟩, h.prob.mono hle, h.cs.mono hle⟩
end Go.Sy
namespace Go.Proofs.YtkhcfbdjmpodbaaDoor
open Go Go.Sy Go.RowKit
structure TaskM (m : Mem) (x : Nat) (p pc pm : Option Addr) (cp cc km bm : Nat) (t : List ND) (cs : List Snd) (rs : List RD) : Prop where
  box : ∃ e, m x = some (.cells #[slv p t.length cp, slv pc cs.length cc, .map (some bm), slv pm rs.length km] e (0, 0))
  mp : ∃ es clock f, m bm = some (.map es clock) ∧ MapK isKS es clock f ∧ ∀ j (hj : j < cs.length), f (snd cs[j]) = some (.int .i64 (j : Nat))
  tab : Tab m 26 2 .i64 pm km rs
theorem TaskM.le {m m' : Mem} {x : Nat} {p pc pm : Option Addr} {cp cc km bm : Nat} {t : List ND} {cs : List Snd} {rs : List RD} (h : TaskM m x p pc pm cp cc km bm t cs rs) (hle : m.le m') : TaskM m' x p pc pm cp cc km bm t cs rs :=
  ⟨let ⟨e, h1⟩ := h.box; ⟨e, hle _ _ h1⟩, let ⟨es, k, f, h1, h2⟩ := h.mp; ⟨es, k, f, hle _ _ h1, h2⟩, h.tab.keep fun _ hb => hle.keep hb⟩
theorem TaskM.at {c : Cx} {L : List Nat} {ρ : Env} {blks : List Blk} {m : Mem} {x : Nat} {p pc pm : Option Addr} {cp cc km bm : Nat} {t : List ND} {cs : List Snd} {rs : List RD} (h : TaskM m x p pc pm cp cc km bm t cs rs) (g : Go.Sy.Good c L m) (ht : Cells (vw c L ρ blks m) p (ncells t)) (hc : WordAt (vw c L ρ blks m) pc cs) :
    TaskAt (vw c L ρ blks m) x p pc pm cp cc km bm t cs (rmOf rs) := by
  obtain ⟨e, hb⟩ := h.box
  obtain ⟨es, k, f, h1, h2⟩ := h.mp
  refine ⟨fun i v hi => ⟨x, 0, rfl, ?_⟩, ⟨es, k, f, vw_map g h1, h2⟩, ⟨ht, ?_, fun r hr => ?_⟩, hc⟩
  · rw [vw_mem g hb, Nat.zero_add, rmOf_len] at *
    simpa using hi
  · rw [rmOf_v]; exact h.tab.out.reads g
  · obtain ⟨d, hd, rfl⟩ := List.mem_map.1 hr
    exact (h.tab.inn d hd).reads g
set_option maxHeartbeats 2000000 in
theorem c_begin (p pc pw : Option Addr) (cp cc cw : Nat) (t : List ND) (cs : List Snd) (ws : List Int) (gap : Int) (hE : treeE t = 0) (hn : ∀ x ∈ t, x.nm.length < 2 ^ 62) (hcap : cs.length ≤ cc) (hl : cs.length < 2 ^ 40) (hC : OkC cs) (hc : checkC ws gap = 0) :
    FnM Tryd.prog n_proto_begin [slv p t.length cp, slv pc cs.length cc, costs pw ws.length cw gap] (fun R => Cells R p (ncells t) ∧ WordAt R pc cs ∧ CostsAt R pw ws ∧ TabOk R) fun v mq _ => (matErr cs ws gap ≠ 0 → v = .tuple #[.pointer none, .int .i64 (matErr cs ws gap)]) ∧
      (matErr cs ws gap = 0 → ∃ x pm km bm rs, v = .tuple #[.pointer (some ⟨x, 0, none⟩), .int .i64 0] ∧ TaskM mq x p pc pm cp cc km bm t cs rs ∧ MatRows cs ws gap (cs.length + 1) 0 (cs.length + 1) rs) := by
  obtain ⟨h0, h63, _⟩ := treeE_ok hE
  have hck := c_treeCheck p cp t (by omega) hn
  rw [hE] at hck
  refine FnM.of S_proto_begin mx [.p p, .i t.length, .i cp, .p pc, .i cs.length, .i cc, .p pw, .i ws.length, .i cw, .i gap] rfl rfl fun c hp => .alloc fun b0 => .callV hck (fun g => hp.1.mono g.R) (.env (by (try simp only [liE, lO, lU, snd, aN]); rfl) (.no rfl ?_))
  refine .callE (c_Matrix pc pw cc cw cs ws gap hcap hl hC hc) (fun g => ⟨hp.2.1.mono g.R, hp.2.2.1.mono g.R, hp.2.2.2.mono g.R⟩) ?_
  rintro v mq m1 _ hle ⟨q, cq, rs, rfl, hQ⟩
  refine ⟨[.p q, .i rs.length, .i cq, .i (matErr cs ws gap)], uOk_of rfl, (tab_fresh _ _ _ _ _ _).symm, .env (by (try simp only [liE, lO, lU, snd, aN]); rfl) (.ite (fun h1 => .ret rfl ⟨fun _ => rfl, fun h => absurd h ?_⟩) (fun h1 => ?_))⟩ <;> ((try simp only [evE, liE, lO, lU, snd] at h1); (try simp only [cmE] at h1))
  · exact h1
  obtain ⟨hT, hR⟩ := hQ h1
  replace hT : Tab m1 _ _ _ _ _ rs := hT.keep fun b hb => hle.keep hb
  rw [h1]
  refine .mkMapK fun bm hbm hbL => .env (by (try simp only [liE, lO, lU, snd, aN]); rfl) (.alloc' fun b1 hb1L hb1 _ => .chk (by ((try simp only [evE, liE, lO, lU, snd]); (try simp only [cmE])); omega) ?_)
  have hle1 : m1.le (m1.upd bm (.map #[] 0)) := fun b o hb => by
    rw [Mem.upd_other _ _ (fun e => by rw [e, hbm] at hb; cases hb)]; exact hb
  refine .loop (fun n us mm => ∃ (j : Nat) (es : Array MapEntry) (clock : Nat) (f : Value → Option Value), us = [.i j] ∧ n + j = cs.length ∧ m1.le mm ∧ mm bm = some (.map es clock) ∧ MapK isKS es clock f ∧ ∀ i (hi : i < cs.length), i < j → f (snd cs[i]) = some (.int .i64 (i : Nat))) cs.length
    ⟨0, #[], 0, fun _ => none, rfl, rfl, hle1, Mem.upd_same .., .empty _, fun i hi h => by omega⟩ ?_
  rintro n _ m _ ⟨j, es, clock, f, rfl, hnj, hle2, hes, hM, hf⟩
  refine .env (by (try simp only [liE, lO, lU, snd, aN]); rfl) (.ite (fun h2 => ?_) (fun h2 => .retL rfl fun g => ⟨fun h => absurd rfl h, fun _ => ⟨b1, q, cq, bm, rs, rfl, ⟨⟨77, blkMem_at (j := 1) (k := ⟨[.sl 0 (.lit 0) (.var 1) (.var 2), .sl 3 (.lit 0) (.var 4) (.var 5), .val 15, .sl 11 (.lit 0) (.var 12) (.var 13)], 77⟩) g.nd rfl rfl⟩, ⟨es, clock, f, (g.leB _ _ 0) _ _ hes, hM, fun i hi => hf i hi ?_⟩, hT.keep fun b hb => (hle2.trans (g.leB _ _ 0)).keep hb⟩, hR⟩⟩)) <;> ((try simp only [evE, liE, lO, lU, snd] at h2); (try simp only [cmE] at h2))
  · have hj : j < cs.length := by omega
    refine .loadW cs j hj (fun g => hp.2.1.mono g.R) (.env (by (try simp only [liE, lO, lU, snd, aN]); rfl) (.alloc fun b2 => ?_))
    refine .updateK kitS (snd cs[j]) (.int .i64 j) es f bm clock umS rfl ⟨_, rfl⟩ rfl hes hM (fun es' clock' hM' => .again rfl ⟨n - 1, by omega, j + 1, es', clock', _, ?_, by omega, fun b o hb => ?_, Mem.upd_same .., hM', fun i hi h => ?_⟩)
    · (simp only [evE, liE, lO, lU, snd, Sh.uss, Sh.us, atAddr, map_add0, List.append_nil]); rw [add_i64 j (by omega)]
    · rw [Mem.upd_other _ _ (fun e => by rw [e, hbm] at hb; cases hb)]; exact hle2 b o hb
    · by_cases e : i = j
      · subst e; exact updF_same ..
      · rw [updF_other f _ (fun h' => e ((List.getElem_inj hC.nodup).1 (snd_inj h')))]
        exact hf i hi (by omega)
  · omega
theorem c_taskCell (x : Nat) (p pc pm : Option Addr) (cp cc km bm : Nat) (t : List ND) (cs : List Snd) (rm : List IR) (s : Nat) (hs : s ≤ cs.length) (hl : cs.length < 2 ^ 40) :
    RetP Tryd.prog n___proto_task__cell [.pointer (some ⟨x, 0, none⟩), .int .i64 s] (fun R => TaskAt R x p pc pm cp cc km bm t cs rm) (if h : s < cs.length then .agg #[.int .i64 2, .int .u32 cs[s].1, .int .u32 cs[s].2] else .agg #[.int .i64 1, .int .u32 0, .int .u32 0]) := by
  refine Fn.of S___proto_task__cell mx [.p (some ⟨x, 0, none⟩), .i s] rfl rfl fun c hp => .alloc fun b0 => .chk rfl (.chk rfl ?_)
  refine .loadS [slv p t.length cp, slv pc cs.length cc, .map (some bm), slv pm rm.length km] 1 pc cs.length cc rfl rfl (fun g => hp.box.mono g.R) (.env (by (try simp only [liE, lO, lU, snd, aN]); rfl) (.chk (by ((try simp only [evE, liE, lO, lU, snd]); (try simp only [cmE])); omega) (.ite (fun h1 => .ret rfl ?_) (fun h1 => .chk rfl (.chk rfl ?_))))) <;> ((try simp only [evE, liE, lO, lU, snd] at h1); (try simp only [cmE] at h1))
  · rw [dif_neg (by omega)]; rfl
  · have hs : s < cs.length := by omega
    refine .loadS [slv p t.length cp, slv pc cs.length cc, .map (some bm), slv pm rm.length km] 1 pc cs.length cc rfl rfl (fun g => hp.box.mono g.R) (.env (by (try simp only [liE, lO, lU, snd, aN]); rfl) ?_)
    refine .loadW cs s hs (fun g => hp.cs.mono g.R) (.env (by (try simp only [liE, lO, lU, snd, aN]); rfl) (.ret rfl ?_))
    rw [dif_pos hs]; rfl
theorem any_take_succ {α : Type} {p : α → Bool} {l : List α} {j : Nat} (h : j < l.length) : (l.take (j + 1)).any p = ((l.take j).any p || p l[j]) := by
  rw [List.take_succ_eq_append_getElem h, List.any_append]; simp
set_option maxHeartbeats 1000000 in
theorem c_states (x : Nat) (p pc pm pl : Option Addr) (cp cc km bm cl : Nat) (t : List ND) (cs : List Snd) (rm : List IR) (l : List CE) (hC : OkC cs) (hcl : cs.length < 2 ^ 40) (hl : l.length < 2 ^ 40) (hk : ∀ y ∈ l, knownCE cs y) :
    FnM Tryd.prog n___proto_task__states [.pointer (some ⟨x, 0, none⟩), slv pl l.length cl] (fun R => TaskAt R x p pc pm cp cc km bm t cs rm ∧ Cells R pl (ccells l)) fun v mq _ => ∃ q cq, v = .tuple #[slv q l.length cq, .bool (l.any fun y => decide (y.1 ≠ 0)), .int .i64 0] ∧ Row mq 3 1 q cq l.length (intsL (l.map (stateE cs))) := by
  refine FnM.of S___proto_task__states mx [.p (some ⟨x, 0, none⟩), .p pl, .i l.length, .i cl] rfl rfl fun c hp => .chk (by ((try simp only [evE, liE, lO, lU, snd]); (try simp only [cmE])); omega) ?_
  obtain ⟨es, clock, f, hes, hMk, hf⟩ := hp.1.mp
  refine .loop (fun n us mm => ∃ (q : Option Addr) (cq : Nat) (e : Int) (j : Nat), us = [.p q, .i j, .i cq, .b ((l.take j).any fun y => decide (y.1 ≠ 0)), .i e, .i j] ∧ n + j = l.length ∧ Row mm 3 1 q cq j (intsL ((l.take j).map (stateE cs)))) l.length ⟨none, 0, 0, 0, by (simp only [evE, liE, lO, lU, snd, Sh.uss, Sh.us, atAddr, map_add0, List.append_nil]) <;> rfl, rfl, Row.nil ..⟩ ?_
  rintro n _ m _ ⟨q, cq, e, j, rfl, hnj, hR⟩
  refine .env (by (try simp only [liE, lO, lU, snd, aN]); rfl) ?_
  refine .join (fun us mm => us = [] ∧ m = mm ∧ j < l.length) (.ite (fun h1 => .again rfl ⟨rfl, rfl, by ((try simp only [evE, liE, lO, lU, snd] at h1); (try simp only [cmE] at h1)); omega⟩) (fun h1 => .ret rfl ?_)) ?_
  · ((try simp only [evE, liE, lO, lU, snd] at h1); (try simp only [cmE] at h1))
    have hj : j = l.length := by omega
    subst hj
    rw [List.take_length] at hR ⊢
    exact ⟨q, cq, rfl, hR⟩
  rintro _ _ _ ⟨rfl, rfl, hj⟩
  obtain ⟨hok, hmem⟩ := hk _ (List.getElem_mem hj)
  have hany := any_take_succ (p := fun y : CE => decide (y.1 ≠ 0)) hj
  have hmapj : (l.take (j + 1)).map (stateE cs) = (l.take j).map (stateE cs) ++ [stateE cs l[j]] := by rw [List.take_succ_eq_append_getElem hj, List.map_append]; rfl
  refine .env (by (try simp only [liE, lO, lU, snd, aN]); rfl) (.loadCE l j hj (fun g => hp.2.mono g.R) (.env (by (try simp only [liE, lO, lU, snd, aN]); rfl) (.alloc fun b0 => ?_)))
  refine .join (fun us mm => ∃ e, us = [.p q, .i j, .i cq, .b ((l.take (j + 1)).any fun y => decide (y.1 ≠ 0)), .i e, .i (stateE cs l[j])] ∧ m = mm) (.ite (fun h2 => ?_) (fun h2 => ?_)) ?_
  · ((try simp only [evE, liE, lO, lU, snd] at h2); (try simp only [cmE] at h2))
    refine .again rfl ⟨e, ?_, rfl⟩
    rw [hany, decide_eq_false (by simpa using h2), Bool.or_false]
    unfold stateE
    rw [if_pos h2]
    (simp only [evE, liE, lO, lU, snd, Sh.uss, Sh.us, atAddr, map_add0, List.append_nil])
  · ((try simp only [evE, liE, lO, lU, snd] at h2); (try simp only [cmE] at h2))
    rw [decide_eq_true h2, Bool.or_true] at hany
    rw [hany]
    refine .join (fun us mm => ∃ e, us = [.p q, .i j, .i cq, .b true, .i e, .i (stateE cs l[j])] ∧ m = mm) (.ite (fun h3 => ?_) (fun h3 => ?_)) ?_
    · ((try simp only [evE, liE, lO, lU, snd] at h3); (try simp only [cmE] at h3))
      refine .chk rfl (.chk rfl (.loadS [slv p t.length cp, slv pc cs.length cc, .map (some bm), slv pm rm.length km] 1 pc cs.length cc rfl rfl (fun g => hp.1.box.mono g.R) (.env (by (try simp only [liE, lO, lU, snd, aN]); rfl) (.chk (by ((try simp only [evE, liE, lO, lU, snd]); (try simp only [cmE])); omega) (.again rfl ⟨e, ?_, rfl⟩)))))
      unfold stateE
      rw [if_neg h2, if_pos h3]
      (simp only [evE, liE, lO, lU, snd, Sh.uss, Sh.us, atAddr, map_add0, List.append_nil])
    · ((try simp only [evE, liE, lO, lU, snd] at h3); (try simp only [cmE] at h3))
      have h4 : l[j].1 = 2 := by
        rcases hok with h | h | h <;> omega
      obtain ⟨i, hi, he⟩ := List.mem_iff_getElem.1 (hmem h4)
      have hst := stateE_snd hC.nodup hi h4 he.symm
      have hfi := hf i hi
      rw [he] at hfi
      rw [hst]
      refine .chk rfl (.chk rfl (.load1 (.map (some bm)) (some ⟨x, 0, none⟩) [slv p t.length cp, slv pc cs.length cc, .map (some bm), slv pm rm.length km] 2 rfl rfl (fun g => hp.1.box.mono g.R) rfl (.env (by (try simp only [liE, lO, lU, snd, aN]); rfl) ?_)))
      exact .lookup2 kitS (snd l[j].2) es clock f bm i true umS zI rfl ⟨_, rfl⟩ (fun g => g.R.m _ _ hes) hMk (by rw [hfi]; rfl) (by rw [hfi]; rfl) (.env (by (try simp only [liE, lO, lU, snd, aN]); rfl) (.no rfl (.again rfl ⟨e, by (simp only [evE, liE, lO, lU, snd, Sh.uss, Sh.us, atAddr, map_add0, List.append_nil]), rfl⟩)))
    rintro _ _ _ ⟨e2, rfl, rfl⟩
    exact .env (by (try simp only [liE, lO, lU, snd, aN]); rfl) (.again rfl ⟨e2, by (simp only [evE, liE, lO, lU, snd, Sh.uss, Sh.us, atAddr, map_add0, List.append_nil]), rfl⟩)
  rintro _ _ _ ⟨e2, rfl, rfl⟩
  refine .env (by (try simp only [liE, lO, lU, snd, aN]); rfl) (.alloc fun b1 => .append (n := j) (kx := 1) (qx := some ⟨b1, 0, none⟩) (capx := 1) (news := [.int .i64 (stateE cs l[j])]) elN hR (fun g => g.cells (j := 1) rfl rfl rfl) rfl (by simp [Value.oneCell']) (fun h => by cases h) (by simp [maxLen]; omega) (by omega) (fun q3 k3 m3 hr3 hk3 hq3 => .again rfl ⟨n - 1, by omega, q3, k3, e2, j + 1, ?_, by omega, ?_⟩))
  · (simp only [evE, liE, lO, lU, snd, Sh.uss, Sh.us, atAddr, map_add0, List.append_nil]); rw [add_i64 j (by omega)]
  · rw [hmapj, show intsL ((l.take j).map (stateE cs) ++ [stateE cs l[j]]) = intsL ((l.take j).map (stateE cs)) ++ [.int .i64 (stateE cs l[j])] from List.map_append]; exact hr3
end Go.Proofs.YtkhcfbdjmpodbaaDoor
