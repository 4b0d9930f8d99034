/- Chapter 30: the law AnalogyLevels. -/
import Derived.Test.YtpbbnmjkbfbelaaDoorYs
import Derived.Test.YtpbbnmjkbfbelaaDoorTcLevels
set_option linter.unusedSimpArgs false
set_option linter.unusedVariables false
namespace Go.Sy
open Go Go.RowKit
/-- A paradigm of the call's own that is written over: what is known of it is how it lies. -/
structure Loose (m1 m : Mem) (q : Option Addr) (cq : Nat) (rows : List LD) : Prop where
  row : Row m 39 1 q cq rows.length (rows.map LD.v)
  fs : ∀ r ∈ rows, r.fs ≠ [] → ∃ g cur, r.p = some ⟨g, 0, none⟩ ∧ m1 g = none ∧ m g = some (.cells cur 41 (0, 0)) ∧ r.fs.length * 2 ≤ cur.size ∧ ∀ j (hj : j < r.fs.length), (∃ b : Bool, cur[j * 2]? = some (.bool b)) ∧ cur[j * 2 + 1]? = some r.fs[j].w.v
  w : ∀ r ∈ rows, ∀ f ∈ r.fs, f.w.w ≠ [] → ∃ g cur, f.w.p = some ⟨g, 0, none⟩ ∧ m1 g = none ∧ m g = some (.cells cur 31 (0, 0)) ∧ f.w.w.length * 2 ≤ cur.size
theorem TabIn.loose {m1 mq m : Mem} {q : Option Addr} {cq : Nat} {rows : List LD} (h : TabIn mq q cq rows) (h1 : ∀ b, mq b ≠ none → m1 b = none) (h2 : ∀ b, mq b ≠ none → m b = mq b) : Loose m1 m q cq rows := by
  refine ⟨h.row.keep fun g _ hg => h2 g hg, fun r hr hne => ?_, fun r hr f hf hne => ?_⟩
  · rcases ((h.rows r hr).1.row hne).2 with ⟨_, k, _⟩ | ⟨g, cur, e1, e2, e3, _, e5, e6⟩
    · exact absurd (List.length_eq_zero_iff.1 k) hne
    · refine ⟨g, cur, e1, h1 g (by rw [e2]; simp), (h2 g (by rw [e2]; simp)).trans e2, by omega, fun j hj => ?_⟩
      obtain ⟨c1, c2⟩ := fcells_at r.fs j hj
      rw [← e6, List.getElem?_take, if_pos (by omega), Array.getElem?_toList] at c1 c2
      exact ⟨⟨_, c1⟩, c2⟩
  · rcases (((h.rows r hr).2 f hf).row hne).2 with ⟨_, k, _⟩ | ⟨g, cur, e1, e2, e3, _, e5, e6⟩
    · exact absurd (List.length_eq_zero_iff.1 k) hne
    · exact ⟨g, cur, e1, h1 g (by rw [e2]; simp), (h2 g (by rw [e2]; simp)).trans e2, by omega⟩
theorem TabIn.keepM {m m' : Mem} {q : Option Addr} {cq : Nat} {rows : List LD} (h : TabIn m q cq rows) (hk : ∀ b, m b ≠ none → m' b = m b) : TabIn m' q cq rows := h.keepT (fun b cur hb => hk b (by rw [hb]; simp)) (fun b cur hb => hk b (by rw [hb]; simp)) fun _ _ b cur _ hb _ => hk b (by rw [hb]; simp)
/-- Cells of a word are written over. -/
theorem Loose.setW {m1 m : Mem} {q : Option Addr} {cq : Nat} {rows : List LD} (h : Loose m1 m q cq rows) {g : Nat} {cur cur' : Array Value} (hg : m g = some (.cells cur 31 (0, 0))) (hs : cur'.size = cur.size) : Loose m1 (m.upd g (.cells cur' 31 (0, 0))) q cq rows := by
  refine ⟨h.row.keep fun g2 hq _ => Mem.upd_other _ _ fun e => ?_, fun r hr hne => ?_, fun r hr f hf hne => ?_⟩
  · obtain ⟨c2, hc2⟩ := h.row.at_cells hq
    rw [e, hg] at hc2; cases hc2
  · obtain ⟨g2, c2, a1, a2, a3, a4, a5⟩ := h.fs r hr hne
    refine ⟨g2, c2, a1, a2, (Mem.upd_other _ _ fun e => ?_).trans a3, a4, a5⟩
    rw [e, hg] at a3; cases a3
  · obtain ⟨g2, c2, a1, a2, a3, a4⟩ := h.w r hr f hf hne
    by_cases e : g2 = g
    · subst e
      rw [hg] at a3; cases a3
      exact ⟨g2, cur', a1, a2, Mem.upd_same _ _ _, by omega⟩
    · exact ⟨g2, c2, a1, a2, (Mem.upd_other _ _ e).trans a3, a4⟩
/-- Whether there is a form is written over. -/
theorem Loose.setF {m1 m : Mem} {q : Option Addr} {cq : Nat} {rows : List LD} (h : Loose m1 m q cq rows) {g k : Nat} {cur cur' : Array Value} {b : Bool} (hg : m g = some (.cells cur 41 (0, 0))) (hs : cur'.size = cur.size) (hk : cur'[k * 2]? = some (.bool b)) (ho : ∀ o, o ≠ k * 2 → cur'[o]? = cur[o]?) : Loose m1 (m.upd g (.cells cur' 41 (0, 0))) q cq rows := by
  refine ⟨h.row.keep fun g2 hq _ => Mem.upd_other _ _ fun e => ?_, fun r hr hne => ?_, fun r hr f hf hne => ?_⟩
  · obtain ⟨c2, hc2⟩ := h.row.at_cells hq
    rw [e, hg] at hc2; cases hc2
  · obtain ⟨g2, c2, a1, a2, a3, a4, a5⟩ := h.fs r hr hne
    by_cases e : g2 = g
    · subst e
      rw [hg] at a3; cases a3
      refine ⟨g2, cur', a1, a2, Mem.upd_same _ _ _, by omega, fun j hj => ?_⟩
      obtain ⟨b1, b2⟩ := a5 j hj
      refine ⟨?_, by rw [ho _ (by omega)]; exact b2⟩
      by_cases ej : j = k
      · subst ej; exact ⟨b, hk⟩
      · rw [ho _ (by omega)]; exact b1
    · exact ⟨g2, c2, a1, a2, (Mem.upd_other _ _ e).trans a3, a4, a5⟩
  · obtain ⟨g2, c2, a1, a2, a3, a4⟩ := h.w r hr f hf hne
    refine ⟨g2, c2, a1, a2, (Mem.upd_other _ _ fun e => ?_).trans a3, a4⟩
    rw [e, hg] at a3; cases a3
/-- How many forms a paradigm has. -/
def formsN (t : List LD) : Nat := (t.map fun r => r.fs.length).sum
theorem formsN_snoc {t : List LD} {i : Nat} (hi : i < t.length) : formsN (t.take (i + 1)) = formsN (t.take i) + t[i].fs.length := by
  unfold formsN
  rw [List.take_succ_eq_append_getElem hi, List.map_append, List.sum_append]; simp
theorem formsN_mem {t : List LD} {r : LD} (hr : r ∈ t) : r.fs.length ≤ formsN t := by
  induction t with
  | nil => simp at hr
  | cons x t ih =>
    unfold formsN at *
    rw [List.map_cons, List.sum_cons]
    rcases List.mem_cons.1 hr with rfl | hr
    · omega
    · have := ih hr; omega
theorem formsN_le {t : List LD} {B : Nat} (h : ∀ r ∈ t, r.fs.length ≤ B) : ∀ i, formsN (t.take i) ≤ i * B := fun i => by
  induction i with
  | zero => simp [formsN]
  | succ i ih =>
    rcases Nat.lt_or_ge i t.length with hi | hi
    · rw [formsN_snoc hi, Nat.add_mul]
      have := h _ (List.getElem_mem hi)
      omega
    · rw [List.take_of_length_le (by omega)] at ih ⊢
      rw [Nat.add_mul]; omega
theorem levR_small (t : List LD) (rw cl : Int) : (levR t rw cl).1.length ≤ 64 ∧ ∀ r ∈ (levR t rw cl).1, r.length < 2 ^ 62 ∧ ∀ f ∈ r, f.2.length < 2 ^ 62 := by
  have none : ∀ e : Int, (([], e) : List (List (Bool × List Snd)) × Int).1.length ≤ 64 ∧ ∀ r ∈ (([], e) : List (List (Bool × List Snd)) × Int).1, r.length < 2 ^ 62 ∧ ∀ f ∈ r, f.2.length < 2 ^ 62 := fun e => ⟨by simp, by simp⟩
  unfold levR
  split
  · exact none _
  · rename_i h0
    have h0 : checkT t = 0 := by simpa using h0
    obtain ⟨l64, l16, _, l32⟩ := checkT_zero h0
    split
    · exact none _
    · split
      · exact none _
      · rename_i r hr
        split
        · exact none _
        · rename_i F hF
          have hFl := l32 r (List.mem_of_getElem? hr) F (List.mem_of_getElem? hF)
          unfold levF
          split
          · exact none _
          · split
            · exact none _
            · refine ⟨by simpa [lvTab] using l64, fun x hx => ?_⟩
              unfold lvTab at hx
              obtain ⟨i, hi, rfl⟩ := List.getElem_of_mem hx
              rw [List.length_mapIdx] at hi
              rw [List.getElem_mapIdx]
              refine ⟨by rw [lvRow_len]; have := l16 _ (List.getElem_mem hi); omega, fun f hf => ?_⟩
              unfold lvRow at hf
              obtain ⟨k, hk, rfl⟩ := List.getElem_of_mem hf
              rw [List.length_mapIdx] at hk
              rw [List.getElem_mapIdx]
              have h32 := l32 _ (List.getElem_mem hi) _ (List.getElem_mem hk)
              unfold lvF lvW
              simp only []
              split
              · simp only [List.length_append, List.length_take, List.length_drop]; omega
              · omega
theorem chkI {ρ : Env} {i : Nat} {I len : IT} {j n : Nat} {q : Addr} (hI : I.eval ρ = (j : Int)) (hn : len.eval ρ = (n : Int)) (hj : j < n) (hp : ρ.ptr i = some q) : (BT.pick (.cmp .geq I (.lit 0)) (.pick (.cmp .lss I len) (.some i) (.lit false)) (.lit false)).eval ρ = true := by
  simp only [BT.eval, IT.eval, hI, hn, hp, cm, pick_and]; simp; omega
theorem chkO {ρ : Env} {i : Nat} {I : IT} {j s : Nat} {q : Addr} (hI : I.eval ρ = (j : Int)) (hp : ρ.ptr i = some q) : (BT.pick (.cmp .geq (.off I s (.lit 0)) (.lit 0)) (.some i) (.lit false)).eval ρ = true := by
  simp only [BT.eval, IT.eval, hI, hp, cm, pick_and]
  have h0 := Int.mul_nonneg (show (0 : Int) ≤ (j : Int) by omega) (show (0 : Int) ≤ (s : Int) by omega)
  simp
  exact h0
section
variable {P : Program} {c : Cx} {L : List Nat} {ρ : Env} {blks : List Blk} {m : Mem} {R : Value → HW → Prop} {Dn : Nat → List U → HW → Prop} {A : List (List U → HW → Prop)}
theorem cells_of_block {g : Nat} {cur : Array Value} {e : TypeId} (h : m g = some (.cells cur e (0, 0))) (gd : Good c L m) : Cells (vw c L ρ blks m) (some ⟨g, 0, none⟩) cur.toList := fun i x hx => ⟨g, 0, rfl, by rw [vw_mem gd h, Nat.zero_add]; simpa using hx⟩
end
end Go.Sy
namespace Go.Proofs.YtpbbnmjkbfbelaaDoor
open Go Go.Sy Go.RowKit
set_option maxHeartbeats 4000000 in
theorem l_AnalogyLevels (p : Option Addr) (cp : Nat) (t : List LD) (rw cl : Int) (hl : t.length ≤ maxLen) (h42 : ∀ r ∈ t, r.fs.length ≤ 2 ^ 48) (hf : ∀ r ∈ t, r.fs.length ≤ r.cap ∧ (r.p = none → r.cap = 0)) (hok : FormsOk t) : RetP Tryd.prog n_law30_AnalogyLevels [slv p t.length cp, .int .i64 rw, .int .i64 cl] (fun R => TableAt R p t ∧ VarsOk R) (.bool true) := by
  refine Fn.of S_law30_AnalogyLevels mx [.p p, .i t.length, .i cp, .i rw, .i cl] rfl rfl fun c hp => ?_
  obtain ⟨hp, hV⟩ := hp
  refine .chk (by ((try simp only [evE, liE, letsOf, letU, snd]); (try simp only [cmE])); omega) (.ite (fun _ => .callV c_works (fun g => hV.mono g.R) (.ret rfl rfl)) (fun h1 => ?_))
  ((try simp only [evE, liE, letsOf, letU, snd] at h1); (try simp only [cmE] at h1))
  have hl100 : t.length ≤ 100 := by omega
  refine .loop (fun n us _ => ∃ (e : Bool) (i : Nat), us = [.b e, .i (formsN (t.take i)), .i i] ∧ n + i = t.length ∧ ∀ j (hj : j < t.length), j < i → ∀ k (hk : k < t[j].fs.length), k < 301 → t[j].fs[k].w.w.length ≤ 100) t.length ⟨false, 0, rfl, rfl, fun j hj h => by omega⟩ ?_
  rintro n _ m _ ⟨e, i, rfl, hn, hw⟩
  have hN := formsN_le h42 i
  refine .env (by (try simp only [liE, letsOf, letU, snd, List.append_nil]); rfl) (.chk (by ((try simp only [evE, liE, letsOf, letU, snd]); (try simp only [cmE])); omega) (.ite (fun h2 => ?_) (fun h2 => ?_))) <;> ((try simp only [evE, liE, letsOf, letU, snd] at h2); (try simp only [cmE] at h2))
  · have hi : i < t.length := by omega
    have hpi := hp.2 _ (List.getElem_mem hi)
    have hri := h42 _ (List.getElem_mem hi)
    refine .loadLD t i hi (fun g => hp.1.mono g.R) (.env (by (try simp only [liE, letsOf, letU, snd, List.append_nil]); rfl) (.chk (by ((try simp only [evE, liE, letsOf, letU, snd]); (try simp only [cmE])); omega) ?_))
    refine .loop (fun n us _ => ∃ (e : Bool) (k : Nat), us = [.b e, .i k] ∧ n + k = t[i].fs.length ∧ ∀ j (hj : j < t[i].fs.length), j < k → t[i].fs[j].w.w.length ≤ 100) t[i].fs.length ⟨e, 0, rfl, rfl, fun j hj h => by omega⟩ ?_
    rintro n1 _ m _ ⟨e, k, rfl, hn1, hw1⟩
    refine .env (by (try simp only [liE, letsOf, letU, snd, List.append_nil]); rfl) (.loadLD t i hi (fun g => hp.1.mono g.R) (.env (by (try simp only [liE, letsOf, letU, snd, List.append_nil]); rfl) (.chk (by ((try simp only [evE, liE, letsOf, letU, snd]); (try simp only [cmE])); omega) (.ite (fun h3 => ?_) (fun h3 => .again rfl ⟨n - 1, by omega, e, i + 1, ?_, by omega, fun j hj hji k2 hk2 hk3 => ?_⟩)))))
    · replace h3 : (bif cm .lss (k : Int) (t[i].fs.length : Int) then cm .lss (k : Int) 301 else false) = true := h3
      rw [pick_and, Bool.and_eq_true] at h3
      simp only [cm, decide_eq_true_eq] at h3
      have hk : k < t[i].fs.length := by omega
      refine .loadLD t i hi (fun g => hp.1.mono g.R) (.env (by (try simp only [liE, letsOf, letU, snd, List.append_nil]); rfl) (.loadFW t[i].fs k hk (fun g => hpi.1.mono g.R) (.env (by (try simp only [liE, letsOf, letU, snd, List.append_nil]); rfl) (.chk (by ((try simp only [evE, liE, letsOf, letU, snd]); (try simp only [cmE])); omega) (.ite (fun h4 => .callV c_works (fun g => hV.mono g.R) (.ret rfl rfl)) (fun h4 => .again rfl ⟨n1 - 1, by omega, e, k + 1, ?_, by omega, fun j hj hjk => ?_⟩))))))
      · (simp only [evE, liE, letsOf, letU, snd, Sh.uss, Sh.us, atAddr, map_add0, List.append_nil]); rw [add_i64 k (by omega)]
      · ((try simp only [evE, liE, letsOf, letU, snd] at h4); (try simp only [cmE] at h4))
        rcases Nat.lt_or_ge j k with h | h
        · exact hw1 j hj h
        · have : j = k := by omega
          subst this; omega
    · (simp only [evE, liE, letsOf, letU, snd, Sh.uss, Sh.us, atAddr, map_add0, List.append_nil]); rw [add_i64 i (by omega), formsN_snoc hi, addI (by omega) (by omega)]; simp
    · replace h3 : (bif cm .lss (k : Int) (t[i].fs.length : Int) then cm .lss (k : Int) 301 else false) = false := h3
      have h3' : ¬ (k < t[i].fs.length ∧ k < 301) := fun ⟨a, b⟩ => by
        rw [show cm .lss (k : Int) (t[i].fs.length : Int) = true from by simp only [cm, decide_eq_true_eq]; omega, show cm .lss (k : Int) 301 = true from by simp only [cm, decide_eq_true_eq]; omega] at h3
        cases h3
      rcases Nat.lt_or_ge j i with h | h
      · exact hw j hj h k2 hk2 hk3
      · have : j = i := by omega
        subst this
        exact hw1 k2 hk2 (by omega)
  rw [List.take_of_length_le (by omega)] at hN ⊢
  refine .ite (fun h3 => .callV c_works (fun g => hV.mono g.R) (.ret rfl rfl)) (fun h3 => ?_)
  ((try simp only [evE, liE, letsOf, letU, snd] at h3); (try simp only [cmE] at h3))
  have hn300 : formsN t ≤ 300 := by omega
  have h300 : ∀ r ∈ t, r.fs.length ≤ 300 := fun r hr => Nat.le_trans (formsN_mem hr) hn300
  have h100 : ∀ r ∈ t, ∀ f ∈ r.fs, f.w.w.length ≤ 100 := fun r hr f hf => by
    obtain ⟨j, hj, rfl⟩ := List.getElem_of_mem hr
    obtain ⟨k, hk, rfl⟩ := List.getElem_of_mem hf
    exact hw j hj (by omega) k hk (by have := h300 _ hr; omega)
  clear hw hN
  -- the copy
  refine .loop (fun n us mm => ∃ (i : Nat) (qo : Option Addr) (co : Nat) (rows : List LD), us = [.p qo, .i rows.length, .i co, .i i] ∧ n + i = t.length ∧ rows.map LD.data = (t.take i).map LD.data ∧ rows.length = i ∧ TabIn mm qo co rows) t.length
    ⟨0, none, 0, [], rfl, rfl, rfl, rfl, ⟨Row.nil _ _ _, by simp⟩⟩ ?_
  rintro n _ m _ ⟨i, qo, co, rows, rfl, hn, hrd, hrl, hT⟩
  refine .env (by (try simp only [liE, letsOf, letU, snd, List.append_nil]); rfl) (.chk (by ((try simp only [evE, liE, letsOf, letU, snd]); (try simp only [cmE])); omega) (.ite (fun h6 => ?_) (fun h6 => ?_))) <;> ((try simp only [evE, liE, letsOf, letU, snd] at h6); (try simp only [cmE] at h6))
  · have hi : i < t.length := by omega
    have hpi := hp.2 _ (List.getElem_mem hi)
    have hri := h300 _ (List.getElem_mem hi)
    refine .loop (fun n us mm => ∃ (k : Nat) (ql : Option Addr) (cql : Nat) (l : List FD), us = [.p ql, .i l.length, .i cql, .i k] ∧ n + k = t[i].fs.length ∧ l.length = k ∧ l.map FD.data = (t[i].fs.take k).map FD.data ∧ (∀ f ∈ l, RowW mm 31 f.w.p f.w.cap f.w.w) ∧ Row mm 41 2 ql cql l.length (fcells l) ∧ TabIn mm qo co rows ∧
        (∀ r ∈ rows, ∀ b, r.fs ≠ [] → r.p = some ⟨b, 0, none⟩ → ql ≠ some ⟨b, 0, none⟩)) t[i].fs.length
      ⟨0, none, 0, [], rfl, rfl, rfl, rfl, by simp, Row.nil _ _ _, hT, by simp⟩ ?_
    clear hT
    rintro n1 _ m _ ⟨k, ql, cql, l, rfl, hn1, hll, hdat, hwk, hL, hT, hap⟩
    refine .env (by (try simp only [liE, letsOf, letU, snd, List.append_nil]); rfl) (.loadLD t i hi (fun g => hp.1.mono g.R) (.env (by (try simp only [liE, letsOf, letU, snd, List.append_nil]); rfl) (.chk (by ((try simp only [evE, liE, letsOf, letU, snd]); (try simp only [cmE])); omega) (.ite (fun h7 => ?_) (fun h7 => .alloc fun a1 => ?_))))) <;> ((try simp only [evE, liE, letsOf, letU, snd] at h7); (try simp only [cmE] at h7))
    · have hk : k < t[i].fs.length := by omega
      have hfo := hok _ (List.getElem_mem hi) _ (List.getElem_mem hk)
      have hfl := h100 _ (List.getElem_mem hi) _ (List.getElem_mem hk)
      have hfat := hpi.2 _ (List.getElem_mem hk)
      have hts := List.take_succ_eq_append_getElem hk
      refine .loadLD t i hi (fun g => hp.1.mono g.R) (.env (by (try simp only [liE, letsOf, letU, snd, List.append_nil]); rfl) (.loadHas t[i].fs k hk (fun g => hpi.1.mono g.R) (.env (by (try simp only [liE, letsOf, letU, snd, List.append_nil]); rfl) (.loadLD t i hi (fun g => hp.1.mono g.R) (.env (by (try simp only [liE, letsOf, letU, snd, List.append_nil]); rfl) (.loadFW t[i].fs k hk (fun g => hpi.1.mono g.R) ?_))))))
      generalize t[i].fs[k] = f at *
      refine .env (by (try simp only [liE, letsOf, letU, snd, List.append_nil]); rfl) (.callM (c_refCopy f.w.p f.w.cap f.w.w (by omega)) rfl rfl (fun g => hfat.mono g.R) ?_)
      rintro v mq hfr ⟨q1, k1, rfl, hr1⟩
      have hr1 := (RowW.of hr1).joinR (m := m) fun b hb => (hfr b hb).1
      have hmm : ∀ b, m b ≠ none → (m.join mq) b = m b := fun b hb => Mem.join_old hb
      refine ⟨[.p q1, .i (f.w.w.length : Nat), .i (k1 : Nat)], ⟨_, _, _, rfl⟩, (slv_fresh _ _ _ _ _).symm, .env (by (try simp only [liE, letsOf, letU, snd, List.append_nil]); rfl) (.alloc fun a1 => ?_)⟩
      replace hL := hL.keep (m' := m.join mq) fun g _ hg => hmm g hg
      replace hT := hT.joinL (mq := mq)
      replace hwk : ∀ f ∈ l, RowW (m.join mq) 31 f.w.p f.w.cap f.w.w := fun f hf => (hwk f hf).joinL
      generalize m.join mq = mm at *
      clear hfr hmm
      refine .append (n := l.length) (kx := 1) (qx := some ⟨a1, 0, none⟩) (capx := 1) (news := fcells [⟨f.has, ⟨q1, k1, f.w.w⟩⟩]) el39 hL (fun g => g.cells (j := 0) rfl rfl rfl) rfl (fcells_one _) (fun h => by cases h) (by simp [maxLen]; omega) (by omega) (fun q3 k3 m3 hr3 hk3 hq3 => ?_)
      have hkT : ∀ b cur e, e ≠ 41 → mm b = some (.cells cur e (0, 0)) → m3 b = mm b := fun b cur e he hb => hk3 b (fun ⟨o, ho⟩ => by
        obtain ⟨cur', hcur'⟩ := hL.at_cells ho
        rw [hcur'] at hb; cases hb; exact absurd rfl he) (by rw [hb]; simp)
      refine .env (by (try simp only [liE, letsOf, letU, snd, List.append_nil]); rfl) (.again rfl ⟨n1 - 1, by omega, k + 1, q3, k3, l ++ [⟨f.has, ⟨q1, k1, f.w.w⟩⟩], ?_, by omega, by simp [hll], ?_, fun f hf => ?_, ?_, hT.keepT (fun b cur hb => hkT b cur 39 (by decide) hb) (fun b cur hb => hkT b cur 31 (by decide) hb) (fun r hr b cur hrp hb hne => hk3 b (fun ⟨o, ho⟩ => ?_) (by rw [hb]; simp)), fun r hr b hne hrp hq => ?_⟩)
      · (simp only [evE, liE, letsOf, letU, snd, Sh.uss, Sh.us, atAddr, map_add0, List.append_nil]); rw [add_i64 k (by omega)]; simp only [List.length_append, List.length_cons, List.length_nil]
      · rw [hts, List.map_append, List.map_append, hdat]; rfl
      · rcases List.mem_append.1 hf with hf | hf
        · exact (hwk f hf).keepT fun b cur hb => hkT b cur 31 (by decide) hb
        · simp only [List.mem_cons, List.not_mem_nil, or_false] at hf
          subst hf
          exact hr1.keepT fun b cur hb => hkT b cur 31 (by decide) hb
      · rw [fcells_append, List.length_append]; exact hr3
      · exfalso
        rcases hL.2 with ⟨k1, _⟩ | ⟨g, _, k1, _⟩
        · rw [k1] at ho; cases ho
        · rw [k1] at ho; cases ho
          exact hap r hr _ hne hrp k1
      · rcases hq3 with h | ⟨g, h, hg⟩
        · rw [h] at hq; exact hap r hr b hne hrp hq
        · rw [h] at hq; cases hq
          obtain ⟨cur, hcur⟩ := ((hT.rows r hr).1.row hne).at_cells hrp
          rw [hcur] at hg; cases hg
    · have hkl : t[i].fs.length ≤ k := by omega
      rw [List.take_of_length_le hkl] at hdat
      refine .append (n := rows.length) (kx := 1) (qx := some ⟨a1, 0, none⟩) (capx := 1) (news := [slv ql l.length cql]) el38 hT.row (fun g => g.cells (j := 0) rfl rfl rfl) rfl (by simp; unfold slv; cases ql <;> rfl) (fun h => by cases h) (by simp [maxLen]; omega) (by omega) (fun q3 k3 m3 hr3 hk3 _ => ?_)
      have hkT : ∀ b cur e, e ≠ 39 → m b = some (.cells cur e (0, 0)) → m3 b = m b := fun b cur e he hb => hk3 b (fun ⟨o, ho⟩ => by
        obtain ⟨cur', hcur'⟩ := hT.row.at_cells ho
        rw [hcur'] at hb; cases hb; exact absurd rfl he) (by rw [hb]; simp)
      have hNow : RowF m ql cql l := ⟨fun _ => hL, hL.cap_le, row_cap0 hL⟩
      refine .env (by (try simp only [liE, letsOf, letU, snd, List.append_nil]); rfl) (.again rfl ⟨n - 1, by omega, i + 1, q3, k3, rows ++ [⟨ql, cql, l⟩], ?_, by omega, ?_, by simp [hrl], ⟨?_, fun r hr => ?_⟩⟩)
      · (simp only [evE, liE, letsOf, letU, snd, Sh.uss, Sh.us, atAddr, map_add0, List.append_nil]); rw [add_i64 i (by omega)]; simp only [List.length_append, List.length_cons, List.length_nil]
      · rw [List.take_succ_eq_append_getElem hi, List.map_append, List.map_append, hrd]
        simp only [List.map_cons, List.map_nil, LD.data, hdat]
      · rw [List.length_append, List.map_append]
        show Row m3 39 1 q3 k3 _ (_ ++ [slv ql l.length cql])
        exact hr3
      · rcases List.mem_append.1 hr with hr | hr
        · exact ⟨(hT.rows r hr).1.keepT fun b cur _ hb _ => hkT b cur 41 (by decide) hb, fun f hf => ((hT.rows r hr).2 f hf).keepT fun b cur hb => hkT b cur 31 (by decide) hb⟩
        · simp only [List.mem_cons, List.not_mem_nil, or_false] at hr
          subst hr
          exact ⟨hNow.keepT fun b cur _ hb _ => hkT b cur 41 (by decide) hb, fun f hf => (hwk f hf).keepT fun b cur hb => hkT b cur 31 (by decide) hb⟩
  rw [List.take_of_length_le (by omega)] at hrd
  have hf' : ∀ r ∈ t, r.fs.length < 2 ^ 62 ∧ r.fs.length ≤ r.cap ∧ (r.p = none → r.cap = 0) := fun r hr => ⟨by have := h300 r hr; omega, hf r hr⟩
  -- both answers
  refine .callM (c_Level p cp t rw cl (by omega) hf' hok) rfl rfl (fun g => hp.mono g.R) ?_
  rintro v mx' hfx ⟨qx, cx, xs, rfl, hx1, hX⟩
  refine ⟨[.p qx, .i xs.length, .i cx, .i (levR t rw cl).2], uOk_of rfl, (tab_fresh _ _ _ _ _ _).symm, .env (by (try simp only [liE, letsOf, letU, snd, List.append_nil]); rfl) ?_⟩
  refine .callM (c_refLevel p cp t rw cl (by omega) hf' hok) rfl rfl (fun g => hp.mono g.R) ?_
  rintro v my hfy ⟨qy, cy, ys, rfl, hy1, hY⟩
  refine ⟨[.p qy, .i ys.length, .i cy, .i (levR t rw cl).2], uOk_of rfl, (tab_fresh _ _ _ _ _ _).symm, .env (by (try simp only [liE, letsOf, letU, snd, List.append_nil]); rfl) ?_⟩
  have hX2 : TabIn ((m.join mx').join my) qx cx xs := (hX.joinR fun b hb => (hfx b hb).1).joinL
  have hY2 : TabIn ((m.join mx').join my) qy cy ys := hY.joinR fun b hb => (hfy b hb).1
  have hLo : Loose m ((m.join mx').join my) qx cx xs := hX.loose (fun b hb => (hfx b hb).1) fun b hb => by
    have h1 := (hfx b hb).1
    have h2 : (m.join mx') b = mx' b := by unfold Mem.join; rw [h1]
    rw [Mem.join_old (by rw [h2]; exact hb), h2]
  have hkm : ∀ b, m b ≠ none → ((m.join mx').join my) b = m b := fun b hb => by
    rw [Mem.join_old (by rw [Mem.join_old hb]; exact hb), Mem.join_old hb]
  obtain ⟨hs64, hssm⟩ := levR_small t rw cl
  have hxl : xs.length ≤ 64 := by
    have := congrArg List.length hx1
    rw [List.length_map] at this; omega
  have hxs := tab_small hx1 hssm
  generalize (m.join mx').join my = m5 at *
  generalize levR t rw cl = rr at *
  clear hfx hfy hX hY hssm
  refine .join (fun us mm => us = [.b false] ∧ mm = m5) (.no ?_ (.callV (c_sameT qx qy cx cy xs ys (by omega) hxs) (fun g => ⟨hX2.reads g, hY2.reads g⟩) (.env (by (try simp only [liE, letsOf, letU, snd, List.append_nil]); rfl) (.again rfl ⟨?_, rfl⟩)))) ?_
  · show cm .neq rr.2 rr.2 = false
    simp [cm]
  · (simp only [evE, liE, letsOf, letU, snd, Sh.uss, Sh.us, atAddr, map_add0, List.append_nil])
    rw [decide_eq_true (hx1.trans hy1.symm)]; rfl
  rintro _ _ _ ⟨rfl, rfl⟩
  clear hX2 hY2
  refine .env (by (try simp only [liE, letsOf, letU, snd, List.append_nil]); rfl) (.no rfl ?_)
  refine .loop (fun n us mm => ∃ i : Nat, us = [.i i] ∧ n + i = xs.length ∧ Loose m mm qx cx xs ∧ ∀ b, m b ≠ none → mm b = m b) xs.length ⟨0, rfl, rfl, hLo, hkm⟩ ?_
  clear hLo hkm
  rintro n1 _ m2 _ ⟨i2, rfl, hn1, hLo, hkm⟩
  refine .env (by (try simp only [liE, letsOf, letU, snd, List.append_nil]); rfl) (.chk (by ((try simp only [evE, liE, letsOf, letU, snd]); (try simp only [cmE])); omega) (.ite (fun h1 => ?_) (fun h1 => ?_))) <;> ((try simp only [evE, liE, letsOf, letU, snd] at h1); (try simp only [cmE] at h1))
  · have hi : i2 < xs.length := by omega
    obtain ⟨hrs, hws⟩ := hxs _ (List.getElem_mem hi)
    refine .loop (fun n us mm => ∃ k : Nat, us = [.i k] ∧ n + k = xs[i2].fs.length ∧ Loose m mm qx cx xs ∧ ∀ b, m b ≠ none → mm b = m b) xs[i2].fs.length ⟨0, rfl, rfl, hLo, hkm⟩ ?_
    clear hLo hkm
    rintro n2 _ m3 _ ⟨k, rfl, hn2, hLo, hkm⟩
    refine .env (by (try simp only [liE, letsOf, letU, snd, List.append_nil]); rfl) (.loadLD xs i2 hi (fun g => hLo.row.reads g) (.env (by (try simp only [liE, letsOf, letU, snd, List.append_nil]); rfl) (.chk (by ((try simp only [evE, liE, letsOf, letU, snd]); (try simp only [cmE])); omega) (.ite (fun h2 => ?_) (fun h2 => .again rfl ⟨n1 - 1, by omega, i2 + 1, ?_, by omega, hLo, hkm⟩))))) <;> ((try simp only [evE, liE, letsOf, letU, snd] at h2); (try simp only [cmE] at h2))
    · have hk : k < xs[i2].fs.length := by omega
      have hne : xs[i2].fs ≠ [] := fun h => by rw [h] at hk; simp at hk
      have hwk := hws _ (List.getElem_mem hk)
      refine .loop (fun n us mm => ∃ j : Nat, us = [.i j] ∧ n + j = xs[i2].fs[k].w.w.length ∧ Loose m mm qx cx xs ∧ ∀ b, m b ≠ none → mm b = m b) xs[i2].fs[k].w.w.length ⟨0, rfl, rfl, hLo, hkm⟩ ?_
      clear hLo hkm
      rintro n3 _ m4 _ ⟨j, rfl, hn3, hLo, hkm⟩
      obtain ⟨g, cur, e1, e2, e3, e4, e5⟩ := hLo.fs _ (List.getElem_mem hi) hne
      obtain ⟨⟨hb, eb⟩, ew⟩ := e5 k hk
      have ew' : cur.toList[k * 2 + 1]? = some xs[i2].fs[k].w.v := by rw [Array.getElem?_toList]; exact ew
      have eb' : cur.toList[k * 2]? = some (.bool hb) := by rw [Array.getElem?_toList]; exact eb
      have hcur : ∀ {L : List Nat} {ρ : Env} {blks : List Blk}, Sy.Good c L m4 → Cells (vw c L ρ blks m4) xs[i2].p cur.toList := fun gd => by rw [e1]; exact cells_of_block e3 gd
      have k1 : ∀ {ρ : Env} {i : Nat} {I len : IT}, ρ.ptr i = xs[i2].p → I.eval ρ = (k : Int) → len.eval ρ = (xs[i2].fs.length : Int) → (BT.pick (.cmp .geq I (.lit 0)) (.pick (.cmp .lss I len) (.some i) (.lit false)) (.lit false)).eval ρ = true := fun h1 h2 h3 => chkI h2 h3 hk (h1.trans e1)
      have k2 : ∀ {ρ : Env} {i : Nat} {I : IT}, ρ.ptr i = xs[i2].p → I.eval ρ = (k : Int) → (BT.pick (.cmp .geq (.off I 2 (.lit 0)) (.lit 0)) (.some i) (.lit false)).eval ρ = true := fun h1 h2 => chkO h2 (h1.trans e1)
      have ho1 : ∀ {ρ : Env} {I : IT}, I.eval ρ = (k : Int) → (IT.off (.lit 1) 1 (.off I 2 (.lit 0))).eval ρ = ((k * 2 + 1 : Nat) : Int) := fun h => by simp only [IT.eval, h]; simp <;> omega
      have ho0 : ∀ {ρ : Env} {I : IT}, I.eval ρ = (k : Int) → (IT.off I 2 (.lit 0)).eval ρ = ((k * 2 : Nat) : Int) := fun h => by simp only [IT.eval, h]; simp
      refine .env (by (try simp only [liE, letsOf, letU, snd, List.append_nil]); rfl) (.loadLD xs i2 hi (fun g => hLo.row.reads g) (.env (by (try simp only [liE, letsOf, letU, snd, List.append_nil]); rfl) (.chk (k1 rfl rfl rfl) (.chk (k2 rfl rfl) (.loadS cur.toList (k * 2 + 1) xs[i2].fs[k].w.p xs[i2].fs[k].w.w.length xs[i2].fs[k].w.cap (ho1 rfl) ew' (fun gd => hcur gd) (.env (by (try simp only [liE, letsOf, letU, snd, List.append_nil]); rfl) (.chk (by ((try simp only [evE, liE, letsOf, letU, snd]); (try simp only [cmE])); omega) (.ite (fun h3 => ?_) (fun h3 => ?_))))))))) <;> ((try simp only [evE, liE, letsOf, letU, snd] at h3); (try simp only [cmE] at h3))
      · have hj : j < xs[i2].fs[k].w.w.length := by omega
        have hwne : xs[i2].fs[k].w.w ≠ [] := fun h => by rw [h] at hj; simp at hj
        obtain ⟨g2, cur2, f1, f2, f3, f4⟩ := hLo.w _ (List.getElem_mem hi) _ (List.getElem_mem hk) hwne
        have k3 : ∀ {ρ : Env} {i : Nat} {I len : IT}, ρ.ptr i = xs[i2].fs[k].w.p → I.eval ρ = (j : Int) → len.eval ρ = (xs[i2].fs[k].w.w.length : Int) → (BT.pick (.cmp .geq I (.lit 0)) (.pick (.cmp .lss I len) (.some i) (.lit false)) (.lit false)).eval ρ = true := fun h1 h2 h3 => chkI h2 h3 hj (h1.trans f1)
        refine .loadLD xs i2 hi (fun g => hLo.row.reads g) (.env (by (try simp only [liE, letsOf, letU, snd, List.append_nil]); rfl) (.chk (k1 rfl rfl rfl) (.chk (k2 rfl rfl) (.loadS cur.toList (k * 2 + 1) xs[i2].fs[k].w.p xs[i2].fs[k].w.w.length xs[i2].fs[k].w.cap (ho1 rfl) ew' (fun gd => hcur gd) (.env (by (try simp only [liE, letsOf, letU, snd, List.append_nil]); rfl) (.chk (k3 rfl rfl rfl) (.store g2 (j * 2) cur2 31 rfl ?_ f3 (by simp; omega) (.again rfl ⟨n3 - 1, by omega, j + 1, ?_, by omega, hLo.setW f3 ?_, fun b hb => (Mem.upd_other _ _ fun e => hb (by rw [e]; exact f2)).trans (hkm b hb)⟩))))))))
        · simp only [atAddr, IT.eval]
          show (xs[i2].fs[k].w.p).map _ = _
          rw [f1]
          simp only [Option.map_some, addr_add]
          show some (Addr.mk g2 (0 + ((0 : Int) + (j : Int) * ((2 : Nat) : Int)).toNat) none) = _
          rw [show ((0 : Int) + (j : Int) * ((2 : Nat) : Int)).toNat = j * 2 by omega, Nat.zero_add]
        · (simp only [evE, liE, letsOf, letU, snd, Sh.uss, Sh.us, atAddr, map_add0, List.append_nil]); rw [add_i64 j (by omega)]
        · simp only [putAt, SV.dens, List.size_toArray, List.length_append, List.length_take, List.length_drop, List.length_cons, List.length_nil, Array.length_toList]; omega
      · refine .loadLD xs i2 hi (fun g => hLo.row.reads g) (.env (by (try simp only [liE, letsOf, letU, snd, List.append_nil]); rfl) (.loadLD xs i2 hi (fun g => hLo.row.reads g) (.env (by (try simp only [liE, letsOf, letU, snd, List.append_nil]); rfl) (.chk (k1 rfl rfl rfl) (.chk (k2 rfl rfl) (.load1 (.bool hb) xs[i2].p cur.toList (k * 2) rfl (ho0 rfl) (fun gd => hcur gd) eb' (.env (by (try simp only [liE, letsOf, letU, snd, List.append_nil]); rfl) (.chk (k1 rfl rfl rfl) (.chk (k2 rfl rfl) (.store g (k * 2) cur 41 rfl ?_ e3 (by simp; omega) (.again rfl ⟨n2 - 1, by omega, k + 1, ?_, by omega, hLo.setF (k := k) (b := !hb) e3 ?_ ?_ ?_, fun b hb => (Mem.upd_other _ _ fun e => hb (by rw [e]; exact e2)).trans (hkm b hb)⟩)))))))))))
        · simp only [atAddr, IT.eval]
          show (xs[i2].p).map _ = _
          rw [e1]
          simp only [Option.map_some, addr_add]
          show some (Addr.mk g (0 + ((0 : Int) + (k : Int) * ((2 : Nat) : Int)).toNat) none) = _
          rw [show ((0 : Int) + (k : Int) * ((2 : Nat) : Int)).toNat = k * 2 by omega, Nat.zero_add]
        · (simp only [evE, liE, letsOf, letU, snd, Sh.uss, Sh.us, atAddr, map_add0, List.append_nil]); rw [add_i64 k (by omega)]
        · simp only [putAt, SV.dens, List.size_toArray, List.length_append, List.length_take, List.length_drop, List.length_cons, List.length_nil, Array.length_toList]; omega
        · simp only [putAt, SV.dens, List.getElem?_toArray]
          rw [List.append_assoc, List.getElem?_append_right (by simp; omega)]
          simp only [List.length_take, Array.length_toList]
          rw [Nat.min_eq_left (by omega), Nat.sub_self]; rfl
        · intro o ho
          simp only [putAt, SV.dens, List.getElem?_toArray, List.length_cons, List.length_nil]
          rcases Nat.lt_or_ge o (k * 2) with h | h
          · rw [List.append_assoc, List.getElem?_append_left (by simp; omega), List.getElem?_take, if_pos h, Array.getElem?_toList]
          · rw [List.getElem?_append_right (by simp; omega)]
            simp only [List.length_append, List.length_take, Array.length_toList, List.length_cons, List.length_nil, List.getElem?_drop]
            rw [show k * 2 + (0 + 1) + (o - (min (k * 2) cur.size + (0 + 1))) = o by omega, Array.getElem?_toList]
    · (simp only [evE, liE, letsOf, letU, snd, Sh.uss, Sh.us, atAddr, map_add0, List.append_nil]); rw [add_i64 i2 (by omega)]
  · have hT2 := hT.keepM hkm
    refine .join (fun us mm => us = [.b true]) (.callV (c_sameT p qo cp co t rows (by omega) fun r hr => ⟨(hf' r hr).1, fun f hf => by have := h100 r hr f hf; omega⟩) (fun g => ⟨hp.mono g.R, hT2.reads g⟩) (.env (by (try simp only [liE, letsOf, letU, snd, List.append_nil]); rfl) (.yes ?_ (.callV c_works (fun g => hV.mono g.R) (.again rfl rfl))))) ?_
    · exact decide_eq_true hrd.symm
    rintro _ _ _ rfl
    exact .ret rfl rfl
end Go.Proofs.YtpbbnmjkbfbelaaDoor
