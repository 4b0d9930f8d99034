/- Chapter 30: Level. -/
import Derived.Test.YtpbbnmjkbfbelaaDoorJs
set_option linter.unusedSimpArgs false
set_option linter.unusedVariables false
namespace Go.Sy
open Go Go.RowKit
def FD.data (f : FD) : Bool × List Snd := (f.has, f.w.w)
def LD.data (r : LD) : List (Bool × List Snd) := r.fs.map FD.data
def lvW (t : List LD) (base : List Snd) (k : Nat) (f : FD) : List Snd := base ++ f.w.w.drop (f.w.w.length - endK t k)
def lvF (t : List LD) (base : List Snd) (row i k : Nat) (f : FD) : Bool × List Snd := (f.has, if i = row ∧ f.has = true then lvW t base k f else f.w.w)
def lvRow (t : List LD) (base : List Snd) (row i : Nat) (r : LD) : List (Bool × List Snd) := r.fs.mapIdx fun k f => lvF t base row i k f
def lvTab (t : List LD) (base : List Snd) (row : Nat) : List (List (Bool × List Snd)) := t.mapIdx fun i r => lvRow t base row i r
def longF (x : Bool × List Snd) : Bool := decide (x.2.length > 32)
def levF (t : List LD) (row cell : Nat) (r : LD) (F : FD) : List (List (Bool × List Snd)) × Int :=
  if F.has = false then ([], 5) else if (lvRow t (F.w.w.take (F.w.w.length - endK t cell)) row row r).any longF = true then ([], 11) else (lvTab t (F.w.w.take (F.w.w.length - endK t cell)) row, 0)
def levR (t : List LD) (rw cl : Int) : List (List (Bool × List Snd)) × Int :=
  if checkT t ≠ 0 then ([], checkT t) else if rw < 0 ∨ rw ≥ t.length ∨ cl < 0 then ([], 3) else match t[rw.toNat]? with
    | none => ([], 3)
    | some r => match r.fs[cl.toNat]? with
      | none => ([], 3)
      | some F => levF t rw.toNat cl.toNat r F
/-- A row of forms of the call's own. -/
structure RowF (m : Mem) (q : Option Addr) (cap : Nat) (fs : List FD) : Prop where
  row : fs ≠ [] → Row m 41 2 q cap fs.length (fcells fs)
  le : fs.length ≤ cap
  nil : q = none → cap = 0
structure TabIn (m : Mem) (q : Option Addr) (cq : Nat) (rows : List LD) : Prop where
  row : Row m 39 1 q cq rows.length (rows.map LD.v)
  rows : ∀ r ∈ rows, RowF m r.p r.cap r.fs ∧ ∀ f ∈ r.fs, RowW m 31 f.w.p f.w.cap f.w.w
def TabR (mq : Mem) (v : Value) (r : List (List (Bool × List Snd)) × Int) : Prop := ∃ q cq rows, v = .tuple #[slv q rows.length cq, .int .i64 r.2] ∧ rows.map LD.data = r.1 ∧ TabIn mq q cq rows
theorem TabR.none (mq : Mem) (e : Int) : TabR mq (.tuple #[.slice .none 0 0, .int .i64 e]) ([], e) := ⟨.none, 0, [], rfl, rfl, Row.nil _ _ _, by simp⟩
theorem RowF.keepT {m m' : Mem} {q : Option Addr} {cap : Nat} {fs : List FD} (h : RowF m q cap fs) (hk : ∀ b cur, q = some ⟨b, 0, none⟩ → m b = some (.cells cur 41 (0, 0)) → fs ≠ [] → m' b = m b) : RowF m' q cap fs := ⟨fun hw => by
  have hr := h.row hw
  refine ⟨hr.1, ?_⟩
  rcases hr.2 with h2 | ⟨g, cur, h1, h2, h3⟩
  · exact .inl h2
  · exact .inr ⟨g, cur, h1, (hk g cur h1 h2 hw).trans h2, h3⟩, h.le, h.nil⟩
theorem RowF.joinL {m mq : Mem} {q : Option Addr} {cap : Nat} {fs : List FD} (h : RowF m q cap fs) : RowF (m.join mq) q cap fs := h.keepT fun b cur _ hb _ => Mem.join_old (by rw [hb]; simp)
theorem TabIn.keepT {m m' : Mem} {q : Option Addr} {cq : Nat} {rows : List LD} (h : TabIn m q cq rows) (h39 : ∀ b cur, m b = some (.cells cur 39 (0, 0)) → m' b = m b) (h31 : ∀ b cur, m b = some (.cells cur 31 (0, 0)) → m' b = m b) (h41 : ∀ r ∈ rows, ∀ b cur, r.p = some ⟨b, 0, none⟩ → m b = some (.cells cur 41 (0, 0)) → r.fs ≠ [] → m' b = m b) : TabIn m' q cq rows := by
  refine ⟨?_, fun r hr => ⟨(h.rows r hr).1.keepT fun b cur hb => h41 r hr b cur hb, fun f hf => ((h.rows r hr).2 f hf).keepT h31⟩⟩
  refine h.row.keep fun g hq _ => ?_
  obtain ⟨cur, hcur⟩ := h.row.at_cells hq
  exact h39 g cur hcur
theorem TabIn.joinL {m mq : Mem} {q : Option Addr} {cq : Nat} {rows : List LD} (h : TabIn m q cq rows) : TabIn (m.join mq) q cq rows := h.keepT (fun b cur hb => Mem.join_old (by rw [hb]; simp)) (fun b cur hb => Mem.join_old (by rw [hb]; simp)) fun _ _ b cur _ hb _ => Mem.join_old (by rw [hb]; simp)
theorem checkT_zero {t : List LD} (h : checkT t = 0) : t.length ≤ 64 ∧ (∀ r ∈ t, r.fs.length ≤ 16) ∧ (∀ (h0 : 0 < t.length), ∀ r ∈ t, r.fs.length = t[0].fs.length) ∧ ∀ r ∈ t, ∀ f ∈ r.fs, f.w.w.length ≤ 32 := by
  unfold checkT at h
  split at h
  · rename_i h1; exact absurd h h1
  · rename_i h1
    simp only [ne_eq, Decidable.not_not] at h1
    unfold tshape at h1
    split at h1
    · cases h1
    · rename_i h2
      split at h1
      · cases h1
      · rename_i h3
        simp only [not_or, Bool.not_eq_true] at h2 h3
        rw [List.any_eq_false] at h3
        have h2' := List.any_eq_false.1 h2.2
        refine ⟨by omega, fun r hr => ?_, fun h0 r hr => ?_, fun r hr f hf => checkL_all h _ (List.mem_flatMap.2 ⟨r, hr, List.mem_map_of_mem hf⟩)⟩
        · have := h2' r hr
          simp only [wide, decide_eq_true_eq] at this; omega
        · have := h3 r hr
          rw [head_len h0] at this
          simp only [badRow, Bool.or_eq_true, decide_eq_true_eq, not_or, ne_eq, Decidable.not_not] at this
          exact this.1
theorem lvRow_at {t : List LD} {base : List Snd} {row i k : Nat} {r : LD} (hk : k < r.fs.length) : (lvRow t base row i r)[k]? = some (lvF t base row i k r.fs[k]) := by
  unfold lvRow
  rw [List.getElem?_mapIdx, List.getElem?_eq_getElem hk]; rfl
theorem lvRow_len (t : List LD) (base : List Snd) (row i : Nat) (r : LD) : (lvRow t base row i r).length = r.fs.length := by simp [lvRow]
theorem lvTab_take {t : List LD} {base : List Snd} {row i : Nat} (hi : i < t.length) : (lvTab t base row).take (i + 1) = (lvTab t base row).take i ++ [lvRow t base row i t[i]] := by
  have hl : i < (lvTab t base row).length := by simpa [lvTab] using hi
  rw [List.take_succ_eq_append_getElem hl]
  congr 2
  simp [lvTab]
theorem endN_mem {h w : List Snd} {l : List (List Snd)} (hw : w ∈ l) : endN h l ≤ csl w h := by
  have key : ∀ (l : List (List Snd)) (n : Nat), l.foldl (fun n w => min n (csl w h)) n ≤ n ∧ (w ∈ l → l.foldl (fun n w => min n (csl w h)) n ≤ csl w h) := fun l => by
    induction l with
    | nil => intro n; exact ⟨Nat.le_refl _, fun h => by simp at h⟩
    | cons x l ih =>
      intro n
      rw [List.foldl_cons]
      have := ih (min n (csl x h))
      refine ⟨Nat.le_trans this.1 (Nat.min_le_left ..), fun hx => ?_⟩
      rcases List.mem_cons.1 hx with rfl | hx
      · exact Nat.le_trans this.1 (Nat.min_le_right ..)
      · exact this.2 hx
  exact (key l _).2 hw
theorem endK_le {t : List LD} {k : Nat} {r : LD} {f : FD} (hr : r ∈ t) (hf : r.fs[k]? = some f) (hh : f.has = true) : endK t k ≤ f.w.w.length := by
  have hm : f.w ∈ knownF t k := List.mem_filterMap.2 ⟨r, hr, by rw [hf]; simp [hh]⟩
  have hm' : f.w.w ∈ (knownF t k).map (·.w) := List.mem_map_of_mem hm
  unfold endK
  generalize (knownF t k).map (·.w) = l at hm'
  cases l with
  | nil => simp at hm'
  | cons h l =>
    have := endN_mem (h := h) hm'
    have h2 := (csl_le f.w.w h).1
    exact Nat.le_trans this h2
theorem level_store {m m' : Mem} {qn : Option Addr} {cn g : Nat} {now : List FD} {qo : Option Addr} {co : Nat} {rows : List LD} (hq : qn = some ⟨g, 0, none⟩) (hNow : RowF m qn cn now) (hne : now ≠ []) (ho : ∀ b, b ≠ g → m' b = m b) (hap : ∀ r ∈ rows, ∀ b, r.fs ≠ [] → r.p = some ⟨b, 0, none⟩ → qn ≠ some ⟨b, 0, none⟩) (hT : TabIn m qo co rows) :
    TabIn m' qo co rows ∧ (∀ q c w, RowW m 31 q c w → RowW m' 31 q c w) ∧ ∀ q c n xs, Row m 3 1 q c n xs → Row m' 3 1 q c n xs := by
  obtain ⟨cur, hcur⟩ := (hNow.row hne).at_cells hq
  have hk : ∀ b cur e, e ≠ 41 → m b = some (.cells cur e (0, 0)) → m' b = m b := fun b cur' e he hb => ho b fun h => by
    rw [h, hcur] at hb; cases hb; exact he rfl
  refine ⟨hT.keepT (fun b cur hb => hk b cur 39 (by decide) hb) (fun b cur hb => hk b cur 31 (by decide) hb) fun r hr b cur hrp hb hrne => ho b fun h => hap r hr b hrne hrp (by rw [hq, h]), fun q c w h => h.keepT fun b cur hb => hk b cur 31 (by decide) hb, fun q c n xs h => h.keep fun g2 hg2 _ => ?_⟩
  obtain ⟨cur2, hcur2⟩ := h.at_cells hg2
  exact hk g2 cur2 3 (by decide) hcur2
theorem take_set_snoc {α : Type} {l : List α} {k : Nat} {x : α} (hk : k < l.length) : (l.set k x).take (k + 1) = l.take k ++ [x] := by
  have h2 : k < (l.set k x).length := by simpa using hk
  rw [List.take_succ_eq_append_getElem h2, List.getElem_set_self, List.take_set]
  congr 1
  rw [List.set_eq_of_length_le (by simp; omega)]
theorem lvRow_take {t : List LD} {base : List Snd} {row i k : Nat} {r : LD} (hk : k < r.fs.length) : (lvRow t base row i r).take (k + 1) = (lvRow t base row i r).take k ++ [lvF t base row i k r.fs[k]] := by
  have h2 : k < (lvRow t base row i r).length := by rw [lvRow_len]; exact hk
  rw [List.take_succ_eq_append_getElem h2]
  have := lvRow_at (t := t) (base := base) (row := row) (i := i) hk
  rw [List.getElem?_eq_getElem h2] at this
  rw [Option.some.inj this]
end Go.Sy
namespace Go.Proofs.YtpbbnmjkbfbelaaDoor
open Go Go.Sy Go.RowKit
set_option maxHeartbeats 4000000 in
theorem c_Level (p : Option Addr) (cp : Nat) (t : List LD) (rw cl : Int) (hl : t.length < 2 ^ 62) (hf : ∀ r ∈ t, r.fs.length < 2 ^ 62 ∧ r.fs.length ≤ r.cap ∧ (r.p = none → r.cap = 0)) (hok : FormsOk t) : FnM Tryd.prog n_analogy_Level [slv p t.length cp, .int .i64 rw, .int .i64 cl] (fun R => TableAt R p t) fun v mq _ => TabR mq v (levR t rw cl) := by
  refine FnM.of S_analogy_Level mx [.p p, .i t.length, .i cp, .i rw, .i cl] rfl rfl fun c hp => .callV (c_Check p cp t hl (fun r hr => (hf r hr).1) hok) (fun g => hp.mono g.R) (.env (by (try simp only [liE, letsOf, letU, snd, List.append_nil]); rfl) (.ite (fun h1 => .ret rfl ?_) (fun h1 => ?_))) <;> ((try simp only [evE, liE, letsOf, letU, snd] at h1); (try simp only [cmE] at h1))
  · have : levR t rw cl = ([], checkT t) := by unfold levR; rw [if_pos h1]
    rw [this]; exact TabR.none _ _
  rw [h1]
  obtain ⟨l64, l16, leq, l32⟩ := checkT_zero h1
  have hR : levR t rw cl = if rw < 0 ∨ rw ≥ t.length ∨ cl < 0 then ([], 3) else match t[rw.toNat]? with
    | none => ([], 3)
    | some r => match r.fs[cl.toNat]? with
      | none => ([], 3)
      | some F => levF t rw.toNat cl.toNat r F := by unfold levR; rw [if_neg (fun h => h h1)]
  refine .ite (fun h2 => .ret rfl ?_) (fun h2 => .chk (by ((try simp only [evE, liE, letsOf, letU, snd]); (try simp only [cmE])); omega) (.ite (fun h3 => .ret rfl ?_) (fun h3 => ?_))) <;> ((try simp only [evE, liE, letsOf, letU, snd] at h2); (try simp only [cmE] at h2))
  · rw [hR, if_pos (.inl h2)]; exact TabR.none _ _
  · replace h3 : (bif cm .geq rw (t.length : Int) then true else cm .lss cl 0) = true := h3
    have : rw < 0 ∨ rw ≥ t.length ∨ cl < 0 := by
      simp only [cm] at h3
      by_cases h : rw ≥ t.length
      · exact .inr (.inl h)
      · simp [h] at h3; exact .inr (.inr h3)
    rw [hR, if_pos this]; exact TabR.none _ _
  replace h3 : (bif cm .geq rw (t.length : Int) then true else cm .lss cl 0) = false := h3
  have h3' : rw < t.length ∧ 0 ≤ cl := by
    simp only [cm] at h3
    by_cases h : rw ≥ t.length
    · simp [h] at h3
    · simp [h] at h3; omega
  obtain ⟨row, rfl⟩ : ∃ n : Nat, rw = n := ⟨rw.toNat, by omega⟩
  obtain ⟨cell, rfl⟩ : ∃ n : Nat, cl = n := ⟨cl.toNat, by omega⟩
  have hrow : row < t.length := by omega
  have h0 : 0 < t.length := by omega
  rw [hR, if_neg (by omega), Int.toNat_natCast, Int.toNat_natCast, List.getElem?_eq_getElem hrow]
  clear hR
  have hprow := hp.2 _ (List.getElem_mem hrow)
  refine .loadLD t row hrow (fun g => hp.1.mono g.R) (.env (by (try simp only [liE, letsOf, letU, snd, List.append_nil]); rfl) (.chk (by ((try simp only [evE, liE, letsOf, letU, snd]); (try simp only [cmE])); omega) (.ite (fun h4 => .ret rfl ?_) (fun h4 => ?_)))) <;> ((try simp only [evE, liE, letsOf, letU, snd] at h4); (try simp only [cmE] at h4))
  · have : t[row].fs[cell]? = none := List.getElem?_eq_none (by omega)
    simp only [this]; exact TabR.none _ _
  have hcell : cell < t[row].fs.length := by omega
  simp only [List.getElem?_eq_getElem hcell]
  refine .loadLD t row hrow (fun g => hp.1.mono g.R) (.env (by (try simp only [liE, letsOf, letU, snd, List.append_nil]); rfl) (.loadFD t[row].fs cell hcell (fun g => hprow.1.mono g.R) (.env (by (try simp only [liE, letsOf, letU, snd, List.append_nil]); rfl) (.alloc fun a0 => .ite (fun h5 => .ret rfl ?_) (fun h5 => ?_)))))
  · replace h5 : (!t[row].fs[cell].has) = true := h5
    have : levF t row cell t[row] t[row].fs[cell] = ([], 5) := by unfold levF; rw [if_pos (by simpa using h5)]
    rw [this]; exact TabR.none _ _
  replace h5 : (!t[row].fs[cell].has) = false := h5
  have hlev : levF t row cell t[row] t[row].fs[cell] = if (lvRow t (t[row].fs[cell].w.w.take (t[row].fs[cell].w.w.length - endK t cell)) row row t[row]).any longF = true then ([], 11) else (lvTab t (t[row].fs[cell].w.w.take (t[row].fs[cell].w.w.length - endK t cell)) row, 0) := by unfold levF; rw [if_neg (by simpa using h5)]
  rw [hlev]
  clear hlev
  have hF := hok _ (List.getElem_mem hrow) _ (List.getElem_mem hcell)
  have hFl := l32 _ (List.getElem_mem hrow) _ (List.getElem_mem hcell)
  have hFat := hprow.2 _ (List.getElem_mem hcell)
  have hn0 := leq h0
  have hrn := hn0 _ (List.getElem_mem hrow)
  have h16 := l16 _ (List.getElem_mem h0)
  have hget : t[row].fs[cell]? = some t[row].fs[cell] := List.getElem?_eq_getElem hcell
  generalize t[row].fs[cell] = F at *
  refine .callM (c_endings p cp t t[0].fs.length h0 (by omega) hn0 h16 l32) rfl rfl (fun g => hp.mono g.R) ?_
  rintro v mq hfr ⟨qe, ce, rfl, hre⟩
  refine ⟨[.p qe, .i (t[0].fs.length : Nat), .i (ce : Nat)], ⟨_, _, _, rfl⟩, (slv_fresh _ _ _ _ _).symm, .env (by (try simp only [liE, letsOf, letU, snd, List.append_nil]); rfl) ?_⟩
  replace hre := hre.joinR (m := Mem.emp) fun b hb => rfl
  generalize Mem.emp.join mq = m at hre ⊢
  clear hfr
  have hEk : ∀ k, k < t[0].fs.length → ((List.range t[0].fs.length).map fun k => Value.int .i64 (endK t k : Nat))[k]? = some (.int .i64 (endK t k : Nat)) := fun k hk => by rw [List.getElem?_map, List.getElem?_range hk]; rfl
  have hcn : cell < t[0].fs.length := by omega
  have hEF : endK t cell ≤ F.w.w.length := endK_le (List.getElem_mem hrow) hget (by simpa using h5)
  refine .chk (by ((try simp only [evE, liE, letsOf, letU, snd]); (try simp only [cmE])); omega) (.elem1 (.int .i64 (endK t cell : Nat)) _ cell t[0].fs.length rfl rfl hcn (fun g => hre.reads g) (hEk cell hcn) (.env (by (try simp only [liE, letsOf, letU, snd, List.append_nil]); rfl) ?_))
  obtain ⟨nb, hnb⟩ : ∃ nb, nb = F.w.w.length - endK t cell := ⟨_, rfl⟩
  have enb : ar .sub .i64 (F.w.w.length : Int) (endK t cell : Nat) = (nb : Int) := by rw [subI (by omega) (by omega)]; omega
  have ofl := hF.2.le
  rw [← hnb]
  refine .chk ?_ (.chk (by ((try simp only [evE, liE, letsOf, letU, snd]); (try simp only [cmE])); omega) ?_)
  · show (bif cm .leq 0 (ar .sub .i64 (F.w.w.length : Int) (endK t cell : Nat)) then cm .leq (ar .sub .i64 (F.w.w.length : Int) (endK t cell : Nat)) (F.w.cap : Int) else false) = true
    rw [enb]
    simp only [cm, pick_and, Bool.and_eq_true, decide_eq_true_eq]; omega
  -- the rows
  refine .loop (fun n us mm => ∃ (i : Nat) (qo : Option Addr) (co : Nat) (rows : List LD), us = [.p none, .i 0, .i 0, .i 0, .p qo, .i rows.length, .i co, .i i] ∧ n + i = t.length ∧ rows.map LD.data = (lvTab t (F.w.w.take nb) row).take i ∧ rows.length = i ∧ TabIn mm qo co rows ∧
      (row < i → (lvRow t (F.w.w.take nb) row row t[row]).any longF = false) ∧ Row mm 3 1 qe ce t[0].fs.length ((List.range t[0].fs.length).map fun k => .int .i64 (endK t k : Nat))) t.length
    ⟨0, none, 0, [], rfl, rfl, by simp, rfl, ⟨Row.nil _ _ _, by simp⟩, fun h => by omega, hre⟩ ?_
  clear hre
  rintro n _ m _ ⟨i, qo, co, rows, rfl, hn, hrd, hrl, hT, hsh, hre⟩
  refine .env (by (try simp only [liE, letsOf, letU, snd, List.append_nil]); rfl) (.ite (fun h6 => ?_) (fun h6 => .ret rfl ?_)) <;> ((try simp only [evE, liE, letsOf, letU, snd] at h6); (try simp only [cmE] at h6))
  · have hi : i < t.length := by omega
    have hri := hn0 _ (List.getElem_mem hi)
    have hfi := hf _ (List.getElem_mem hi)
    have hpi := hp.2 _ (List.getElem_mem hi)
    refine .loadLD t i hi (fun g => hp.1.mono g.R) (.env (by (try simp only [liE, letsOf, letU, snd, List.append_nil]); rfl) (.callM (c_cloneF t[i].p t[i].cap t[i].fs hfi.2.1 hfi.2.2 (by omega)) rfl rfl (fun g => hpi.1.mono g.R) ?_))
    rintro v mq hfr ⟨qn, cn, rfl, hrn', hlen, hnil⟩
    refine ⟨[.p qn, .i (t[i].fs.length : Nat), .i (cn : Nat)], ⟨_, _, _, rfl⟩, (slv_fresh _ _ _ _ _).symm, .env (by (try simp only [liE, letsOf, letU, snd, List.append_nil]); rfl) (.chk (by ((try simp only [evE, liE, letsOf, letU, snd]); (try simp only [cmE])); omega) ?_)⟩
    have hap : ∀ r ∈ rows, ∀ b, r.fs ≠ [] → t[i].fs ≠ [] → r.p = some ⟨b, 0, none⟩ → qn ≠ some ⟨b, 0, none⟩ := fun r hr b hne hne2 hrp hq => by
      obtain ⟨cur, hcur⟩ := ((hT.rows r hr).1.row hne).at_cells hrp
      obtain ⟨cur2, hcur2⟩ := (hrn' hne2).at_cells hq
      have := (hfr b (by rw [hcur2]; simp)).1
      rw [hcur] at this; cases this
    have hNow : RowF (m.join mq) qn cn t[i].fs := ⟨fun hne => (hrn' hne).joinR fun b hb => (hfr b hb).1, hlen, hnil⟩
    replace hT := hT.joinL (mq := mq)
    replace hre := hre.joinL (mq := mq)
    generalize m.join mq = m1 at hNow hT hre ⊢
    clear hfr hrn' hlen hnil
    refine .loop (fun n us mm => ∃ (k : Nat) (now : List FD), us = [.p none, .i 0, .i 0, .i 0, .i k] ∧ n + k = t[i].fs.length ∧ now.length = t[i].fs.length ∧ (∀ j, k ≤ j → now[j]? = t[i].fs[j]?) ∧ (now.take k).map FD.data = (lvRow t (F.w.w.take nb) row i t[i]).take k ∧ (∀ f ∈ now.take k, RowW mm 31 f.w.p f.w.cap f.w.w) ∧ RowF mm qn cn now ∧ TabIn mm qo co rows ∧
        (i = row → ∀ x ∈ (lvRow t (F.w.w.take nb) row i t[i]).take k, longF x = false) ∧ Row mm 3 1 qe ce t[0].fs.length ((List.range t[0].fs.length).map fun k => .int .i64 (endK t k : Nat))) t[i].fs.length
      ⟨0, t[i].fs, rfl, rfl, rfl, fun _ _ => rfl, by simp, by simp, hNow, hT, fun _ => by simp, hre⟩ ?_
    clear hNow hT hre
    rintro n1 _ m _ ⟨k, now, rfl, hn1, hnl, hnow, hdat, hwk, hNow, hT, hshk, hre⟩
    refine .env (by (try simp only [liE, letsOf, letU, snd, List.append_nil]); rfl) (.ite (fun h7 => ?_) (fun h7 => .alloc fun a1 => ?_)) <;> ((try simp only [evE, liE, letsOf, letU, snd] at h7); (try simp only [cmE] at h7))
    · have hk : k < t[i].fs.length := by omega
      have hkn : k < now.length := by omega
      have hne : now ≠ [] := fun h => by rw [h] at hkn; simp at hkn
      have hnei : t[i].fs ≠ [] := fun h => by rw [h] at hk; simp at hk
      have hfk : now[k] = t[i].fs[k] := by
        have := hnow k (Nat.le_refl _)
        rw [List.getElem?_eq_getElem hkn, List.getElem?_eq_getElem hk] at this
        exact Option.some.inj this
      have hfo := hok _ (List.getElem_mem hi) _ (List.getElem_mem hk)
      have hfl := l32 _ (List.getElem_mem hi) _ (List.getElem_mem hk)
      have hfat := hpi.2 _ (List.getElem_mem hk)
      have hlk := lvRow_take (t := t) (base := F.w.w.take nb) (row := row) (i := i) hk
      have hgk : t[i].fs[k]? = some t[i].fs[k] := List.getElem?_eq_getElem hk
      have hap' : ∀ r ∈ rows, ∀ b, r.fs ≠ [] → r.p = some ⟨b, 0, none⟩ → qn ≠ some ⟨b, 0, none⟩ := fun r hr b h1 h2 => hap r hr b h1 hnei h2
      have hnlI : (t[i].fs.length : Int) = (now.length : Int) := by rw [hnl]
      refine .loadFD now k hkn (fun g => (hNow.row hne).reads g) (hn := hnlI) ?_
      rw [hfk]
      generalize hff : t[i].fs[k] = f at *
      refine .env (by (try simp only [liE, letsOf, letU, snd, List.append_nil]); rfl) (.alloc fun a1 => .callM (c_cloneS f.w hfo.2 (by omega)) rfl rfl (fun g => hfat.mono g.R) ?_)
      rintro v mq hfr ⟨q1, c1, rfl, hr1⟩
      refine ⟨[.p q1, .i (f.w.w.length : Nat), .i (c1 : Nat)], ⟨_, _, _, rfl⟩, (slv_fresh _ _ _ _ _).symm, .env (by (try simp only [liE, letsOf, letU, snd, List.append_nil]); rfl) ?_⟩
      replace hr1 := hr1.joinR (m := m) fun b hb => (hfr b hb).1
      replace hNow := hNow.joinL (mq := mq)
      replace hT := hT.joinL (mq := mq)
      replace hre := hre.joinL (mq := mq)
      replace hwk : ∀ f ∈ now.take k, RowW (m.join mq) 31 f.w.p f.w.cap f.w.w := fun f hf => (hwk f hf).joinL
      generalize m.join mq = m1 at *
      clear hfr
      refine .storeFW ⟨q1, c1, f.w.w⟩ k hkn (hNow.row hne) rfl (hn := hnlI) fun m2 g hq hrow2 ho => ?_
      rw [hfk] at hrow2
      obtain ⟨hT2, hW2, hI2⟩ := level_store hq hNow hne ho hap' hT
      replace hr1 := hW2 _ _ _ hr1
      replace hre := hI2 _ _ _ _ hre
      replace hwk : ∀ f ∈ now.take k, RowW m2 31 f.w.p f.w.cap f.w.w := fun f hf => hW2 _ _ _ (hwk f hf)
      have hNow2 : RowF m2 qn cn (now.set k ⟨f.has, ⟨q1, c1, f.w.w⟩⟩) := ⟨fun _ => by rw [List.length_set]; exact hrow2, by rw [List.length_set]; exact hNow.le, hNow.nil⟩
      clear hNow hT hW2 hI2 hrow2 ho hq
      have hset : ∀ (w : WD) j, k + 1 ≤ j → (now.set k ⟨f.has, w⟩)[j]? = t[i].fs[j]? := fun w j hj => by rw [List.getElem?_set, if_neg (by omega)]; exact hnow j (by omega)
      refine .ite (fun h8 => .again rfl ⟨n1 - 1, by omega, k + 1, now.set k ⟨f.has, ⟨q1, c1, f.w.w⟩⟩, ?_, by omega, by rw [List.length_set]; exact hnl, hset _, ?_, ?_, hNow2, hT2, ?_, hre⟩) (fun h8 => ?_)
      · (simp only [evE, liE, letsOf, letU, snd, Sh.uss, Sh.us, atAddr, map_add0, List.append_nil]); rw [add_i64 k (by omega)]
      · replace h8 : (bif cm .neq (i : Int) (row : Int) then true else !f.has) = true := h8
        have h9 : ¬ (i = row ∧ f.has = true) := fun ⟨e1, e2⟩ => by rw [e1, e2] at h8; simp [cm] at h8
        rw [take_set_snoc hkn, List.map_append, hdat, hlk]
        simp only [List.map_cons, List.map_nil, FD.data, lvF, if_neg h9]
      · intro x hx
        rw [take_set_snoc hkn] at hx
        rcases List.mem_append.1 hx with hx | hx
        · exact hwk x hx
        · simp at hx; subst hx; exact hr1
      · replace h8 : (bif cm .neq (i : Int) (row : Int) then true else !f.has) = true := h8
        intro e x hx
        rw [hlk] at hx
        rcases List.mem_append.1 hx with hx | hx
        · exact hshk e x hx
        · have h9 : ¬ (i = row ∧ f.has = true) := fun ⟨e1, e2⟩ => by rw [e1, e2] at h8; simp [cm] at h8
          simp only [List.mem_cons, List.not_mem_nil, or_false] at hx
          subst hx
          simp only [lvF, if_neg h9, longF]
          exact decide_eq_false (by omega)
      replace h8 : (bif cm .neq (i : Int) (row : Int) then true else !f.has) = false := h8
      have h9 : i = row ∧ f.has = true := by
        by_cases e : i = row
        · subst e
          simp [cm] at h8
          exact ⟨rfl, h8⟩
        · have : cm .neq (i : Int) (row : Int) = true := by simp [cm]; omega
          rw [this] at h8; cases h8
      have hEf := endK_le (List.getElem_mem hi) hgk h9.2
      have hkc : k < t[0].fs.length := by omega
      refine .chk (by ((try simp only [evE, liE, letsOf, letU, snd]); (try simp only [cmE])); omega) (.elem1 (.int .i64 (endK t k : Nat)) _ k t[0].fs.length rfl rfl hkc (fun g => hre.reads g) (hEk k hkc) (.env (by (try simp only [liE, letsOf, letU, snd, List.append_nil]); rfl) ?_))
      obtain ⟨ns, hns⟩ : ∃ ns, ns = f.w.w.length - endK t k := ⟨_, rfl⟩
      have ens : ar .sub .i64 (f.w.w.length : Int) (endK t k : Nat) = (ns : Int) := by rw [subI (by omega) (by omega)]; omega
      have ole := hfo.2.le
      have hcat : cat [F.w.upto nb, f.w.from ns] = lvW t (F.w.w.take nb) k f := by simp [cat, WD.from, WD.upto, lvW, hns]
      have hcl : (lvW t (F.w.w.take nb) k f).length ≤ 64 := by unfold lvW; simp only [List.length_append, List.length_take, List.length_drop]; omega
      refine .chk ?_ (.alloc fun a2 => .callM (c_concat (some ⟨a2, 0, none⟩) 2 [F.w.upto nb, f.w.from ns] ?_ (by simp) ?_) rfl rfl (fun g => ⟨g.cells (j := 2) rfl rfl ?_, ?_⟩) ?_)
      · show (bif cm .leq 0 (ar .sub .i64 (f.w.w.length : Int) (endK t k : Nat)) then (bif cm .leq (ar .sub .i64 (f.w.w.length : Int) (endK t k : Nat)) (f.w.w.length : Int) then cm .leq (f.w.w.length : Int) (f.w.cap : Int) else false) else false) = true
        rw [ens]
        simp only [cm, pick_and, Bool.and_eq_true, decide_eq_true_eq]; omega
      · simp only [List.mem_cons, List.not_mem_nil, or_false]
        rintro x (rfl | rfl)
        · exact WD.upto_ok hF.2 nb
        · exact WD.from_ok hfo.2 (by omega)
      · rw [hcat]; omega
      · simp only [SV.dens]
        rw [den_upto (x := F.w) (n := nb) rfl rfl (by show ar .sub .i64 (F.w.w.length : Int) (endK t cell : Nat) = _; exact enb) (by omega), den_from (x := f.w) (n := ns) rfl rfl (by show ar .sub .i64 (f.w.w.length : Int) (endK t k : Nat) = _; exact ens) rfl]; rfl
      · simp only [List.mem_cons, List.not_mem_nil, or_false]
        rintro x (rfl | rfl)
        · exact WordAt.upto (hFat.mono g.R) nb
        · exact WordAt.from (hfat.mono g.R) ole ns
      rintro v mq hfr ⟨q2, c2, rfl, hr2⟩
      rw [hcat] at hr2 ⊢
      have hlF : lvF t (F.w.w.take nb) row i k f = (f.has, lvW t (F.w.w.take nb) k f) := by unfold lvF; rw [if_pos h9]
      generalize lvW t (F.w.w.take nb) k f = nw at *
      refine ⟨[.p q2, .i (nw.length : Nat), .i (c2 : Nat)], ⟨_, _, _, rfl⟩, (slv_fresh _ _ _ _ _).symm, .env (by (try simp only [liE, letsOf, letU, snd, List.append_nil]); rfl) ?_⟩
      have hw2 : RowW (m2.join mq) 31 q2 c2 nw := (RowW.of hr2).joinR fun b hb => (hfr b hb).1
      replace hNow2 := hNow2.joinL (mq := mq)
      replace hT2 := hT2.joinL (mq := mq)
      replace hre := hre.joinL (mq := mq)
      replace hwk : ∀ f ∈ now.take k, RowW (m2.join mq) 31 f.w.p f.w.cap f.w.w := fun f hf => (hwk f hf).joinL
      generalize m2.join mq = m3 at *
      clear hfr hr1 hr2
      generalize hn2 : now.set k ⟨f.has, ⟨q1, c1, f.w.w⟩⟩ = now2 at *
      have hl2 : now2.length = now.length := by rw [← hn2, List.length_set]
      have hk2 : k < now2.length := by omega
      have hne2 : now2 ≠ [] := fun h => by rw [h] at hk2; simp at hk2
      have hg2 : now2[k].has = f.has := by subst hn2; rw [List.getElem_set_self]
      have hnlI2 : (t[i].fs.length : Int) = (now2.length : Int) := by rw [hl2, hnl]
      refine .storeFW ⟨q2, c2, nw⟩ k hk2 (hNow2.row hne2) rfl (hn := hnlI2) fun m4 g hq hrow2 ho => ?_
      obtain ⟨hT4, hW4, hI4⟩ := level_store hq hNow2 hne2 ho hap' hT2
      replace hw2 := hW4 _ _ _ hw2
      replace hre := hI4 _ _ _ _ hre
      replace hwk : ∀ f ∈ now.take k, RowW m4 31 f.w.p f.w.cap f.w.w := fun f hf => hW4 _ _ _ (hwk f hf)
      have hs2 : now2.set k ⟨now2[k].has, ⟨q2, c2, nw⟩⟩ = now.set k ⟨f.has, ⟨q2, c2, nw⟩⟩ := by rw [hg2, ← hn2, List.set_set]
      rw [hs2] at hrow2
      have hNow4 : RowF m4 qn cn (now.set k ⟨f.has, ⟨q2, c2, nw⟩⟩) := ⟨fun _ => by rw [List.length_set, ← hl2]; exact hrow2, by rw [List.length_set, ← hl2]; exact hNow2.le, hNow2.nil⟩
      clear hNow2 hT2 hW4 hI4 hrow2 ho hq hs2
      have hk4 : k < (now.set k ⟨f.has, ⟨q2, c2, nw⟩⟩).length := by rw [List.length_set]; exact hkn
      have hg4 : (now.set k ⟨f.has, ⟨q2, c2, nw⟩⟩)[k] = ⟨f.has, ⟨q2, c2, nw⟩⟩ := List.getElem_set_self ..
      have hl4 : (t[i].fs.length : Int) = ((now.set k ⟨f.has, ⟨q2, c2, nw⟩⟩).length : Int) := by rw [List.length_set, hnl]
      refine .loadFW (now.set k ⟨f.has, ⟨q2, c2, nw⟩⟩) k hk4 (fun g => (hNow4.row (fun h => by rw [h] at hk4; simp at hk4)).reads g) (hn := hl4) ?_
      rw [hg4]
      refine .env (by (try simp only [liE, letsOf, letU, snd, List.append_nil]); rfl) (.chk (by ((try simp only [evE, liE, letsOf, letU, snd]); (try simp only [cmE])); omega) (.ite (fun h10 => .ret rfl ?_) (fun h10 => .again rfl ⟨n1 - 1, by omega, k + 1, now.set k ⟨f.has, ⟨q2, c2, nw⟩⟩, ?_, by omega, by rw [List.length_set]; exact hnl, hset _, ?_, ?_, hNow4, hT4, ?_, hre⟩))) <;> ((try simp only [evE, liE, letsOf, letU, snd] at h10); (try simp only [cmE] at h10))
      · have hany : (lvRow t (F.w.w.take nb) row row t[row]).any longF = true := by
          obtain ⟨rfl, _⟩ := h9
          refine List.any_eq_true.2 ⟨_, List.mem_of_getElem? (lvRow_at hk), ?_⟩
          rw [hff, hlF]
          exact decide_eq_true (by show nw.length > 32; omega)
        rw [if_pos hany]; exact TabR.none _ _
      · (simp only [evE, liE, letsOf, letU, snd, Sh.uss, Sh.us, atAddr, map_add0, List.append_nil]); rw [add_i64 k (by omega)]
      · rw [take_set_snoc hkn, List.map_append, hdat, hlk, hlF]; rfl
      · intro x hx
        rw [take_set_snoc hkn] at hx
        rcases List.mem_append.1 hx with hx | hx
        · exact hwk x hx
        · simp at hx; subst hx; exact hw2
      · intro e x hx
        rw [hlk] at hx
        rcases List.mem_append.1 hx with hx | hx
        · exact hshk e x hx
        · simp only [List.mem_cons, List.not_mem_nil, or_false] at hx
          subst hx
          rw [hlF]
          exact decide_eq_false (by show ¬ nw.length > 32; omega)
    · have hkl : t[i].fs.length ≤ k := by omega
      rw [List.take_of_length_le (by omega), List.take_of_length_le (by rw [lvRow_len]; exact hkl)] at hdat
      rw [List.take_of_length_le (by omega)] at hwk
      rw [List.take_of_length_le (by rw [lvRow_len]; exact hkl)] at hshk
      refine .append (n := rows.length) (kx := 1) (qx := some ⟨a1, 0, none⟩) (capx := 1) (news := [slv qn t[i].fs.length cn]) el42 hT.row (fun g => g.cells (j := 1) rfl rfl rfl) rfl (by simp; unfold slv; cases qn <;> rfl) (fun h => by cases h) (by simp [maxLen]; omega) (by omega) (fun q3 k3 m3 hr3 hk3 _ => ?_)
      have hkT : ∀ b cur e, e ≠ 39 → m b = some (.cells cur e (0, 0)) → m3 b = m b := fun b cur e he hb => hk3 b (fun ⟨o, ho⟩ => by
        obtain ⟨cur', hcur'⟩ := hT.row.at_cells ho
        rw [hcur'] at hb; cases hb; exact absurd rfl he) (by rw [hb]; simp)
      refine .env (by (try simp only [liE, letsOf, letU, snd, List.append_nil]); rfl) (.again rfl ⟨n - 1, by omega, i + 1, q3, k3, rows ++ [⟨qn, cn, now⟩], ?_, by omega, ?_, by simp [hrl], ⟨?_, fun r hr => ?_⟩, fun hlt => ?_, hre.keep fun g hg _ => ?_⟩)
      · (simp only [evE, liE, letsOf, letU, snd, Sh.uss, Sh.us, atAddr, map_add0, List.append_nil]); rw [add_i64 i (by omega)]; simp only [List.length_append, List.length_cons, List.length_nil]
      · rw [lvTab_take hi, List.map_append, hrd]
        simp only [List.map_cons, List.map_nil, LD.data, hdat]
      · rw [List.length_append, List.map_append]
        show Row m3 39 1 q3 k3 _ (_ ++ [slv qn now.length cn])
        rw [hnl]; exact hr3
      · rcases List.mem_append.1 hr with hr | hr
        · exact ⟨(hT.rows r hr).1.keepT fun b cur _ hb _ => hkT b cur 41 (by decide) hb, fun f hf => ((hT.rows r hr).2 f hf).keepT fun b cur hb => hkT b cur 31 (by decide) hb⟩
        · simp only [List.mem_cons, List.not_mem_nil, or_false] at hr
          subst hr
          exact ⟨hNow.keepT fun b cur _ hb _ => hkT b cur 41 (by decide) hb, fun f hf => (hwk f hf).keepT fun b cur hb => hkT b cur 31 (by decide) hb⟩
      · rcases Nat.lt_or_ge row i with h | h
        · exact hsh h
        · have : i = row := by omega
          subst this
          exact List.any_eq_false.2 fun x hx => by rw [hshk rfl x hx]; simp
      · obtain ⟨cur, hcur⟩ := hre.at_cells hg
        exact hkT g cur 3 (by decide) hcur
  · have hln : (lvTab t (F.w.w.take nb) row).length = t.length := by simp [lvTab]
    rw [List.take_of_length_le (by omega)] at hrd
    rw [if_neg (by rw [hsh (by omega)]; simp)]
    exact ⟨qo, co, rows, rfl, hrd, hT⟩
end Go.Proofs.YtpbbnmjkbfbelaaDoor
