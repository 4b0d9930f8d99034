/- Chapter 19: the law Rows. -/
import Derived.Test.YthabfpagilbplaaDoorRs
import Derived.Test.YthabfpagilbplaaDoorTcRows
set_option linter.unusedSimpArgs false
set_option linter.unusedVariables false
namespace Go.Proofs.YthabfpagilbplaaDoor
open Go Go.Sy Go.RowKit
/-- A row of rows of small numbers. -/
structure RW where
  p : Option Addr
  cap : Nat
  l : List IR
def RW.v (r : RW) : Value := slv r.p r.l.length r.cap
structure Wok8 (r : RW) : Prop where
  cap : r.l.length ≤ r.cap
  len : r.l.length < 2 ^ 63
  el : ∀ x ∈ r.l, Rok8 x
def Rows88At (R : Mv) (q : Option Addr) (ts : List RW) : Prop := Cells R q (ts.map RW.v) ∧ ∀ t ∈ ts, Rows8At R t.p t.l
theorem rw_at (rs : List RW) (i : Nat) (h : i < rs.length) : (rs.map RW.v)[i]? = some (slv rs[i].p rs[i].l.length rs[i].cap) := by rw [List.getElem?_map, List.getElem?_eq_getElem h]; rfl
theorem TabI.le' {m m' : Mem} {q : Option Addr} {cq : Nat} {rs : List IR} (h : TabI m q cq rs) (hle : m.le m') : TabI m' q cq rs := ⟨fun hn => Row.le (h.row hn) hle, fun r hr => (h.rows r hr).le' hle, h.nil, h.le⟩
theorem keep_of {m m' : Mem} {e : TypeId} {size : Nat} {q : Option Addr} {cap n kx : Nat} {xs : List Value} (h : Row m e size q cap n xs) (hk : ∀ b, ((∃ o, q = some ⟨b, o, none⟩) → cap < n + kx) → m b ≠ none → m' b = m b) : ∀ b, q ≠ some ⟨b, 0, none⟩ → m b ≠ none → m' b = m b := fun b hq hb => hk b (fun ⟨o, ho⟩ => by
  have := row_at0 h ho
  subst this
  exact absurd ho hq) hb
theorem remN {a : Int} {n : Nat} (ha : 0 ≤ a ∧ a < 256) : ∃ A : Nat, ar .rem .i64 (IntKind.i64.wrap a) (n : Int) = (A : Int) ∧ (0 < n → A < n) := by
  obtain ⟨v, rfl⟩ := Int.eq_ofNat_of_zero_le ha.1
  refine ⟨v % n, ?_, fun h => Nat.mod_lt _ h⟩
  show (IntKind.i64.wrap (v : Int)).tmod (n : Int) = _
  rw [wrap_i64 (by omega) (by omega)]
  rfl
theorem mul_small' {a b : Int} (ha : 0 ≤ a ∧ a ≤ 1000) (hb : 0 ≤ b ∧ b ≤ 1000) : ar .mul .i64 a b = a * b := by
  have h1 : a * b ≤ 1000 * 1000 := Int.le_trans (Int.mul_le_mul_of_nonneg_right ha.2 hb.1) (Int.mul_le_mul_of_nonneg_left hb.2 (by decide))
  have h2 : 0 ≤ a * b := Int.mul_nonneg ha.1 hb.1
  exact wrap_i64 (by omega) (by omega)
theorem l_CognatesRows (p : Option Addr) (cp : Nat) (ts : List RW) (a b e f N0 d u w : Int) (hcp : ts.length ≤ cp) (hr : ∀ r ∈ ts, Wok8 r) (ha : 0 ≤ a ∧ a < 256) (hb : 0 ≤ b ∧ b < 256) (he : 0 ≤ e ∧ e < 256) (hf : 0 ≤ f ∧ f < 256) (hn : 0 ≤ N0 ∧ N0 < 256) (hd : 0 ≤ d ∧ d < 256) (hu : 0 ≤ u ∧ u < 256) (hw : 0 ≤ w ∧ w < 256) :
    RetP Tryd.prog n_law19_CognatesRows [slv p ts.length cp, .agg #[.int .u8 a, .int .u8 b, .int .u8 e, .int .u8 f],   .int .u8 N0, .int .u8 d, .int .u8 u, .int .u8 w] (fun R => Rows88At R p ts ∧ TabOk R) (.bool true) := by
  have en : IntKind.i64.wrap N0 = N0 := wrap_i64 (by omega) (by omega)
  have ed : ar .add .i64 1 (IntKind.i64.wrap d) = 1 + d := by rw [show IntKind.i64.wrap d = d from wrap_i64 (by omega) (by omega)]; exact wrap_i64 (by omega) (by omega)
  have eN : (if (8 : Int) < (ts.length : Int) then (8 : Int) else (ts.length : Int)) = ((min ts.length 8 : Nat) : Int) := mn_nat ts.length 8
  have hlim : limB N0 (1 + d) = true := by unfold limB; rw [decide_eq_true (by omega), decide_eq_true (by omega)]; rfl
  refine Fn.of S_law19_CognatesRows mx [.p p, .i ts.length, .i cp, .i a, .i b, .i e, .i f, .i N0, .i d, .i u, .i w] rfl rfl fun c hp => .alloc fun b0 => .callE (c_costs19' a b e f ha hb he hf) (fun _ => trivial) ?_
  rintro v mq m2 h1 h2 ⟨qc, cc, ws, gap, rfl, hwl, hcm, hc⟩
  refine ⟨[.p qc, .i ws.length, .i cc, .i gap], uOk_of rfl, (costs_fresh _ _ _ _ _ _).symm, ?_⟩
  have hcm := Row.le hcm h2
  clear h1 h2
  refine .env (by (try simp only [liE, letsOf, letU, snd, List.append_nil]); rfl) (.callV (c_frac N0 (1 + d)) (fun _ => trivial) (.env (by (try simp only [liE, letsOf, letU, snd, List.append_nil]); rfl) (.alloc fun b1 => .alloc fun b2 => .chk (by ((try simp only [evE, liE, letsOf, letU, snd]); (try simp only [cmE])); omega) (.chk (by ((try simp only [evE, liE, letsOf, letU, snd]); (try simp only [cmE])); rw [eN]; simp; omega) (.chk (by ((try simp only [evE, liE, letsOf, letU, snd]); (try simp only [cmE])); rw [eN]; omega) ?_)))) (hargs := by show [Value.int .i64 (IntKind.i64.wrap N0), .int .i64 (ar .add .i64 1 (IntKind.i64.wrap d))] = _; rw [en, ed]))
  generalize hNN : min ts.length 8 = N at eN
  have hNl : N ≤ ts.length := by omega
  have hN8 : N ≤ 8 := by omega
  refine .loop (fun n us m => ∃ (q : Option Addr) (cq : Nat) (es : List ED) (lg : Nat), es.length ≤ N ∧ us = [.p q, .i es.length, .i cq, .i lg, .i es.length] ∧ n = N - es.length ∧ EM m q cq es ∧ Row m 2 1 qc cc ws.length (ws.map (Value.int .i64)) ∧ lg ≤ 16 ∧ (∀ x ∈ es, lg ≤ x.l.length) ∧ ∀ x ∈ es, x.l.length ≤ 16) N ⟨none, 0, [], 16, Nat.zero_le _, rfl, rfl, ⟨.nil _ _ _, (by intro x hx; cases hx)⟩, hcm, Nat.le_refl _, (by intro x hx; cases hx), (by intro x hx; cases hx)⟩ ?_
  clear hcm
  rintro n us m _ ⟨q, cq, es, lg, hel, rfl, rfl, hE, hcm, hlg, hmin, h16⟩
  refine .env (by (try simp only [liE, letsOf, letU, snd, List.append_nil]); rfl) (.ite (fun h1 => ?_) (fun h1 => .chk (by ((try simp only [evE, liE, letsOf, letU, snd]); (try simp only [cmE])); omega) ?_)) <;> ((try simp only [evE, liE, letsOf, letU, snd] at h1 ); (try simp only [cmE] at h1 ))<;> rw [eN] at h1
  · have hj : es.length < ts.length := by omega
    have hrj := hr _ (List.getElem_mem hj)
    have hcj := fun {R : Mv} (hR : c.R.le R) => (hp.1.2 _ (List.getElem_mem hj)).mono hR
    generalize hrr : ts[es.length] = r at hrj hcj
    refine .loadSlM (ts.map RW.v) es.length N r.p r.l.length r.cap rfl eN (by omega) (by rw [rw_at ts _ hj, hrr]) (fun g => hp.1.1.mono g.R) (.env (by (try simp only [liE, letsOf, letU, snd, List.append_nil]); rfl) (.callE (c_spelt' r.p r.cap r.l hrj.cap hrj.el) (fun g => hcj g.R) ?_))
    rintro v mq m1 h1' h2' ⟨q', cq', l, rfl, hll, hM, hsp⟩
    refine ⟨[.p q', .i l.length, .i cq'], uOk_of rfl, (slv_fresh _ _ _ _ _).symm, ?_⟩
    have hE := hE.le h1'
    have hcm := Row.le hcm h1'
    have hM := hM.le h2'
    have hlen := hrj.len
    refine .env (by (try simp only [liE, letsOf, letU, snd, List.append_nil]); rfl) (.alloc fun b3 => .append (q := q) (cap := cq) (n := es.length) (qx := some ⟨b3, 0, none⟩) (kx := 1) (capx := 1) (news := [.string ⟨#[63]⟩, slv q' l.length cq']) elE hE.out (fun g => g.cells (j := 3) rfl rfl (by (simp only [evE, liE, letsOf, letU, snd, Sh.uss, Sh.us, atAddr, map_add0, List.append_nil]); simp [slv_eq])) rfl (by simp [slv_eq, Value.oneCell']) (fun h => by cases h) (by simp [maxLen]; omega) (by omega) (fun q2 c2 m6 hr6 hk6 hq6 => .chk (by ((try simp only [evE, liE, letsOf, letU, snd]); (try simp only [cmE])); omega) (.again rfl ⟨N - (es.length + 1), by omega, q2, c2, es ++ [⟨.string ⟨#[63]⟩, q', cq', l⟩], min lg r.l.length, by simp; omega, ?_, by simp, ?_, ?_, by omega, fun x hx => ?_, fun x hx => ?_⟩)))
    · (simp only [evE, liE, letsOf, letU, snd, Sh.uss, Sh.us, atAddr, map_add0, List.append_nil])
      rw [add_i64 es.length (by omega), List.length_append, mn_nat lg r.l.length]; rfl
    · refine ⟨by rw [List.length_append, ecells_snoc]; exact hr6, fun x hx => ?_⟩
      have hk := keep_of hE.out hk6
      rcases List.mem_append.1 hx with hx | hx
      · obtain ⟨k1, k2, k3, l', n', k4, k5⟩ := hE.inn x hx
        exact ⟨k1, k2, k3, l', n', k4, k5.keep hE.out (by decide) (by decide) hk⟩
      · simp at hx; subst hx
        exact ⟨hM.out.cap_le, hsp, rfl, l, l.length, (List.take_length).symm, hM.keep hE.out (by decide) (by decide) hk⟩
    · exact hcm.keepA hE.out (by decide) hk6
    · rcases List.mem_append.1 hx with hx | hx
      · have := hmin x hx; omega
      · simp at hx; subst hx
        show _ ≤ l.length
        omega
    · rcases List.mem_append.1 hx with hx | hx
      · exact h16 x hx
      · simp at hx; subst hx
        show l.length ≤ 16
        omega
  · have hNe : N = es.length := by omega
    have hes8 : es.length ≤ 8 := by omega
    refine .loop (fun n us m => ∃ i : Nat, i ≤ es.length ∧ us = [.i i] ∧ n = es.length - i ∧ EM m q cq (mixE lg es i) ∧ Row m 2 1 qc cc ws.length (ws.map (Value.int .i64))) es.length ⟨0, Nat.zero_le _, rfl, rfl, by rw [mixE_zero]; exact hE, hcm⟩ ?_
    clear hE hcm
    rintro n us m5 _ ⟨i, hi, rfl, rfl, hE, hcm⟩
    refine .env (by (try simp only [liE, letsOf, letU, snd, List.append_nil]); rfl) (.ite (fun h2 => ?_) (fun h2 => ?_)) <;> ((try simp only [evE, liE, letsOf, letU, snd] at h2); (try simp only [cmE] at h2))
    · have hi : i < es.length := by omega
      have hmi : i < (mixE lg es i).length := by rw [mixE_len]; exact hi
      have hat := mixE_at lg es i hi
      have hlgi := hmin _ (List.getElem_mem hi)
      obtain ⟨k1, k2, k3, _⟩ := hE.inn _ (List.getElem_mem hmi)
      rw [hat] at k1 k2 k3
      refine .loadEF (mixE lg es i) i hmi (fun g => hE.at.1.mono g.mv) ?_ rfl (by rw [mixE_len]; rfl)
      rw [hat]
      refine .env (by (try simp only [liE, letsOf, letU, snd, List.append_nil]); rfl) (.chk (by ((try simp only [evE, liE, letsOf, letU, snd]); (try simp only [cmE])); simp; omega) (.storeEF i hmi (cutE lg es[i]) (by rw [hat]; rfl) ?_ hE.out rfl rfl (by rw [mixE_len]; rfl) fun m6 g hg hr6 hs6 => .again rfl ⟨es.length - (i + 1), by omega, i + 1, by omega, ?_, rfl, hE.cut hi hg hr6 hs6, ?_⟩))
      · have ez : ∀ {ρ : Env} {C : IT}, (IT.ifeq C (.lit 0) (.lit 0) (.lit 0)).eval ρ = 0 := fun {ρ C} => by simp only [IT.eval]; by_cases h : IT.eval ρ C = 0 <;> simp [h]
        show Value.slice (atAddr _ 23 ((IT.ifeq (.var 25) (.lit 0) (.lit 0) (.lit 0)).eval _)) (lg : Int).toNat (es[i].cap : Int).toNat = slv es[i].p (es[i].l.take lg).length es[i].cap
        rw [ez, List.length_take, Nat.min_eq_left hlgi]
        show Value.slice (es[i].p.map fun a => a.add (0 : Int).toNat) _ _ = _
        unfold slv
        cases es[i].p <;> simp [addr_zero]
      · (simp only [evE, liE, letsOf, letU, snd, Sh.uss, Sh.us, atAddr, map_add0, List.append_nil]); rw [add_i64 i (by omega)]
      · exact hcm.keep fun b hb _ => hs6 b fun e => hcm.apart hE.out (by decide) b hb (by rw [hg, e])
    · have hie : i = es.length := by omega
      subst hie
      rw [mixE_all] at hE
      have hlen2 : (es.map (cutE lg)).length = es.length := List.length_map _
      have hnl : ∀ x ∈ es.map (cutE lg), x.l.length = lg := fun x hx => by
        obtain ⟨y, hy, rfl⟩ := List.mem_map.1 hx
        show (y.l.take lg).length = lg
        rw [List.length_take, Nat.min_eq_left (hmin y hy)]
      generalize es.map (cutE lg) = fs at hE hlen2 hnl
      have hsp : ∀ x ∈ fs, ∀ f ∈ x.l, SpF f := fun x hx => (hE.inn x hx).2.1
      have hok : ∀ x ∈ fs, ∀ f ∈ x.l, Wok f.w.w := fun x hx f hf => (hsp x hx f hf).ok
      have hg1 : ∀ x ∈ fs, x.g.oneCell' = true := fun x hx => by rw [(hE.inn x hx).2.2.1]; rfl
      have hxx : ∀ x ∈ fs, x.l.length ≤ x.cap ∧ x.l.length < 2 ^ 63 := fun x hx => ⟨(hE.inn x hx).1, by have := hnl x hx; omega⟩
      have kT := c_Table q cq fs qc cc ws gap N0 (1 + d) (by omega) hg1 hxx hok (by omega) (by omega)
      rw [tableE_ok hc (by omega) hlg hnl hsp hlim, hlen2] at kT
      refine .callE kT (fun g => ⟨hE.at.mono g.mv, (Mem.mv_row hcm).mono g.mv, hp.2.mono g.R⟩) ?_
      rintro v mq m6 h1' h2' ⟨qt, ct, rs, rfl, hrs, hT⟩
      refine ⟨[.p qt, .i rs.length, .i ct, .i 0], uOk_of rfl, (tab_fresh _ _ _ _ _ _).symm, ?_⟩
      replace hrs : rs.map (·.l) = fs.map fun x => labelsF ws gap x.l N0 (1 + d) := hrs
      have hT := hT.le' h2'
      have hE := hE.le h1'
      have hcm := Row.le hcm h1'
      have hrl : rs.length = fs.length := by have := congrArg List.length hrs; simpa using this
      have hri : ∀ i (hi : i < rs.length), rs[i].l = labelsF ws gap (fs[i]'(by omega)).l N0 (1 + d) := fun i hi => by
        have := congrArg (fun x => x[i]?) hrs
        simp only [List.getElem?_map, List.getElem?_eq_getElem hi, List.getElem?_eq_getElem (show i < fs.length by omega), Option.map_some] at this
        exact Option.some.inj this
      have hrn : ∀ r ∈ rs, r.l.length = lg := fun r hr => by
        obtain ⟨i, hi, rfl⟩ := List.mem_iff_getElem.1 hr
        rw [hri i hi, labelsF_len]; exact hnl _ (List.getElem_mem _)
      have hlow : ∀ r ∈ rs, ∀ x ∈ r.l, -1 ≤ x := fun r hr x hx => by
        obtain ⟨i, hi, rfl⟩ := List.mem_iff_getElem.1 hr
        obtain ⟨j, hj, rfl⟩ := List.mem_iff_getElem.1 hx
        have := canon_low (labels_near ws gap (fs[i]'(by omega)).l N0 (1 + d)) j (by rw [← hri i hi]; exact hj)
        rw [← hri i hi, labAt_get hj] at this
        exact this
      refine .env (by (try simp only [liE, letsOf, letU, snd, List.append_nil]); rfl) (.no (by ((try simp only [evE, liE, letsOf, letU, snd]); (try simp only [cmE])) <;> simp) (.chk (by ((try simp only [evE, liE, letsOf, letU, snd]); (try simp only [cmE])); omega) (.chk (by ((try simp only [evE, liE, letsOf, letU, snd]); (try simp only [cmE])); omega) (.no (by ((try simp only [evE, liE, letsOf, letU, snd]); (try simp only [cmE])); omega) (.chk (by ((try simp only [evE, liE, letsOf, letU, snd]); (try simp only [cmE])); omega) ?_)))))
      refine .loop (fun n us m => ∃ (e : Bool) (i : Nat), i ≤ es.length ∧ us = [.b e, .i i] ∧ n = es.length - i ∧ m6.le m) es.length ⟨false, 0, Nat.zero_le _, rfl, rfl, .refl _⟩ ?_
      rintro n us m7 _ ⟨e, i, hi, rfl, rfl, hle⟩
      have hE := hE.le hle
      have hT := hT.le' hle
      have hcm := Row.le hcm hle
      refine .env (by (try simp only [liE, letsOf, letU, snd, List.append_nil]); rfl) (.ite (fun h3 => ?_) (fun h3 => .chk (by ((try simp only [evE, liE, letsOf, letU, snd]); (try simp only [cmE])); omega) ?_)) <;> ((try simp only [evE, liE, letsOf, letU, snd] at h3); (try simp only [cmE] at h3))
      · have hi : i < es.length := by omega
        have hif : i < fs.length := by omega
        have hir : i < rs.length := by omega
        have hm := List.getElem_mem hif
        have kL := c_Labels fs[i].p fs[i].cap fs[i].l qc cc ws gap N0 (1 + d) (hxx _ hm).1 (hxx _ hm).2 (hok _ hm) (by omega) (by omega)
        have hni := hnl _ hm
        rw [labelsE_ok (SpF.chk (hsp _ hm) (by omega) hc hlim)] at kL
        refine .loadED fs i hif (hg1 _ hm) (fun g => hE.at.1.mono g.mv) (.env (by (try simp only [liE, letsOf, letU, snd, List.append_nil]); rfl) (.alloc fun b5 => .callI kL (fun g => ⟨(hE.at.2 _ hm).mono g.mv, (Mem.mv_row hcm).mono g.mv, hp.2.mono g.R⟩) fun ql cl m8 h1' hrl8 => ?_)) rfl (by show ((es.length : Nat) : Int) = _; rw [hlen2])
        have hT := hT.le' h1'
        have heq := c_eqI rs[i].p ql rs[i].cap cl rs[i].l (labelsF ws gap fs[i].l N0 (1 + d)) (by rw [hrn _ (List.getElem_mem hir)]; omega)
        rw [decide_eq_true (hri i hir)] at heq
        refine .env (by (try simp only [liE, letsOf, letU, snd, List.append_nil]); rfl) (.no (by ((try simp only [evE, liE, letsOf, letU, snd]); (try simp only [cmE])) <;> simp) (.loadSl (rs.map IR.v) i rs.length rs[i].p rs[i].l.length rs[i].cap hir (row_at rs i hir) (fun g => (hT.row (by intro h; rw [h] at hir; simp at hir)).reads g) (.env (by (try simp only [liE, letsOf, letU, snd, List.append_nil]); rfl) (.callV heq (fun g => ⟨(hT.rows _ (List.getElem_mem hir)).reads g, hrl8.reads g⟩) (.env (by (try simp only [liE, letsOf, letU, snd, List.append_nil]); rfl) (.no rfl (.again rfl ⟨es.length - (i + 1), by omega, e, i + 1, by omega, ?_, rfl, hle.trans h1'⟩)))))))
        (simp only [evE, liE, letsOf, letU, snd, Sh.uss, Sh.us, atAddr, map_add0, List.append_nil]); rw [add_i64 i (by omega)]
      · have kS : ∀ A B : Nat, _ := fun A B => c_Shared qt ct rs (A : Int) (B : Int) (by omega) (fun r hr => by rw [hrn r hr]; omega)
        have hsh := fun A B : Nat => shared_ok (ts := rs) (n := lg) (by omega) hrn hlow A B
        refine .ite (fun h4 => ?_) (fun h4 => ?_)
        · replace h4 : (bif ((rs.length : Int) == 0) then true else ((lg : Int) == 0)) = true := h4
          have h5 : rs.length = 0 ∨ lg ≤ 0 := by
            by_cases h6 : rs.length = 0
            · exact .inl h6
            · rw [show ((rs.length : Int) == 0) = false from beq_eq_false_iff_ne.2 (by omega)] at h4
              have h4 : ((lg : Int) == 0) = true := h4
              have := beq_iff_eq.1 h4
              omega
          have k0 := kS 0 0
          rw [hsh 0 0, if_pos (by omega)] at k0
          exact .callV k0 (fun g => hT.reads g) (.env (by (try simp only [liE, letsOf, letU, snd, List.append_nil]); rfl) (.alloc fun b6 => .yes rfl (.callV c_works (fun g => hp.2.mono g.R) (.ret rfl rfl))))
        · replace h4 : (bif ((rs.length : Int) == 0) then true else ((lg : Int) == 0)) = false := h4
          have h5 : rs.length ≠ 0 ∧ 0 < lg := by
            by_cases h6 : rs.length = 0
            · rw [show ((rs.length : Int) == 0) = true from beq_iff_eq.2 (by omega)] at h4
              cases h4
            · rw [show ((rs.length : Int) == 0) = false from beq_eq_false_iff_ne.2 (by omega)] at h4
              have h4 : ((lg : Int) == 0) = false := h4
              have := beq_eq_false_iff_ne.1 h4
              omega
          obtain ⟨A, eA, hA⟩ := remN (n := lg) hu
          obtain ⟨B, eB, hB⟩ := remN (n := lg) hw
          have hA := hA h5.2
          have hB := hB h5.2
          have k1 := kS A B
          have k2 := kS B A
          rw [hsh A B, if_neg (by omega)] at k1
          rw [hsh B A, if_neg (by omega), ← (count_comm A B rs).1, ← (count_comm A B rs).2] at k2
          unfold fracE at k1 k2
          dsimp only at k1 k2
          have hsb : rs.countP (sameR A B) ≤ rs.countP (bothR A B) := List.countP_mono_left fun r _ h => by
            unfold sameR at h; simp at h; exact h.1
          have hb8 : rs.countP (bothR A B) ≤ 8 := Nat.le_trans List.countP_le_length (by omega)
          have hlo := lowest_ok (n := (rs.countP (sameR A B) : Nat)) (d := (max (rs.countP (bothR A B)) 1 : Nat)) (by omega) (by omega) (by omega)
          have hlo0 : rs.countP (bothR A B) = 0 → lowest (rs.countP (sameR A B) : Nat) (max (rs.countP (bothR A B)) 1 : Nat) = (0, 1) := fun h => by
            rw [h, show rs.countP (sameR A B) = 0 by omega]; rfl
          generalize lowest (rs.countP (sameR A B) : Nat) (max (rs.countP (bothR A B)) 1 : Nat) = z at *
          have hcl : ∀ (f : IR → Bool) i, (rs.take i).countP f ≤ 8 := fun f i => Nat.le_trans List.countP_le_length (by rw [List.length_take]; omega)
          refine .chk (by ((try simp only [evE, liE, letsOf, letU, snd]); (try simp only [cmE])); omega) (.chk (by ((try simp only [evE, liE, letsOf, letU, snd]); (try simp only [cmE])); omega) (.callV k1 (fun g => hT.reads g) (.env (by (try simp only [liE, letsOf, letU, snd, List.append_nil]); rfl) (.alloc fun b6 => .callV k2 (fun g => hT.reads g) (.env (by (try simp only [liE, letsOf, letU, snd, List.append_nil]); rfl) (.alloc fun b7 => .chk (by ((try simp only [evE, liE, letsOf, letU, snd]); (try simp only [cmE])); omega) ?_)) (hargs := ?_))) (hargs := ?_)))
          · refine .loop (fun n us m => ∃ (i : Nat), i ≤ rs.length ∧ us = [.i ((rs.take i).countP (sameR A B) : Nat), .i ((rs.take i).countP (bothR A B) : Nat), .i i] ∧ n = rs.length - i ∧ m = m7) rs.length ⟨0, Nat.zero_le _, rfl, rfl, rfl⟩ ?_
            rintro n us m8 _ ⟨i, hi, rfl, rfl, rfl⟩
            have c1 := hcl (sameR A B) i
            have c2 := hcl (bothR A B) i
            refine .env (by (try simp only [liE, letsOf, letU, snd, List.append_nil]); rfl) (.ite (fun h5 => ?_) (fun h5 => ?_)) <;> ((try simp only [evE, liE, letsOf, letU, snd] at h5); (try simp only [cmE] at h5))
            · have hi : i < rs.length := by omega
              have hm := List.getElem_mem hi
              have hli := hrn _ hm
              have s1 := countP_take (sameR A B) rs i hi
              have s2 := countP_take (bothR A B) rs i hi
              refine .loadSl (rs.map IR.v) i rs.length rs[i].p rs[i].l.length rs[i].cap hi (row_at rs i hi) (fun g => (hT.row (by intro h; rw [h] at hi; simp at hi)).reads g) (.env (by (try simp only [liE, letsOf, letU, snd, List.append_nil]); rfl) (.elem1 (.int .i64 (labAt rs[i].l A)) (intsL rs[i].l) A rs[i].l.length (by show ar .rem .i64 (IntKind.i64.wrap u) (lg : Int) = _; exact eA) rfl (by omega) (fun g => (hT.rows _ hm).reads g) (intsL_at _ _ (by omega)) (.env (by (try simp only [liE, letsOf, letU, snd, List.append_nil]); rfl) (.ite (fun h6 => ?_) (fun h6 => ?_))))) <;> ((try simp only [evE, liE, letsOf, letU, snd] at h6); (try simp only [cmE] at h6))
              · refine .elem1 (.int .i64 (labAt rs[i].l B)) (intsL rs[i].l) B rs[i].l.length (by show ar .rem .i64 (IntKind.i64.wrap w) (lg : Int) = _; exact eB) rfl (by omega) (fun g => (hT.rows _ hm).reads g) (intsL_at _ _ (by omega)) (.env (by (try simp only [liE, letsOf, letU, snd, List.append_nil]); rfl) (.ite (fun h7 => ?_) (fun h7 => ?_))) <;> ((try simp only [evE, liE, letsOf, letU, snd] at h7); (try simp only [cmE] at h7))
                · have yb : bothR A B rs[i] = true := by unfold bothR; rw [decide_eq_true (by omega), decide_eq_true (by omega)]; rfl
                  rw [if_pos yb] at s2
                  refine .elem1 (.int .i64 (labAt rs[i].l A)) (intsL rs[i].l) A rs[i].l.length (by show ar .rem .i64 (IntKind.i64.wrap u) (lg : Int) = _; exact eA) rfl (by omega) (fun g => (hT.rows _ hm).reads g) (intsL_at _ _ (by omega)) (.env (by (try simp only [liE, letsOf, letU, snd, List.append_nil]); rfl) (.elem1 (.int .i64 (labAt rs[i].l B)) (intsL rs[i].l) B rs[i].l.length (by show ar .rem .i64 (IntKind.i64.wrap w) (lg : Int) = _; exact eB) rfl (by omega) (fun g => (hT.rows _ hm).reads g) (intsL_at _ _ (by omega)) (.env (by (try simp only [liE, letsOf, letU, snd, List.append_nil]); rfl) (.ite (fun h8 => ?_) (fun h8 => ?_))))) <;> ((try simp only [evE, liE, letsOf, letU, snd] at h8); (try simp only [cmE] at h8))
                  · rw [if_pos (by unfold sameR; rw [yb, decide_eq_true h8]; rfl)] at s1
                    refine .again rfl ⟨rs.length - (i + 1), by omega, i + 1, by omega, ?_, rfl, rfl⟩
                    (simp only [evE, liE, letsOf, letU, snd, Sh.uss, Sh.us, atAddr, map_add0, List.append_nil]); rw [add_i64 i (by omega), s1, s2, addI (by omega) (by omega), addI (by omega) (by omega)]; rfl
                  · rw [if_neg (by unfold sameR; rw [yb, decide_eq_false h8]; simp)] at s1
                    refine .again rfl ⟨rs.length - (i + 1), by omega, i + 1, by omega, ?_, rfl, rfl⟩
                    (simp only [evE, liE, letsOf, letU, snd, Sh.uss, Sh.us, atAddr, map_add0, List.append_nil]); rw [add_i64 i (by omega), s1, s2, addI (by omega) (by omega)]; rfl
                · have nb : bothR A B rs[i] = false := by unfold bothR; rw [decide_eq_false (show ¬ 0 ≤ labAt rs[i].l B by omega), Bool.and_false]
                  rw [if_neg (by unfold sameR; rw [nb]; simp)] at s1
                  rw [if_neg (by rw [nb]; simp)] at s2
                  refine .again rfl ⟨rs.length - (i + 1), by omega, i + 1, by omega, ?_, rfl, rfl⟩
                  (simp only [evE, liE, letsOf, letU, snd, Sh.uss, Sh.us, atAddr, map_add0, List.append_nil]); rw [add_i64 i (by omega), s1, s2]; rfl
              · have nb : bothR A B rs[i] = false := by unfold bothR; rw [decide_eq_false (by omega)]; rfl
                rw [if_neg (by unfold sameR; rw [nb]; simp)] at s1
                rw [if_neg (by rw [nb]; simp)] at s2
                refine .again rfl ⟨rs.length - (i + 1), by omega, i + 1, by omega, ?_, rfl, rfl⟩
                (simp only [evE, liE, letsOf, letU, snd, Sh.uss, Sh.us, atAddr, map_add0, List.append_nil]); rw [add_i64 i (by omega), s1, s2]; rfl
            · have : i = rs.length := by omega
              subst this
              rw [List.take_length] at c1 c2 ⊢
              refine .ite (fun h6 => ?_) (fun h6 => ?_) <;> ((try simp only [evE, liE, letsOf, letU, snd] at h6); (try simp only [cmE] at h6))
              · have hz := hlo0 (by omega)
                refine .yes rfl (.callV (c_frac 0 1) (fun _ => trivial) (.env (by (try simp only [liE, letsOf, letU, snd, List.append_nil]); rfl) (.yes ?_ (.callV c_works (fun g => hp.2.mono g.R) (.ret rfl rfl)))))
                rw [hz]
                ((try simp only [evE, liE, letsOf, letU, snd]); (try simp only [cmE])) <;> simp
              · have em1 : ar .mul .i64 z.1 (rs.countP (bothR A B) : Nat) = z.1 * (rs.countP (bothR A B) : Nat) := mul_small' (by omega) (by omega)
                have em2 : ar .mul .i64 (rs.countP (sameR A B) : Nat) z.2 = (rs.countP (sameR A B) : Nat) * z.2 := mul_small' (by omega) (by omega)
                rw [Nat.max_eq_left (by omega)] at hlo
                refine .yes ?_ (.callV c_works (fun g => hp.2.mono g.R) (.ret rfl rfl))
                ((try simp only [evE, liE, letsOf, letU, snd]); (try simp only [cmE]))
                rw [em1, em2, ← hlo.2.2.2.1]
                simp [pick_and]
                omega
          · show [slv qt rs.length ct, Value.int .i64 (ar .rem .i64 (IntKind.i64.wrap w) (lg : Int)), Value.int .i64 (ar .rem .i64 (IntKind.i64.wrap u) (lg : Int))] = _
            rw [eA, eB]
          · show [slv qt rs.length ct, Value.int .i64 (ar .rem .i64 (IntKind.i64.wrap u) (lg : Int)), Value.int .i64 (ar .rem .i64 (IntKind.i64.wrap w) (lg : Int))] = _
            rw [eA, eB]
end Go.Proofs.YthabfpagilbplaaDoor
