/- Chapter 30: Extend. -/
import Derived.Test.YtpbbnmjkbfbelaaDoorJn
set_option linter.unusedSimpArgs false
set_option linter.unusedVariables false
namespace Go.Sy
open Go Go.RowKit
/-- What was found: a row of words, each in memory of the call's own; a map that counts them. -/
structure FoundI (mm : Mem) (bm : Nat) (q : Option Addr) (cq : Nat) (l : List WD) : Prop where
  map : ∃ es clock f, mm bm = some (.map es clock) ∧ MapOk .string es f ∧ ∀ w, VW w → (f (keyV w)).getD (.int .i64 0) = .int .i64 ((l.map (·.w)).count w : Nat)
  row : Row mm 22 1 q cq l.length (l.map WD.v)
  words : ∀ x ∈ l, RowW mm 31 x.p x.cap x.w
theorem FoundI.keep {mm mm' : Mem} {bm : Nat} {q : Option Addr} {cq : Nat} {l : List WD} (h : FoundI mm bm q cq l) (hk : ∀ b, mm b ≠ none → mm' b = mm b) : FoundI mm' bm q cq l := by
  obtain ⟨⟨es, clock, f, h1, h2, h3⟩, h4, h5⟩ := h
  exact ⟨⟨es, clock, f, (hk bm (by rw [h1]; simp)).trans h1, h2, h3⟩, h4.keep fun g _ hg => hk g hg, fun x hx => (h5 x hx).keep hk⟩
theorem RowW.keepT {m m' : Mem} {et : TypeId} {q : Option Addr} {cap : Nat} {w : List Snd} (h : RowW m et q cap w) (hk : ∀ b cur, m b = some (.cells cur et (0, 0)) → m' b = m b) : RowW m' et q cap w := ⟨fun hw => by
  have hr := h.row hw
  refine ⟨hr.1, ?_⟩
  rcases hr.2 with h2 | ⟨g, cur, h1, h2, h3⟩
  · exact .inl h2
  · exact .inr ⟨g, cur, h1, (hk g cur h2).trans h2, h3⟩, h.nil, h.le⟩
theorem Row.at_cells {m : Mem} {e : TypeId} {size : Nat} {q : Option Addr} {cap n b o : Nat} {xs : List Value} (h : Row m e size q cap n xs) (hq : q = some ⟨b, o, none⟩) : ∃ cur, m b = some (.cells cur e (0, 0)) := by
  rcases h.2 with ⟨rfl, _⟩ | ⟨g, cur, rfl, hg, _⟩
  · cases hq
  · cases hq; exact ⟨cur, hg⟩
def Ext1At (bm a1 : Nat) (es : Array MapEntry) (l : List WD) (R : Mv) : Prop := Cells R (some ⟨a1, 0, none⟩) [.map (some bm)] ∧ R.m bm = some es ∧ ∀ x ∈ l, WordAt R x.p x.w
end Go.Sy
namespace Go.Proofs.YtpbbnmjkbfbelaaDoor
open Go Go.Sy Go.RowKit
theorem z3 (w : World) : (zeroValue 3).run Tryd.prog w = .ok (.int .i64 0) w := by
  obtain ⟨i, h1, h2⟩ : ∃ i, Tryd.prog.info? 3 = some i ∧ i.zero = some (.int .i64 0) := by
    have : ((Tryd.prog.info? 3).bind (·.zero)) = some (.int .i64 0) := by kernel_rfl
    cases h : Tryd.prog.info? 3 with
    | none => rw [h] at this; cases this
    | some i => rw [h] at this; exact ⟨i, rfl, this⟩
  exact run_zeroValue' w h1 h2
theorem el85 : El Tryd.prog 85 22 1 24 := El.of (by kernel_rfl)
theorem c_ext1 (bm a1 : Nat) (es : Array MapEntry) (f : Value → Option Value) (M : MapOk .string es f) (N : List Snd → Nat) (l : List WD) (hN : ∀ x ∈ l, (f (keyV x.w)).getD (.int .i64 0) = .int .i64 (N x.w : Nat) ∧ N x.w < 2 ^ 40 ∧ x.w.length ≤ 32) (A B : WD) (hA : A ∈ l) (hB : B ∈ l) :
    FnM Tryd.prog n_analogy_Extend_1 ([A.v, B.v] ++ [.pointer (some ⟨a1, 0, none⟩)]) (Ext1At bm a1 es l) fun v _ _ => v = .int .i64 (cmpE N A.w B.w) := by
  refine Fn.of S_analogy_Extend_1 mx [.p A.p, .i A.w.length, .i A.cap, .p B.p, .i B.w.length, .i B.cap, .p (some ⟨a1, 0, none⟩)] rfl rfl fun c hp => ?_
  obtain ⟨h0, h1, h2⟩ := hp
  obtain ⟨nA, uA, lA⟩ := hN A hA
  obtain ⟨nB, uB, lB⟩ := hN B hB
  refine .load1 (.map (some bm)) (some ⟨a1, 0, none⟩) [.map (some bm)] 0 rfl rfl (fun g => h0.mono g.R) rfl (.env (by (try simp only [liE, letsOf, letU, snd, List.append_nil]); rfl) (.load1 (.map (some bm)) (some ⟨a1, 0, none⟩) [.map (some bm)] 0 rfl rfl (fun g => h0.mono g.R) rfl (.env (by (try simp only [liE, letsOf, letU, snd, List.append_nil]); rfl) ?_)))
  refine .callR [.v (keyV B.w)] (c_key B (by omega)) rfl rfl rfl rfl (fun g => (h2 B hB).mono g.R) (.env (by (try simp only [liE, letsOf, letU, snd, List.append_nil]); rfl) ?_)
  refine .lookupV (.int .i64 0) (keyV B.w) es f bm [.i (N B.w : Nat)] Tryd.underlying84 Tryd.underlying9 z3 rfl trivial (fun g => g.R.m _ _ h1) M (uOk_of rfl) (nB.trans rfl) (.env (by (try simp only [liE, letsOf, letU, snd, List.append_nil]); rfl) ?_)
  refine .callR [.v (keyV A.w)] (c_key A (by omega)) rfl rfl rfl rfl (fun g => (h2 A hA).mono g.R) (.env (by (try simp only [liE, letsOf, letU, snd, List.append_nil]); rfl) ?_)
  refine .lookupV (.int .i64 0) (keyV A.w) es f bm [.i (N A.w : Nat)] Tryd.underlying84 Tryd.underlying9 z3 rfl trivial (fun g => g.R.m _ _ h1) M (uOk_of rfl) (nA.trans rfl) (.env (by (try simp only [liE, letsOf, letU, snd, List.append_nil]); rfl) ?_)
  have es : ar .sub .i64 (N B.w : Int) (N A.w : Int) = (N B.w : Int) - (N A.w : Int) := subI (by omega) (by omega)
  refine .ite (fun h3 => .ret rfl ?_) (fun h3 => .callV (c_wordOrder A.p B.p A.cap B.cap A.w B.w (by omega) (by omega)) (fun g => ⟨(h2 A hA).mono g.R, (h2 B hB).mono g.R⟩) (.ret rfl ?_))
  · replace h3 : cm .neq (ar .sub .i64 (N B.w : Int) (N A.w : Int)) 0 = true := h3
    rw [es] at h3
    simp only [cm, bne_iff_ne] at h3
    show Value.int .i64 (ar .sub .i64 (N B.w : Int) (N A.w : Int)) = _
    rw [es]; unfold cmpE; rw [if_pos h3]
  · replace h3 : cm .neq (ar .sub .i64 (N B.w : Int) (N A.w : Int)) 0 = false := h3
    rw [es] at h3
    simp only [cm, bne_eq_false_iff_eq] at h3
    unfold cmpE; rw [if_neg (by simp [h3])]
    rfl
set_option maxHeartbeats 1000000 in
theorem c_Extend (p : Option Addr) (cp : Nat) (ms : List MD) (C : WD) (hm : ModelsOk ms) (hc : Wok C.w) (oc : C.ok) (hl : ms.length < 2 ^ 62) : FnM Tryd.prog n_analogy_Extend [slv p ms.length cp, C.v] (fun R => ModelsAt R p ms ∧ WordAt R C.p C.w ∧ VarsOk R) fun v mq _ => ExtR 31 mq v (extW ms C.w) := by
  refine FnM.of S_analogy_Extend mx [.p p, .i ms.length, .i cp, .p C.p, .i C.w.length, .i C.cap] rfl rfl fun c hp => .alloc fun a0 => ?_
  obtain ⟨hM, hC, hV⟩ := hp
  refine .callV (c_check p cp ms (some ⟨a0, 0, none⟩) 1 [C] hm (by simp [hc]) (by simp)) (fun g => ⟨hM.mono g.R, g.cells (j := 0) rfl rfl rfl, ?_⟩) (.env (by (try simp only [liE, letsOf, letU, snd, List.append_nil]); rfl) (.ite (fun h1 => .ret rfl ?_) (fun h1 => ?_)))
  · simp only [List.mem_cons, List.not_mem_nil, or_false]
    rintro x rfl
    exact hC.mono g.R
  · ((try simp only [evE, liE, letsOf, letU, snd] at h1); (try simp only [cmE] at h1))
    replace h1 : chkM ms [C.w] ≠ 0 := h1
    have : extW ms C.w = ([], 0, chkM ms [C.w]) := by unfold extW; rw [if_pos h1]
    rw [this]; exact ⟨none, 0, rfl, .of (Row.nil _ _ _)⟩
  ((try simp only [evE, liE, letsOf, letU, snd] at h1); (try simp only [cmE] at h1))
  replace h1 : chkM ms [C.w] = 0 := h1
  rw [show chkM ms (List.map (fun x : WD => x.w) [C]) = 0 from h1]
  obtain ⟨l0, l1, l2⟩ := chkM_all h1
  obtain ⟨v1, v2⟩ := chkM_valid h1
  simp only [List.mem_cons, List.not_mem_nil, or_false, forall_eq] at l2 v2
  have he : extW ms C.w = (if (bestE ms ms C.w).2 = 0 then ([], 0, 5) else ((bestE ms ms C.w).1, (((bestE ms ms C.w).2 : Nat) : Int), 0) : List Snd × Int × Int) := by unfold extW; rw [if_neg (by simp [h1])]
  rw [he, best_fnd fun w hw => fnd_votes hw]
  clear he
  refine .mkMap fun bm hbm hbL => .env (by (try simp only [liE, letsOf, letU, snd, List.append_nil]); rfl) (.alloc fun a1 => .alloc fun a2 => .chk (by ((try simp only [evE, liE, letsOf, letU, snd]); (try simp only [cmE])); omega) ?_)
  refine .loop (fun n us mm => ∃ (j : Nat) (q : Option Addr) (cq : Nat) (l : List WD), us = [.i j, .p q, .i l.length, .i cq] ∧ n + j = ms.length ∧ l.map (·.w) = fnd (ms.take j) C.w ∧ l.length ≤ 2 * j ∧ FoundI mm bm q cq l) ms.length
    ⟨0, none, 0, [], rfl, rfl, rfl, by simp, ⟨#[], 0, fun _ => none, Mem.upd_same .., .empty _, fun w _ => by simp⟩, Row.nil _ _ _, by simp⟩ ?_
  rintro n _ m _ ⟨j, q, cq, l, rfl, hn, hlw, hll, hF⟩
  clear hbm hbL
  refine .env (by (try simp only [liE, letsOf, letU, snd, List.append_nil]); rfl) (.ite (fun h2 => ?_) (fun h2 => .chk (by ((try simp only [evE, liE, letsOf, letU, snd]); (try simp only [cmE])); omega) (.ite (fun h3 => .ret rfl ?_) (fun h3 => ?_)))) <;> ((try simp only [evE, liE, letsOf, letU, snd] at h2); (try simp only [cmE] at h2))
  · have hj : j < ms.length := by omega
    have hok := hm _ (List.getElem_mem hj)
    have hat := hM.2 _ (List.getElem_mem hj)
    have hle := l1 _ (List.getElem_mem hj)
    have hva := v1 _ (List.getElem_mem hj)
    refine .loadMD ms j hj (fun g => hM.1.mono g.R) (.env (by (try simp only [liE, letsOf, letU, snd, List.append_nil]); rfl) (.alloc fun a3 => .callM (c_results ms[j].a ms[j].b C) rfl rfl (fun _ => trivial) ?_))
    rintro v mq hf ⟨b0, b1, rfl, rfl, h01⟩
    refine ⟨[.v (.func (.func n_analogy_results_1) #[] #[.pointer (some ⟨b0, 0, none⟩), .pointer (some ⟨b1, 0, none⟩)])], uOk_of rfl, rfl, .env (by (try simp only [liE, letsOf, letU, snd, List.append_nil]); rfl) ?_⟩
    have hrl : (resW ms[j].a.w ms[j].b.w C.w).length ≤ 2 := by
      unfold resW
      split
      · split <;> simp
      · simp
      · simp
      · simp
    refine .rangeX n_analogy_results_1 #[.pointer (some ⟨b0, 0, none⟩), .pointer (some ⟨b1, 0, none⟩)] _ (ResX (resW ms[j].a.w ms[j].b.w C.w)) (fun w => c.R.le (Mv.of w)) (box2 b0 b1 ms[j].a ms[j].b C) m
      (fun k us mm => ∃ (q : Option Addr) (cq : Nat) (l' : List WD), us = [.p q, .i l'.length, .i cq] ∧ l'.map (·.w) = fnd (ms.take j) C.w ++ ((resW ms[j].a.w ms[j].b.w C.w).take k).filter short ∧ l'.length ≤ 2 * j + k ∧ FoundI mm bm q cq l') (fun _ _ _ => False)
      rfl rfl rfl (fun b hb => ?_) (fun k ux m1 hx => ?_) (it_results ms[j].a ms[j].b C hok.2.2.1 hok.2.2.2 oc (by omega) (by omega) (by omega) b0 b1 h01 c.R ⟨hat.1, hat.2, hC, hV⟩) ⟨q, cq, l, (by (simp only [evE, liE, letsOf, letU, snd, Sh.uss, Sh.us, atAddr, map_add0, List.append_nil]) <;> rfl), by simpa using hlw, by omega, hF⟩ (fun k us m' w _ hw => ⟨fun b o v hv => c.ok w b o v hw.hold.1 hv, fun b es hv => c.okm w b es hw.hold.1 hv⟩) ?_ ?_ (fun _ _ _ _ _ h => h.elim)
    · cases hb' : box2 b0 b1 ms[j].a ms[j].b C b with
      | none => rfl
      | some o => exact absurd (hf b (by rw [hb']; simp)).1 hb
    · obtain ⟨q, cq, w, _, rfl, _⟩ := hx
      exact usOk_of rfl
    · rintro k us ux m' m1 _ ⟨qw, cw, w, hw, rfl, hr⟩ ⟨q, cq, l', rfl, hl', hll', hF'⟩ hdj
      have hr1 := hr.joinR (m := m') fun b hb => by
        cases h : m' b with
        | none => rfl
        | some o => exact absurd (hdj b (by rw [h]; simp)) hb
      have hk : k < (resW ms[j].a.w ms[j].b.w C.w).length := by
        rcases Nat.lt_or_ge k (resW ms[j].a.w ms[j].b.w C.w).length with h | h
        · exact h
        · rw [List.getElem?_eq_none h] at hw; cases hw
      have hwk : (resW ms[j].a.w ms[j].b.w C.w)[k] = w := by rw [List.getElem?_eq_getElem hk] at hw; exact Option.some.inj hw
      have hmem : w ∈ resW ms[j].a.w ms[j].b.w C.w := hwk ▸ List.getElem_mem hk
      have hlw' := resW_len hmem
      have hvw : VW w := fun s hs => (resW_sub hmem s hs).elim (hva.2 s) (v2 s)
      have hsub : ∀ b o, m1 b = some o → m'.join m1 b = some o := fun b o hb => hr.join_sub (m := m') (m' := m') b o hb hdj
      have hF1 := hF'.keep (mm' := m'.join m1) fun b hb => Mem.join_old hb
      have hold : ∀ b, m' b ≠ none → m1 b = none := hdj
      obtain ⟨⟨es0, clock0, f0, hes0, _⟩, hrow0, _⟩ := hF'
      have hbm1 : m1 bm = none := hdj bm (by rw [hes0]; simp)
      refine .env (by (try simp only [liE, letsOf, letU, snd, List.append_nil]); rfl) (.join (fun us mm => (∀ b o, m1 b = some o → mm b = some o) ∧ ∃ (q : Option Addr) (cq : Nat) (l' : List WD), us = [.p q, .i l'.length, .i cq] ∧ l'.map (·.w) = fnd (ms.take j) C.w ++ ((resW ms[j].a.w ms[j].b.w C.w).take (k + 1)).filter short ∧ l'.length ≤ 2 * j + (k + 1) ∧ FoundI mm bm q cq l') (.chk (by ((try simp only [evE, liE, letsOf, letU, snd]); (try simp only [cmE])); omega) (.ite (fun h3 => .again rfl ⟨hsub, q, cq, l', (by (simp only [evE, liE, letsOf, letU, snd, Sh.uss, Sh.us, atAddr, map_add0, List.append_nil]) <;> rfl), ?_, by omega, hF1⟩) (fun h3 => ?_))) ?_) <;> (try ((try simp only [evE, liE, letsOf, letU, snd] at h3); (try simp only [cmE] at h3)))
      · rw [hl', List.take_succ_eq_append_getElem hk, hwk, List.filter_append]
        have : short w = false := by simp [short]; omega
        simp [this]
      · obtain ⟨⟨es, clock, f, hes, hMk, hcnt⟩, hrow, hwords⟩ := hF1
        have hsw : short w = true := by simp [short]; omega
        have hcl : (l'.map (·.w)).count w ≤ l'.length := by have := List.count_le_length (a := w) (l := l'.map (·.w)); simpa using this
        refine .callR [.v (keyV w)] (c_key ⟨qw, cw, w⟩ (by show w.length < _; omega)) rfl rfl rfl rfl (fun g => hr1.reads g) (.env (by (try simp only [liE, letsOf, letU, snd, List.append_nil]); rfl) ?_)
        refine .lookupV (.int .i64 0) (keyV w) es f bm [.i ((l'.map (·.w)).count w : Nat)] Tryd.underlying84 Tryd.underlying9 z3 rfl trivial (fun g => vw_map g hes) hMk (uOk_of rfl) ((hcnt w hvw).trans rfl) (.env (by (try simp only [liE, letsOf, letU, snd, List.append_nil]); rfl) ?_)
        refine .updateV (keyV w) (.int .i64 ((l'.map (·.w)).count w + 1 : Nat)) es f bm clock Tryd.underlying84 Tryd.underlying9 rfl trivial ?_ hes hMk (fun es' clock' hM' => ?_)
        · show Value.int .i64 (ar .add .i64 (((l'.map (·.w)).count w : Nat) : Int) 1) = _
          rw [add_i64 _ (by omega)]
        have hcells : ∀ b cur e, (m'.join m1) b = some (.cells cur e (0, 0)) → ((m'.join m1).upd bm (.map es' clock')) b = (m'.join m1) b := fun b cur e hb => Mem.upd_other _ _ fun h => by rw [h, hes] at hb; cases hb
        have hrow2 : Row ((m'.join m1).upd bm (.map es' clock')) 22 1 q cq l'.length (l'.map WD.v) := hrow.keep fun g hq _ => by
          obtain ⟨cur, hcur⟩ := hrow.at_cells hq
          exact hcells g cur 22 hcur
        have hwords2 : ∀ x ∈ l', RowW ((m'.join m1).upd bm (.map es' clock')) 31 x.p x.cap x.w := fun x hx => (hwords x hx).keepT fun b cur hb => hcells b cur 31 hb
        have hr2 : RowW ((m'.join m1).upd bm (.map es' clock')) 31 qw cw w := hr1.keepT fun b cur hb => hcells b cur 31 hb
        have hsub2 : ∀ b o, m1 b = some o → ((m'.join m1).upd bm (.map es' clock')) b = some o := fun b o hb => (Mem.upd_other _ _ fun h => by rw [h, hbm1] at hb; cases hb).trans (hsub b o hb)
        have hbm2 := Mem.upd_same (m'.join m1) bm (.map es' clock')
        have hqm : ∀ b o, q = some ⟨b, o, none⟩ → m1 b = none := fun b o hq => by
          obtain ⟨cur, hcur⟩ := hrow0.at_cells hq
          exact hdj b (by rw [hcur]; simp)
        generalize (m'.join m1).upd bm (.map es' clock') = m2 at *
        clear hes hcells hrow hwords hr1 hMk hsub hes0 hrow0
        refine .alloc fun a4 => .append (n := l'.length) (kx := 1) (qx := some ⟨a4, 0, none⟩) (capx := 1) (news := [slv qw w.length cw]) el85 hrow2 (fun g => g.cells (j := 4) rfl rfl rfl) rfl (by simp; rfl) (fun h => by cases h) (by simp [maxLen]; omega) (by omega) (fun q3 k3 m3 hr3 hk3 _ => ?_)
        have hk31 : ∀ b cur, m2 b = some (.cells cur 31 (0, 0)) → m3 b = m2 b := fun b cur hb => hk3 b (fun ⟨o, ho⟩ => by
          obtain ⟨cur', hcur'⟩ := hrow2.at_cells ho
          rw [hcur'] at hb; cases hb) (by rw [hb]; simp)
        refine .env (by (try simp only [liE, letsOf, letU, snd, List.append_nil]); rfl) (.again rfl ⟨fun b o hb => ?_, q3, k3, l' ++ [⟨qw, cw, w⟩], ?_, ?_, by simp; omega, ⟨es', clock', updF f (keyV w) (.int .i64 ((l'.map (·.w)).count w + 1 : Nat)), ?_, hM', fun u hu => ?_⟩, ?_, fun x hx => ?_⟩)
        · refine (hk3 b (fun ⟨o', ho⟩ => ?_) (by rw [hsub2 b o hb]; simp)).trans (hsub2 b o hb)
          rw [hqm b o' ho] at hb; cases hb
        · (simp only [evE, liE, letsOf, letU, snd, Sh.uss, Sh.us, atAddr, map_add0, List.append_nil]); simp only [List.length_append, List.length_cons, List.length_nil]
        · rw [List.map_append, hl', List.take_succ_eq_append_getElem hk, hwk, List.filter_append]
          simp [hsw]
        · refine (hk3 bm (fun ⟨o', ho⟩ => ?_) (by rw [hbm2]; simp)).trans hbm2
          obtain ⟨cur', hcur'⟩ := hrow2.at_cells ho
          rw [hcur'] at hbm2; cases hbm2
        · rw [List.map_append, List.count_append]
          by_cases e : u = w
          · subst e; rw [updF_same]; simp
          · rw [updF_other f _ fun h => e ((keyV_inj hu hvw).1 h), hcnt u hu]
            have : List.count u (List.map (fun x : WD => x.w) [⟨qw, cw, w⟩]) = 0 := List.count_eq_zero_of_not_mem (by simpa using e)
            rw [this]; rfl
        · rw [List.length_append, List.map_append]; exact hr3
        · rcases List.mem_append.1 hx with hx | hx
          · exact (hwords2 x hx).keepT hk31
          · simp at hx; subst hx; exact hr2.keepT hk31
      rintro _ m2 _ ⟨hsub2, q2, cq2, l2, rfl, hl2, hll2, hF2⟩
      exact .env (by (try simp only [liE, letsOf, letU, snd, List.append_nil]); rfl) (.leave ⟨hsub2, .inl ⟨rfl, q2, cq2, l2, (by (simp only [evE, liE, letsOf, letU, snd, Sh.uss, Sh.us, atAddr, map_add0, List.append_nil]) <;> rfl), hl2, hll2, hF2⟩⟩)
    · rintro us m' _ ⟨q2, cq2, l2, rfl, hl2, hll2, hF2⟩
      refine .env (by (try simp only [liE, letsOf, letU, snd, List.append_nil]); rfl) (.again rfl ⟨n - 1, by omega, j + 1, q2, cq2, l2, ?_, by omega, ?_, by omega, hF2⟩)
      · (simp only [evE, liE, letsOf, letU, snd, Sh.uss, Sh.us, atAddr, map_add0, List.append_nil]); rw [add_i64 j (by omega)]
      · rw [hl2, List.take_of_length_le (Nat.le_refl _), fnd_snoc hj]; rfl
  · ((try simp only [evE, liE, letsOf, letU, snd] at h3); (try simp only [cmE] at h3))
    rw [List.take_of_length_le (by omega)] at hlw
    have : l = [] := List.length_eq_zero_iff.1 (by omega)
    subst this
    rw [← hlw]
    exact ⟨none, 0, rfl, .of (Row.nil _ _ _)⟩
  · ((try simp only [evE, liE, letsOf, letU, snd] at h3); (try simp only [cmE] at h3))
    rw [List.take_of_length_le (by omega)] at hlw
    obtain ⟨⟨es, clock, f, hes, hMk, hcnt⟩, hrow, hwords⟩ := hF
    have hmem : ∀ x ∈ l, x.w ∈ fnd ms C.w := fun x hx => by rw [← hlw]; exact List.mem_map_of_mem hx
    have hsh : ∀ x ∈ l, x.w.length ≤ 32 := fun x hx => by
      obtain ⟨k, _, hk⟩ := List.mem_flatMap.1 (hmem x hx)
      simpa [short] using (List.mem_filter.1 hk).2
    have hvw : ∀ x ∈ l, VW x.w := fun x hx s hs => by
      obtain ⟨k, hk, hk2⟩ := List.mem_flatMap.1 (hmem x hx)
      exact (resW_sub (List.mem_filter.1 hk2).1 s hs).elim ((v1 k hk).2 s) (v2 s)
    have hN : ∀ x ∈ l, (f (keyV x.w)).getD (.int .i64 0) = .int .i64 (votes ms C.w x.w : Nat) ∧ votes ms C.w x.w < 2 ^ 40 ∧ x.w.length ≤ 32 := fun x hx => by
      refine ⟨?_, ?_, hsh x hx⟩
      · rw [hcnt _ (hvw x hx), hlw, count_fnd (hsh x hx)]; rfl
      · have := List.countP_le_length (p := supM C.w x.w) (l := ms)
        unfold votes; omega
    rcases l with _ | ⟨h, t⟩
    · simp at h3
    have hbm := minD_mem (cmp := cmpE (votes ms C.w)) t h
    have hpk : (fnd ms C.w).foldl (pstep (votes ms C.w)) none = some (minD (cmpE (votes ms C.w)) h t).w := by
      rw [← hlw, List.map_cons, List.foldl_cons, minD_pick]; rfl
    have hpos := fnd_votes (hmem _ hbm)
    rw [hpk]
    have hcm := fun x hx y hy => FnV.of (hg := (rfl : goodFn Tryd.prog n_analogy_Extend_1 = true)) (cap := [.pointer (some ⟨a1, 0, none⟩)]) (c_ext1 bm a1 es f hMk (votes ms C.w) (h :: t) hN x y hx hy)
    have hmin := c_minFunc q cq h t (.func (.func n_analogy_Extend_1) #[] #[.pointer (some ⟨a1, 0, none⟩)]) rfl (cmpE (votes ms C.w)) (Ext1At bm a1 es (h :: t)) (fun R S hRS ⟨q1, q2, q3⟩ => ⟨q1.mono hRS, hRS.m _ _ q2, fun x hx => (q3 x hx).mono hRS⟩) (by simp only [List.length_cons] at hll; omega) fun x hx y hy => hcm x hx y hy
    generalize minD (cmpE (votes ms C.w)) h t = B at *
    refine .callR [.p B.p, .i B.w.length, .i B.cap] hmin rfl rfl (slv_fresh _ _ _ _ _) rfl (fun g => ⟨hrow.reads g, g.cells (j := 1) rfl rfl rfl, vw_map g hes, fun x hx => (hwords x hx).reads g⟩) (.env (by (try simp only [liE, letsOf, letU, snd, List.append_nil]); rfl) ?_)
    obtain ⟨nB, _, lB⟩ := hN B hbm
    refine .callR [.v (keyV B.w)] (c_key B (by omega)) rfl rfl rfl rfl (fun g => (hwords B hbm).reads g) (.env (by (try simp only [liE, letsOf, letU, snd, List.append_nil]); rfl) ?_)
    refine .lookupV (.int .i64 0) (keyV B.w) es f bm [.i (votes ms C.w B.w : Nat)] Tryd.underlying84 Tryd.underlying9 z3 rfl trivial (fun g => vw_map g hes) hMk (uOk_of rfl) (nB.trans rfl) (.env (by (try simp only [liE, letsOf, letU, snd, List.append_nil]); rfl) (.ret rfl ?_))
    show ExtR 31 m _ (if votes ms C.w B.w = 0 then ([], 0, 5) else (B.w, ((votes ms C.w B.w : Nat) : Int), 0))
    rw [if_neg (by omega)]
    exact ⟨B.p, B.cap, rfl, hwords B hbm⟩
end Go.Proofs.YtpbbnmjkbfbelaaDoor
