/- Chapter 18: the reference's insertion of a word. -/
import Derived.Test.YtialbhieaipcgaaDoorBo
set_option linter.unusedSimpArgs false
set_option linter.unusedVariables false
/- Chapter 18: the reference's insertion of a word. -/
namespace Go.Sy
open Go Go.RowKit
end Go.Sy
namespace Go.Proofs.YtialbhieaipcgaaDoor
open Go Go.Sy Go.RowKit
end Go.Proofs.YtialbhieaipcgaaDoor
/- Chapter 18: Progressive. -/
namespace Go.Sy
open Go Go.RowKit
def progA (ws : List Int) (gap : Int) (W : List (List Snd)) : List (List Int) × Int := if checkC ws gap ≠ 0 then ([], checkC ws gap) else if wordsE 8 W ≠ 0 then ([], wordsE 8 W) else (progE ws gap W W.length, 0)
theorem wordsE_zero {most : Int} {W : List (List Snd)} (h : wordsE most W = 0) : (W.length : Int) ≤ most ∧ checkL W = 0 := by
  unfold wordsE at h
  split at h
  · cases h
  · exact ⟨by omega, h⟩
theorem words_len {W : List (List Snd)} (h : checkL W = 0) : ∀ x ∈ W, x.length ≤ 32 := fun x hx => (checkW_zero (checkL_zero h x hx)).1
theorem sumL_le {W : List (List Snd)} (h : ∀ x ∈ W, x.length ≤ 32) : ∀ k, k ≤ W.length → sumL W k ≤ 32 * k
  | 0, _ => Nat.le_refl _
  | k + 1, hk => by
    have ih := sumL_le h k (by omega)
    have := h _ (List.getElem_mem (show k < W.length by omega))
    show sumL W k + (W.getD k []).length ≤ _
    rw [getD_at _ _ _ (by omega)]; omega
theorem progE_step (ws : List Int) (gap : Int) (W : List (List Snd)) (k : Nat) : progE ws gap W (k + 1) = insE (columnE ws gap W) (progE ws gap W k) k k (W.getD k []).length := rfl
theorem progE_open {ws : List Int} {gap : Int} (hc : checkC ws gap = 0) (W : List (List Snd)) {k : Nat} (hk : k < 8) {w i j : Nat} (h : openI (progE ws gap W k).length (W.getD k []).length i j w) : (lookS (progE ws gap W k) k k i j w).length = k + 1 ∧ EntOk W (lookS (progE ws gap W k) k k i j w) := by
  have ih := progE_ent hc W k (by omega)
  exact ⟨lookS_len' (Nat.le_refl k) (fun x hx => (ih x hx).1) (open_lt h).1, lookS_ent (Nat.le_refl k) (fun x hx => ⟨(ih x hx).1, by have := EntAt.of (ih x hx).2; rw [(ih x hx).1] at this; exact this⟩) (wl_getD W k) h⟩
theorem EntOk.take {W : List (List Snd)} {col : List Int} {n : Nat} (h : EntOk W col) (hl : col.length ≤ n) : EntOk (W.take n) col := fun i hi => by
  have := h i hi
  unfold wl at this ⊢
  rw [List.getElem?_take, if_pos (by omega)]; exact this
end Go.Sy
namespace Go.Proofs.YtialbhieaipcgaaDoor
open Go Go.Sy Go.RowKit
theorem c_prog1 (b2 : Nat) (pc : Option Addr) (cc : Nat) (ws : List Int) (gap : Int) : FnM Tryd.prog n_multi_Progressive_1 [.pointer (some ⟨b2, 0, none⟩)] (fun R => Cells R (some ⟨b2, 0, none⟩) [slv pc ws.length cc, .int .i64 gap] ∧ CostsAt R pc ws) fun v _ _ => v = .int .i64 (checkC ws gap) :=
  FnM.of S_multi_Progressive_1 mx [.p (some ⟨b2, 0, none⟩)] rfl rfl fun c hp => .loadCost [slv pc ws.length cc, .int .i64 gap] 0 pc ws.length cc gap rfl rfl rfl (fun g => hp.1.mono g.R) (.env (by (try simp only [liE, letsOf, letU, snd, List.append_nil]); rfl) (.callV (c_checkCosts pc cc ws gap) (fun g => hp.2.mono g.R) (.ret rfl rfl)))
theorem c_prog2 (b0 : Nat) (p : Option Addr) (cp : Nat) (l : List WD) (hl : l.length < 2 ^ 62) (hok : ∀ x ∈ l, Wok x.w) : FnM Tryd.prog n_multi_Progressive_2 [.pointer (some ⟨b0, 0, none⟩)] (fun R => Cells R (some ⟨b0, 0, none⟩) [slv p l.length cp] ∧ WordsAt R p l) fun v _ _ => v = .int .i64 (wordsE 8 (l.map (·.w))) :=
  FnM.of S_multi_Progressive_2 mx [.p (some ⟨b0, 0, none⟩)] rfl rfl fun c hp => .loadS [slv p l.length cp] 0 p l.length cp rfl rfl (fun g => hp.1.mono g.R) (.env (by (try simp only [liE, letsOf, letU, snd, List.append_nil]); rfl) (.callV (c_words p cp l 8 (by omega) hok) (fun g => hp.2.mono g.R) (.ret rfl rfl)))
theorem words_take {R : Mv} {p : Option Addr} {l : List WD} (h : WordsAt R p l) (k : Nat) : WordsAt R p (l.take k) :=
  ⟨(fun j v hj => by
    rw [List.map_take, List.getElem?_take] at hj
    split at hj
    · exact h.1 j v hj
    · cases hj), fun x hx => h.2 x (List.mem_of_mem_take hx)⟩
/-- An argument's beginning. -/
theorem take_den {p : Option Addr} {cp k n : Nat} (hk : k + 1 ≤ n) (hn : n < 2 ^ 40) : Value.slice (Option.map (fun a => a.add (if (cp : Int) = 0 then (0 : Int) else 0).toNat) p) (ar .add .i64 (k : Int) 1).toNat ((cp : Int)).toNat = slv p (k + 1) cp := by
  rw [add_i64 k (by omega)]; exact head_den
theorem c_Progressive (p pc : Option Addr) (cp cc : Nat) (l : List WD) (ws : List Int) (gap : Int) (hl : l.length < 2 ^ 40) (hlc : l.length ≤ cp) (hok : ∀ x ∈ l, Wok x.w) :
    FnM Tryd.prog n_multi_Progressive [slv p l.length cp, costs pc ws.length cc gap] (fun R => WordsAt R p l ∧ CostsAt R pc ws ∧ TabOk R ∧ StepsOk R) fun v mq _ => ∃ q cq rs', v = .tuple #[slv q rs'.length cq, .int .i64 (progA ws gap (l.map (·.w))).2] ∧ rs'.map (·.l) = (progA ws gap (l.map (·.w))).1 ∧ TabI mq q cq rs' := by
  refine FnM.of S_multi_Progressive mx [.p p, .i l.length, .i cp, .p pc, .i ws.length, .i cc, .i gap] rfl rfl fun c hp => .alloc fun b0 => .alloc fun b1 => .alloc fun b2 => ?_
  have kf := c_first (fun R => Cells R (some ⟨b1, 0, none⟩) [slv pc ws.length cc, .int .i64 gap] ∧ Cells R (some ⟨b0, 0, none⟩) [slv p l.length cp] ∧ WordsAt R p l ∧ CostsAt R pc ws)
    (fun h hle => ⟨h.1.mono hle, h.2.1.mono hle, h.2.2.1.mono hle, h.2.2.2.mono hle⟩)
    [(.func (.func n_multi_Progressive_1) #[] #[.pointer (some ⟨b1, 0, none⟩)], checkC ws gap), (.func (.func n_multi_Progressive_2) #[] #[.pointer (some ⟨b0, 0, none⟩)], wordsE 8 (l.map (·.w)))] (some ⟨b2, 0, none⟩) 2 (show 2 < 2 ^ 62 by decide)
    (by simp [Value.oneCell'])
    (by
      intro f hf
      rcases List.mem_cons.1 hf with rfl | hf
      · exact .weak (.of (args := []) (cap := [.pointer (some ⟨b1, 0, none⟩)]) (by kernel_rfl) (c_prog1 b1 pc cc ws gap)) fun R h => ⟨h.1, h.2.2.2⟩
      · rw [List.mem_singleton] at hf
        subst hf
        exact .weak (.of (args := []) (cap := [.pointer (some ⟨b0, 0, none⟩)]) (by kernel_rfl) (c_prog2 b0 p cp l (by omega) hok)) fun R h => ⟨h.2.1, h.2.2.1⟩)
  refine .callV kf (fun g => ⟨g.cells (j := 2) rfl rfl rfl, g.cells (j := 1) rfl rfl rfl, g.cells (j := 0) rfl rfl rfl, hp.1.mono g.R, hp.2.1.mono g.R⟩) (.env (by (try simp only [liE, letsOf, letU, snd, List.append_nil]); rfl) (.ite (fun h1 => .ret rfl ?_) (fun h1 => ?_)))
  · ((try simp only [evE, liE, letsOf, letU, snd] at h1); (try simp only [cmE] at h1))
    replace h1 : (if checkC ws gap ≠ 0 then checkC ws gap else if wordsE 8 (l.map (·.w)) ≠ 0 then wordsE 8 (l.map (·.w)) else 0) ≠ 0 := h1
    refine ⟨none, 0, [], ?_, ?_, .empty _⟩
    · show Value.tuple #[Value.slice none 0 0, .int .i64 (if checkC ws gap ≠ 0 then checkC ws gap else if wordsE 8 (l.map (·.w)) ≠ 0 then wordsE 8 (l.map (·.w)) else 0)] = _
      unfold progA
      by_cases h2 : checkC ws gap ≠ 0
      · rw [if_pos h2, if_pos h2]; rfl
      · rw [if_neg h2, if_neg h2]
        rw [if_neg h2] at h1
        by_cases h3 : wordsE 8 (l.map (·.w)) ≠ 0
        · rw [if_pos h3, if_pos h3]; rfl
        · rw [if_neg h3] at h1; exact absurd rfl h1
    · unfold progA
      by_cases h2 : checkC ws gap ≠ 0
      · rw [if_pos h2]; rfl
      · rw [if_neg h2]
        rw [if_neg h2] at h1
        by_cases h3 : wordsE 8 (l.map (·.w)) ≠ 0
        · rw [if_pos h3]; rfl
        · rw [if_neg h3] at h1; exact absurd rfl h1
  · ((try simp only [evE, liE, letsOf, letU, snd] at h1); (try simp only [cmE] at h1))
    replace h1 : (if checkC ws gap ≠ 0 then checkC ws gap else if wordsE 8 (l.map (·.w)) ≠ 0 then wordsE 8 (l.map (·.w)) else 0) = 0 := h1
    have h2 : checkC ws gap = 0 := by
      by_cases h2 : checkC ws gap ≠ 0
      · rw [if_pos h2] at h1; exact h1
      · simpa using h2
    have h3 : wordsE 8 (l.map (·.w)) = 0 := by
      rw [if_neg (by simp [h2])] at h1
      by_cases h3 : wordsE 8 (l.map (·.w)) ≠ 0
      · rw [if_pos h3] at h1; exact h1
      · simpa using h3
    have hspec : progA ws gap (l.map (·.w)) = (progE ws gap (l.map (·.w)) l.length, 0) := by unfold progA; rw [if_neg (by simp [h2]), if_neg (by simp [h3]), List.length_map]
    rw [hspec]
    obtain ⟨h8, hL⟩ := wordsE_zero h3
    have h32 := words_len hL
    rw [List.length_map] at h8
    refine .callE (c_pricer p pc cp cc l ws gap) (fun _ => trivial) ?_
    rintro v mq m' hle hqe ⟨d1, d0, rfl, hc1, hc0⟩
    have hpv := PrV.of (b1 := d1) (b0 := d0) (pc := pc) (cc := cc) (ws := ws) (gap := gap) (p := p) (cp := cp) (by omega) hok h2
    have hq1 := hc1.mono hqe.mv
    have hq0 := hc0.mono hqe.mv
    refine ⟨[.v (.func (.func n_multi_pricer_1) #[] #[.pointer (some ⟨d1, 0, none⟩), .pointer (some ⟨d0, 0, none⟩)])], uOk_of rfl, rfl, .env (by (try simp only [liE, letsOf, letU, snd, List.append_nil]); rfl) (.chk (by ((try simp only [evE, liE, letsOf, letU, snd]); (try simp only [cmE])); omega) ?_)⟩
    refine .loop (fun z us m2 => ∃ (q : Option Addr) (cq : Nat) (rs : List IR) (k : Nat), us = [.p q, .i rs.length, .i cq, .i k] ∧ k ≤ l.length ∧ z = l.length - k ∧ rs.map (·.l) = progE ws gap (l.map (·.w)) k ∧ TabI m2 q cq rs ∧ m'.le m2) l.length
      ⟨none, 0, [], 0, by (simp only [evE, liE, letsOf, letU, snd, Sh.uss, Sh.us, atAddr, map_add0, List.append_nil]); rfl, Nat.zero_le _, rfl, rfl, .empty _, Mem.le.refl _⟩ ?_
    rintro z _ m2 _ ⟨q, cq, rs, k, rfl, hk, rfl, hrs, hT, hle2⟩
    refine .env (by (try simp only [liE, letsOf, letU, snd, List.append_nil]); rfl) (.ite (fun h4 => ?_) (fun h4 => .ret rfl ⟨q, cq, rs, rfl, ?_, hT⟩)) <;> ((try simp only [evE, liE, letsOf, letU, snd] at h4); (try simp only [cmE] at h4))
    · have hk : k < l.length := by omega
      have hlen := congrArg List.length hrs
      rw [List.length_map] at hlen
      have hpl := progE_len ws gap (l.map (·.w)) k
      have hsl := sumL_le h32 k (by rw [List.length_map]; omega)
      have hent := progE_ent h2 (l.map (·.w)) k (by omega)
      have hrl : ∀ r ∈ rs, r.ok ∧ r.l.length = k := fun r hr => by
        have h5 : r.l.length = k := (hent r.l (by rw [← hrs]; exact List.mem_map_of_mem hr)).1
        exact ⟨⟨(hT.rows r hr).le, (hT.rows r hr).nil, by omega⟩, h5⟩
      have hwk : ((l.take (k + 1))[k]'(by rw [List.length_take]; omega)).w.length = ((l.map (·.w)).getD k []).length := by rw [List.getElem_take, getD_w l k hk]
      have hw32 : ((l.map (·.w)).getD k []).length ≤ 32 := by rw [getD_w l k hk]; exact h32 _ (List.mem_map_of_mem (List.getElem_mem hk))
      have key := c_insert p q cp cq (l.take (k + 1)) rs k k ((l.map (·.w)).getD k []).length rs.length _ _ _ _ hpv (by rw [List.length_take]; omega) rfl (by omega) (Nat.le_refl k) hwk (by omega) hrl
        (fun hne => by rcases Nat.eq_zero_or_pos k with h | h; · rw [h] at hrs; exact absurd (List.map_eq_nil_iff.1 hrs) hne
                       · exact h)
        (by rw [hrs]; exact cI_nonneg h2 _ (by omega) (fun x hx => (hent x hx).1) k)
        (fun w i j ho => by
          rw [hrs]
          rw [hlen] at ho
          have := progE_open h2 (l.map (·.w)) (by omega) ho
          exact ⟨by omega, this.2⟩)
      rw [hrs, ← progE_step, List.length_take, Nat.min_eq_left (by omega)] at key
      refine .chk (by ((try simp only [evE, liE, letsOf, letU, snd]); (try simp only [cmE])); rw [add_i64 k (by omega)]; omega) (.callE key (fun g => ⟨⟨(hq1.mono hle2.mv).mono g.mv, (hq0.mono hle2.mv).mono g.mv, hp.1.mono g.R, hp.2.1.mono g.R, hp.2.2.1.mono g.R⟩, words_take (hp.1.mono g.R) _, hT.reads g, hp.2.2.2.mono g.R⟩) ?_ (by
        show [Value.slice _ _ _, slv q rs.length cq, .int .i64 (k : Int), _] = _
        rw [← take_den (p := p) (cp := cp) (k := k) (n := l.length) (by omega) (by omega)]; rfl))
      rintro v mq2 m3 hle3 hqe3 ⟨q', cq', rs', rfl, h5, h6⟩
      refine ⟨[.p q', .i (rs'.length : Nat), .i (cq' : Nat)], uOk_of rfl, (slv_fresh _ _ _ _ _).symm, .env (by (try simp only [liE, letsOf, letU, snd, List.append_nil]); rfl) (.again rfl ⟨l.length - (k + 1), by omega, q', cq', rs', k + 1, ?_, by omega, rfl, h5, h6.le' hqe3, hle2.trans hle3⟩)⟩
      (simp only [evE, liE, letsOf, letU, snd, Sh.uss, Sh.us, atAddr, map_add0, List.append_nil]); rw [add_i64 k (by omega)]
    · obtain rfl : k = l.length := by omega
      exact hrs
end Go.Proofs.YtialbhieaipcgaaDoor
