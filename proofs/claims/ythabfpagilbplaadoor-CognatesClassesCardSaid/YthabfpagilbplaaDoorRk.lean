/- Chapter 19: Sets, walked; the law Sets. -/
import Derived.Test.YthabfpagilbplaaDoorRj
import Derived.Test.YthabfpagilbplaaDoorTcSets
set_option linter.unusedSimpArgs false
set_option linter.unusedVariables false
namespace Go.Proofs.YthabfpagilbplaaDoor
open Go Go.Sy Go.RowKit
theorem tabI_of {m : Mem} {q : Option Addr} {cq : Nat} {rs : List RD} (h : Tab m 30 3 .i64 q cq rs) : TabI m q cq (rs.map fun r => ⟨r.p, r.cap, r.v⟩) := by
  have e : (rs.map fun r => (⟨r.p, r.cap, r.v⟩ : IR)).map IR.v = rs.map RD.s := by rw [List.map_map]; rfl
  refine ⟨fun _ => by rw [e, List.length_map]; exact h.out, fun r hr => ?_, cap0_of h.out, by rw [List.length_map]; exact h.out.cap_le⟩
  obtain ⟨x, hx, rfl⟩ := List.mem_map.1 hr
  exact .of (h.inn x hx)
theorem badS_any {l : List Int} {j : Nat} (hj : j < l.length) (h : badS l j = true) : (List.range l.length).any (badS l) = true := List.any_eq_true.2 ⟨j, List.mem_range.2 hj, h⟩
theorem badS_none {l : List Int} (h : ∀ j, j < l.length → badS l j = false) : (List.range l.length).any (badS l) = false := List.any_eq_false.2 fun j hj => by rw [h j (List.mem_range.1 hj)]; simp
theorem c_Sets (p : Option Addr) (cp : Nat) (l : List Int) (hl : l.length < 2 ^ 63) : FnM Tryd.prog n_cognates_Sets [slv p l.length cp] (fun R => Cells R p (intsL l)) fun v mq _ => ∃ q cq rs, v = .tuple #[slv q rs.length cq, .int .i64 (setsE l).2] ∧ rs.map (·.l) = (setsE l).1 ∧ TabI mq q cq rs := by
  refine FnM.of S_cognates_Sets mx [.p p, .i l.length, .i cp] rfl rfl fun c hp => .chk (by ((try simp only [evE, liE, letsOf, letU, snd]); (try simp only [cmE])); omega) (.ite (fun h1 => .ret rfl ?_) (fun h1 => .chk (by ((try simp only [evE, liE, letsOf, letU, snd]); (try simp only [cmE])); omega) ?_)) <;> ((try simp only [evE, liE, letsOf, letU, snd] at h1); (try simp only [cmE] at h1))
  · unfold setsE; rw [if_pos (by omega)]; exact ⟨none, 0, [], rfl, rfl, .empty _⟩
  have h256 : ¬ l.length > 256 := by omega
  refine .loop (fun n us m => ∃ (pp : Option Addr) (n1 n2 : Int) (e : Int) (j : Nat), j ≤ l.length ∧ us = [.p pp, .i n1, .i n2, .i e, .i j] ∧ n = l.length - j ∧ ∀ i, i < j → badS l i = false) l.length ⟨none, 0, 0, 0, 0, Nat.zero_le _, rfl, rfl, fun i h => by omega⟩ ?_
  rintro n us m _ ⟨pp, n1, n2, e, j, hj, rfl, rfl, hb⟩
  refine .env (by (try simp only [liE, letsOf, letU, snd, List.append_nil]); rfl) (.ite (fun h2 => ?_) (fun h2 => .chk (by ((try simp only [evE, liE, letsOf, letU, snd]); (try simp only [cmE])); omega) ?_)) <;> ((try simp only [evE, liE, letsOf, letU, snd] at h2); (try simp only [cmE] at h2))
  · have hj : j < l.length := by omega
    have bad : badS l j = true → setsE l = ([], 2) := fun h => by unfold setsE; rw [if_neg h256, if_pos (badS_any hj h)]
    have next : badS l j = false → ∀ i, i < j + 1 → badS l i = false := fun h i hi => by
      rcases Nat.lt_or_ge i j with h' | h'
      · exact hb i h'
      · have : i = j := by omega
        subst this; exact h
    refine .elem1 (.int .i64 (labAt l j)) (intsL l) j l.length rfl rfl hj (fun g => hp.mono g.R) (intsL_at _ _ hj) (.env (by (try simp only [liE, letsOf, letU, snd, List.append_nil]); rfl) (.ite (fun h3 => .ite (fun h4 => ?_) (fun h4 => ?_)) (fun h3 => .ret rfl ?_)))
    · replace h3 : (!(bif decide (labAt l j < -1) then true else decide (labAt l j > (j : Int)))) = true := h3
      ((try simp only [evE, liE, letsOf, letU, snd] at h4); (try simp only [cmE] at h4))
      have h5 : labAt l j ≤ (j : Int) := by
        by_cases h6 : labAt l j > (j : Int)
        · rw [decide_eq_true h6] at h3; cases h7 : decide (labAt l j < -1) <;> rw [h7] at h3 <;> simp at h3
        · omega
      obtain ⟨k, hk⟩ := Int.eq_ofNat_of_zero_le h4
      have hkl : k < l.length := by omega
      refine .elem1 (.int .i64 (labAt l k)) (intsL l) k l.length hk rfl hkl (fun g => hp.mono g.R) (intsL_at _ _ hkl) (.env (by (try simp only [liE, letsOf, letU, snd, List.append_nil]); rfl) (.ite (fun h6 => .ret rfl ?_) (fun h6 => .again rfl ⟨l.length - (j + 1), by omega, pp, n1, n2, e, j + 1, by omega, ?_, rfl, next ?_⟩)))
      · ((try simp only [evE, liE, letsOf, letU, snd] at h6); (try simp only [cmE] at h6))
        rw [bad (badS_yes (by omega) (.inr (.inr (by rw [hk] at h6 ⊢; exact h6))))]
        exact ⟨none, 0, [], rfl, rfl, .empty _⟩
      · (simp only [evE, liE, letsOf, letU, snd, Sh.uss, Sh.us, atAddr, map_add0, List.append_nil]); rw [add_i64 j (by omega)]
      · ((try simp only [evE, liE, letsOf, letU, snd] at h6); (try simp only [cmE] at h6))
        exact badS_no ⟨h4, h5, by rw [hk] at h6 ⊢; exact h6⟩
    · replace h3 : (!(bif decide (labAt l j < -1) then true else decide (labAt l j > (j : Int)))) = true := h3
      ((try simp only [evE, liE, letsOf, letU, snd] at h4); (try simp only [cmE] at h4))
      have h5 : labAt l j = -1 := by
        by_cases h6 : labAt l j < -1
        · rw [decide_eq_true h6] at h3; cases h3
        · omega
      refine .again rfl ⟨l.length - (j + 1), by omega, pp, n1, n2, e, j + 1, by omega, ?_, rfl, next (by unfold badS; rw [h5]; rfl)⟩
      (simp only [evE, liE, letsOf, letU, snd, Sh.uss, Sh.us, atAddr, map_add0, List.append_nil]); rw [add_i64 j (by omega)]
    · replace h3 : (!(bif decide (labAt l j < -1) then true else decide (labAt l j > (j : Int)))) = false := h3
      have h5 : labAt l j < -1 ∨ (j : Int) < labAt l j := by
        by_cases h6 : labAt l j < -1
        · exact .inl h6
        · right
          by_cases h7 : labAt l j > (j : Int)
          · exact h7
          · rw [decide_eq_false h6, decide_eq_false h7] at h3; cases h3
      rw [bad (badS_yes (by omega) (by omega))]
      exact ⟨none, 0, [], rfl, rfl, .empty _⟩
  · have hgood : GoodS l l.length := goodS_of fun i hi => hb i (by omega)
    have hspec : setsE l = (grpE l l.length, 0) := by
      unfold setsE; rw [if_neg h256, badS_none fun i hi => hb i (by omega)]; rfl
    rw [hspec]
    clear hb h2 hj hspec
    refine .make (z := .int .i64 0) (bytes := 8) l.length Tryd.underlying30 (by kernel_rfl) rfl (by omega) (by simp [maxLen]; omega) fun g9 hg9 hrow => .env (by (try simp only [liE, letsOf, letU, snd, List.append_nil]); rfl) (.chk (by ((try simp only [evE, liE, letsOf, letU, snd]); (try simp only [cmE])); omega) ?_)
    generalize m.upd g9 _ = m9 at hrow ⊢
    refine .loop (fun n us m => ∃ (q : Option Addr) (cq : Nat) (rs : List RD) (i : Nat), i ≤ l.length ∧ us = [.p q, .i rs.length, .i cq, .i i] ∧ n = l.length - i ∧ rs.map (·.v) = grpE l i ∧ Tab m 30 3 .i64 q cq rs ∧ (∀ r ∈ rs, r.p ≠ some ⟨g9, 0, none⟩) ∧ Row m 3 1 (some ⟨g9, 0, none⟩) l.length l.length (intsL (placeE l i))) l.length ⟨none, 0, [], 0, Nat.zero_le _, rfl, rfl, rfl, ⟨.nil _ _ _, (by intro r hr; cases hr), (fun i j hi => by simp at hi), by decide⟩, (by intro r hr; cases hr), by rw [placeE_zero]; simpa [intsL] using hrow⟩ ?_
    rintro n us m4 _ ⟨q, cq, rs, i, hi, rfl, rfl, hrs, hT, hsep, hpl⟩
    have hlen : rs.length ≤ i := by
      have := congrArg List.length hrs
      rw [List.length_map] at this
      unfold grpE at this
      rw [List.length_map] at this
      have := heads_len l i
      omega
    refine .env (by (try simp only [liE, letsOf, letU, snd, List.append_nil]); rfl) (.ite (fun h3 => ?_) (fun h3 => .ret rfl ?_)) <;> ((try simp only [evE, liE, letsOf, letU, snd] at h3); (try simp only [cmE] at h3))
    · have hi : i < l.length := by omega
      refine .elem1 (.int .i64 (labAt l i)) (intsL l) i l.length rfl rfl hi (fun g => hp.mono g.R) (intsL_at _ _ hi) (.env (by (try simp only [liE, letsOf, letU, snd, List.append_nil]); rfl) (.ite (fun h4 => ?_) (fun h4 => .ite (fun h5 => ?_) (fun h5 => ?_)))) <;> ((try simp only [evE, liE, letsOf, letU, snd] at h4); (try simp only [cmE] at h4))
      · refine .again rfl ⟨l.length - (i + 1), by omega, q, cq, rs, i + 1, by omega, ?_, rfl, by rw [grp_none h4]; exact hrs, hT, hsep, by rw [placeE_same (by omega)]; exact hpl⟩
        (simp only [evE, liE, letsOf, letU, snd, Sh.uss, Sh.us, atAddr, map_add0, List.append_nil]); rw [add_i64 i (by omega)]
      · ((try simp only [evE, liE, letsOf, letU, snd] at h5); (try simp only [cmE] at h5))
        have hrl : (heads l i).length = rs.length := by
          have := congrArg List.length hrs
          rw [List.length_map] at this
          unfold grpE at this
          rw [List.length_map] at this
          exact this.symm
        have hmg : m4 g9 ≠ none := by
          rcases hpl.2 with ⟨h, _⟩ | ⟨g', cur, h, h', _⟩
          · cases h
          · cases h; rw [h']; simp
        refine .chk (by ((try simp only [evE, liE, letsOf, letU, snd]); (try simp only [cmE])); omega) (.storeR i hi hpl rfl rfl rfl fun m5 g hg hpl' hs5 => ?_)
        cases hg
        replace hpl' : Row m5 3 1 (some ⟨g9, 0, none⟩) l.length l.length (intsL (placeE l (i + 1))) := by
          rw [← placeE_set h5 hi, ← intsL_set, hrl]; exact hpl'
        have hT5 : Tab m5 30 3 .i64 q cq rs := by
          refine ⟨hT.out.keep fun b hb hb' => hs5 b fun e => ?_, fun r hr => (hT.inn r hr).keep fun b hb _ => hs5 b fun e => hsep r hr (by rw [hb, e]), hT.apart, hT.ne⟩
          exact hT.out.apart hpl (by decide) b hb (by rw [e])
        refine .alloc' fun b1 _ hb1 _ => .alloc' fun b2 hb21 hb2 _ => ?_
        have hne21 : b2 ≠ b1 := fun e => hb21 (by rw [e]; simp)
        refine .env (by (try simp only [liE, letsOf, letU, snd, List.append_nil]); rfl) (.append (q := q) (cap := cq) (n := rs.length) (qx := some ⟨b2, 0, none⟩) (kx := 1) (capx := 1) (news := [slv (some ⟨b1, 0, none⟩) 1 1]) elT hT5.out (fun g => g.cells (j := 1) rfl rfl rfl) rfl (by simp [slv, Value.oneCell']) (fun h => by cases h) (by simp [maxLen]; omega) (by omega) (fun q' cq' m6 hr6 hk6 _ => .againL rfl fun gd => ⟨l.length - (i + 1), by omega, q', cq', rs ++ [⟨some ⟨b1, 0, none⟩, 1, [(i : Int)]⟩], i + 1, by omega, ?_, rfl, ?_, ?_, ?_, ?_⟩))
        · (simp only [evE, liE, letsOf, letU, snd, Sh.uss, Sh.us, atAddr, map_add0, List.append_nil]); rw [add_i64 i (by omega), List.length_append]; rfl
        · rw [List.map_append, hrs, grp_new (fun j hj => hgood j (by omega)) h5]; rfl
        · have h61 : m6 b1 = none := (gd.blk b1 (by simp)).1
          have h62 : m6 b2 = none := (gd.blk b2 (by simp)).1
          show Tab ((m6.upd b2 (.cells #[slv (some ⟨b1, 0, none⟩) 1 1] 30 (0, 0))).upd b1 (.cells #[.int .i64 (i : Int)] 3 (0, 0))) _ _ _ _ _ _
          refine Tab.push (m := (m5.upd b2 (.cells #[slv (some ⟨b1, 0, none⟩) 1 1] 30 (0, 0))).upd b1 (.cells #[.int .i64 (i : Int)] 3 (0, 0))) (hT5.keep fun b hb => ?_) (r := ⟨some ⟨b1, 0, none⟩, 1, [(i : Int)]⟩) ⟨rfl, .inr ⟨b1, _, rfl, Mem.upd_same .., Nat.le_refl _, by show 1 ≤ maxLen; decide, rfl, rfl⟩⟩ (fun x hx b hb e => ?_) ?_ (fun b hb hb' => ?_)
          · rw [Mem.upd_other _ _ (fun e => hb (by rw [e]; exact hb1)), Mem.upd_other _ _ (fun e => hb (by rw [e]; exact hb2))]
          · cases e
            rcases (hT5.inn x hx).2 with ⟨h, _⟩ | ⟨g', cur, h, h', _⟩
            · rw [h] at hb; cases hb
            · rw [h] at hb; cases hb; rw [hb1] at h'; cases h'
          · refine hr6.keep fun b _ hb => ?_
            rw [Mem.upd_other _ _ (fun e => hb (by rw [e]; exact h61)), Mem.upd_other _ _ (fun e => hb (by rw [e]; exact h62))]
          · by_cases e1 : b = b1
            · subst e1; rw [Mem.upd_same, Mem.upd_same]
            · rw [Mem.upd_other _ _ e1, Mem.upd_other _ _ e1] at *
              by_cases e2 : b = b2
              · subst e2; rw [Mem.upd_same, Mem.upd_same]
              · rw [Mem.upd_other _ _ e2, Mem.upd_other _ _ e2] at *
                exact hk6 b hb hb'
        · intro r hr
          rcases List.mem_append.1 hr with hr | hr
          · exact hsep r hr
          · simp at hr; subst hr
            intro e; cases e
            have := hpl'.2
            rcases this with ⟨h, _⟩ | ⟨g', cur, h, h', _⟩
            · cases h
            · cases h; rw [hb1] at h'; cases h'
        · have h61 : m6 b1 = none := (gd.blk b1 (by simp)).1
          have h62 : m6 b2 = none := (gd.blk b2 (by simp)).1
          show Row ((m6.upd b2 _).upd b1 _) _ _ _ _ _ _
          refine (hpl'.keepA hT5.out (by decide) hk6).keep fun b _ hb => ?_
          rw [Mem.upd_other _ _ (fun e => hb (by rw [e]; exact h61)), Mem.upd_other _ _ (fun e => hb (by rw [e]; exact h62))]
      · ((try simp only [evE, liE, letsOf, letU, snd] at h5); (try simp only [cmE] at h5))
        obtain ⟨k, hk, hki, hkk⟩ : ∃ k : Nat, labAt l i = (k : Int) ∧ k < i ∧ labAt l k = (k : Int) := by
          rcases hgood i hi with h | ⟨k, h6, h7, h8⟩
          · omega
          · exact ⟨k, h6, by omega, h8⟩
        have hkl : k < l.length := by omega
        have hpk : (intsL (placeE l i))[k]? = some (.int .i64 ((heads l k).length : Int)) := by
          unfold intsL
          rw [List.getElem?_map, placeE_at hkl, if_pos ⟨hki, hkk⟩]; rfl
        have hgx := grp_at hki hkk
        rw [← hrs, List.getElem?_map, Option.map_eq_some_iff] at hgx
        obtain ⟨r, hr, hrv⟩ := hgx
        obtain ⟨hx, hrx⟩ := List.getElem?_eq_some_iff.1 hr
        have hrm : r ∈ rs := List.mem_of_getElem? hr
        refine .elem1 (.int .i64 ((heads l k).length : Int)) (intsL (placeE l i)) k l.length (by show labAt l i = _; exact hk) rfl hkl (fun g => hpl.reads g) hpk (.env (by (try simp only [liE, letsOf, letU, snd, List.append_nil]); rfl) (.elem1 (.int .i64 ((heads l k).length : Int)) (intsL (placeE l i)) k l.length (by show labAt l i = _; exact hk) rfl hkl (fun g => hpl.reads g) hpk (.env (by (try simp only [liE, letsOf, letU, snd, List.append_nil]); rfl) (.loadRow hT (heads l k).length r hr (.alloc' fun b0 _ hb0 _ => .env (by (try simp only [liE, letsOf, letU, snd, List.append_nil]); rfl) ?_) rfl rfl rfl))))
        have hml : r.v.length ≤ 256 := by rw [hrv]; have := memb_len l (k : Int) i; omega
        have hplc := hpl.2
        rcases hplc with ⟨h, _⟩ | ⟨g', cur, hq', hg', _, _, _, hcur⟩
        · cases h
        cases hq'
        refine .appendK (q := r.p) (cap := r.cap) (n := r.v.length) (qx := some ⟨b0, 0, none⟩) (kx := 1) (capx := 1) (news := [.int .i64 (i : Int)]) (.int .i64 ((heads l k).length : Int)) g9 k elI (hT.inn r hrm) (fun g => g.cells (j := 0) rfl rfl rfl) rfl (by simp [Value.oneCell']) (fun h => by cases h) (by simp [maxLen]; omega) (by omega) Tryd.underlying3 (by kernel_rfl) (by kernel_rfl) hg' ?_ (hsep r hrm) ?_ (fun q' cq' m6 hr6 hk6 hq6 => ?_)
        · rw [Nat.mul_one] at hcur
          rw [← Array.getElem?_toList, ← List.getElem?_take_of_lt hkl, hcur]; exact hpk
        · show Value.pointer ((some (⟨g9, 0, none⟩ : Addr)).map fun a => a.add ((0 : Int) + labAt l i * ((1 : Nat) : Int)).toNat) = _
          rw [hk, show ((0 : Int) + (k : Int) * ((1 : Nat) : Int)).toNat = k by omega]
          simp [addr_add]
        · have hout6 := hT.out.keepA (hT.inn r hrm) (by decide) hk6
          have hpl6 : Row m6 3 1 (some ⟨g9, 0, none⟩) l.length l.length (intsL (placeE l i)) := hpl.keep fun b hb hb' => hk6 b (fun ⟨o, ho⟩ => by
            cases hb
            rcases (hT.inn r hrm).2 with ⟨h, _⟩ | ⟨g2, cur2, h, _⟩
            · rw [h] at ho; cases ho
            · rw [h] at ho; cases ho
              exact absurd h (hsep r hrm)) hb'
          refine .env (by (try simp only [liE, letsOf, letU, snd, List.append_nil]); rfl) (.storeR (heads l k).length hx hout6 rfl rfl rfl fun m7 g hg hr7 hs7 => .againL rfl fun gd => ⟨l.length - (i + 1), by omega, q, cq, rs.set (heads l k).length ⟨q', cq', r.v ++ [(i : Int)]⟩, i + 1, by omega, ?_, rfl, ?_, ?_, ?_, ?_⟩)
          · (simp only [evE, liE, letsOf, letU, snd, Sh.uss, Sh.us, atAddr, map_add0, List.append_nil]); rw [add_i64 i (by omega), List.length_set]
          · rw [List.map_set, hrs, grp_old hk hki hkk]
            show (grpE l i).set _ (r.v ++ _) = _
            rw [hrv]
          · have h70 : m7 b0 = none := (gd.blk b0 (by simp)).1
            refine (Tab.setApp (m := m4) (m' := m6) hT hx (r := ⟨q', cq', r.v ++ [(i : Int)]⟩) ?_ (fun b hb hb' => hk6 b (fun ⟨o, ho⟩ => ?_) hb') ?_ hg ?_ hs7).keep fun b hb => ?_
            · rw [List.length_append, List.map_append]; exact hr6
            · rcases (hT.inn r hrm).2 with ⟨h, _⟩ | ⟨g2, cur2, h, _⟩
              · rw [h] at ho; cases ho
              · rw [h] at ho; cases ho
                rw [hrx] at hb
                exact absurd h hb
            · rw [hrx]; exact hq6
            · show Row _ _ _ _ _ _ ((rs.map RD.s).set _ (slv q' (r.v ++ [(i : Int)]).length cq'))
              rw [List.length_append]; exact hr7
            · show (m7.upd b0 _) b = _
              rw [Mem.upd_other _ _ (fun e => hb (by rw [e]; exact h70))]
          · intro x hxm
            rcases List.mem_or_eq_of_mem_set hxm with hxm | rfl
            · exact hsep x hxm
            · rcases hq6 with h | ⟨g2, h, h2⟩
              · show q' ≠ _
                rw [h]; exact hsep r hrm
              · intro e
                have e : q' = _ := e
                rw [h] at e; cases e
                rw [hg'] at h2; cases h2
          · have h70 : m7 b0 = none := (gd.blk b0 (by simp)).1
            rw [placeE_same (by omega)]
            refine (hpl6.keep fun b hb hb' => hs7 b fun e => ?_).keep fun b _ hb => ?_
            · exact hpl6.apart hout6 (by decide) b hb (by rw [hg, e])
            · show (m7.upd b0 _) b = _
              rw [Mem.upd_other _ _ (fun e => hb (by rw [e]; exact h70))]
    · have : i = l.length := by omega
      subst this
      exact ⟨q, cq, _, by rw [List.length_map]; rfl, by rw [← hrs, List.map_map]; rfl, tabI_of hT⟩
end Go.Proofs.YthabfpagilbplaaDoor
