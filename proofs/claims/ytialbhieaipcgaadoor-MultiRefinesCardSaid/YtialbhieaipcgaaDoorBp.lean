/- Chapter 18: the reference's insertion of a word. -/
import Derived.Test.YtialbhieaipcgaaDoorBo
set_option linter.unusedSimpArgs false
set_option linter.unusedVariables false
/- Chapter 18: the reference's insertion of a word. -/
namespace Go.Sy
open Go Go.RowKit
def rowA (c : Nat → Nat → Nat → Int) (m n i : Nat) : List Int := (List.range (n + 1)).map (AI c m n i)
theorem rowA_at (c : Nat → Nat → Nat → Int) (m n i : Nat) {j : Nat} (h : j ≤ n) : (rowA c m n i)[j]? = some (AI c m n i j) := by
  unfold rowA; rw [List.getElem?_map, List.getElem?_range (by omega)]; rfl
theorem way_first {c : Nat → Nat → Nat → Int} {m n i j w : Nat} (hw : w = 1 ∨ w = 2 ∨ w = 3) (h : candI c m n i j w = some (AI c m n i j)) (hb : ∀ w', 1 ≤ w' → w' < w → candI c m n i j w' ≠ some (AI c m n i j)) : wayI c m n i j = w := by
  unfold wayI
  rcases hw with rfl | rfl | rfl
  · rw [if_pos h]
  · rw [if_neg (hb 1 (by omega) (by omega)), if_pos h]
  · rw [if_neg (hb 1 (by omega) (by omega)), if_neg (hb 2 (by omega) (by omega))]
theorem afterS_nat (i j : Nat) (w : Nat) : (afterS i j (w : Int)).1 ≤ i + 1 ∧ (afterS i j (w : Int)).2 ≤ j + 1 ∧ i ≤ (afterS i j (w : Int)).1 ∧ j ≤ (afterS i j (w : Int)).2 ∧ i + j < (afterS i j (w : Int)).1 + (afterS i j (w : Int)).2 := by
  have := @after_grows i j w
  omega
end Go.Sy
namespace Go.Proofs.YtialbhieaipcgaaDoor
open Go Go.Sy Go.RowKit
theorem i64_info : (Tryd.prog.info? 2).map (fun i => (i.zero, i.size, i.bytes)) = some (some (.int .i64 0), 1, 8) := by kernel_rfl
theorem i64s_info : (Tryd.prog.info? 24).map (fun i => (i.zero, i.size, i.bytes)) = some (some (.slice none 0 0), 1, 24) := by kernel_rfl
set_option maxHeartbeats 1000000 in
theorem c_refInsert (p pcol pc : Option Addr) (cp ccol cc : Nat) (l : List WD) (rs : List IR) (ws : List Int) (gap : Int) (n place wn M : Nat) (hl : l.length = n + 1) (hl8 : l.length ≤ 8) (hok : ∀ x ∈ l, Wok x.w) (hc : checkC ws gap = 0) (hM : M = rs.length) (hpl : place ≤ n) (hwn : (l[place]'(by omega)).w.length = wn) (hB : M + wn ≤ 2 ^ 19) (hrl : ∀ r ∈ rs, r.ok ∧ r.l.length = n)
    (hent : ∀ w i j, openI M wn i j w → EntOk (l.map (·.w)) (lookS (rs.map (·.l)) n place i j w)) :
    FnM Tryd.prog n_ref18_insert [slv p l.length cp, slv pcol M ccol, .int .i64 (place : Int), costs pc ws.length cc gap] (fun R => WordsAt R p l ∧ RowsAt R pcol rs ∧ CostsAt R pc ws)
      fun v mq _ => ∃ q cq rs', v = slv q rs'.length cq ∧ rs'.map (·.l) = insE (columnE ws gap (l.map (·.w))) (rs.map (·.l)) n place wn ∧ TabI mq q cq rs' := by
  have hols : ∀ x ∈ rs.map (·.l), x.length = n := fun x hx => by obtain ⟨r, hr, rfl⟩ := List.mem_map.1 hx; exact (hrl r hr).2
  have hlm : (rs.map (·.l)).length = M := by rw [List.length_map, hM]
  have hnn : ∀ w i j, 0 ≤ cI (columnE ws gap (l.map (·.w))) (rs.map (·.l)) n place w i j := cI_nonneg hc _ (by omega) hols place
  have hcb : ∀ w i j : Nat, columnE ws gap (l.map (·.w)) (lookS (rs.map (·.l)) n place i j w) ≤ 2199023255552 := fun w i j => (columnE_bound hc _ _ (by have := lookS_le hols place i (j : Int) w; omega)).2
  have hBB : ∀ w i j, openI M wn i j w → cI (columnE ws gap (l.map (·.w))) (rs.map (·.l)) n place w i j ≤ 2199023255552 := fun w i j _ => hcb w i j
  have hins : insE (columnE ws gap (l.map (·.w))) (rs.map (·.l)) n place wn = outI (cI (columnE ws gap (l.map (·.w))) (rs.map (·.l)) n place) M wn (fun w i j => lookS (rs.map (·.l)) n place i j w) (M + wn) 0 0 := by unfold insE; rw [hlm]
  rw [hins]
  generalize hcc : cI (columnE ws gap (l.map (·.w))) (rs.map (·.l)) n place = cc0 at hnn hBB ⊢
  have hcc' : ∀ w i j : Nat, columnE ws gap (l.map (·.w)) (lookS (rs.map (·.l)) n place i j w) = cc0 w i j := fun w i j => by rw [← hcc]; rfl
  have eM := add_i64 M (by omega)
  have ew := add_i64 wn (by omega)
  have hpl' : place < l.length := by omega
  refine FnM.of S_ref18_insert mx [.p p, .i l.length, .i cp, .p pcol, .i M, .i ccol, .i place, .p pc, .i ws.length, .i cc, .i gap] rfl rfl fun c hp => .alloc fun b0 => .chk (by ((try simp only [evE, liE, letsOf, letU, snd]); (try simp only [cmE])); omega) (.loadWD l place hpl' (fun g => hp.1.1.mono g.R) ?_)
  rw [hwn]
  refine .env (by (try simp only [liE, letsOf, letU, snd, List.append_nil]); rfl) (.chk (by ((try simp only [evE, liE, letsOf, letU, snd]); (try simp only [cmE])); omega) ?_)
  refine .make (M + 1) Tryd.underlying117 i64s_info rfl (by omega) (by simp [maxLen]; omega) (fun g9 hg9 hrow => ?_) (by show Value.int _ (ar .add .i64 (M : Int) 1) = _; rw [eM]) (by show Value.int _ (ar .add .i64 (M : Int) 1) = _; rw [eM])
  revert hrow
  generalize Mem.upd _ g9 _ = m1
  intro hrow
  have hT : Tab m1 24 2 .i64 (some ⟨g9, 0, none⟩) (M + 1) (List.replicate (M + 1) ⟨none, 0, []⟩) := ⟨by rw [List.length_replicate, List.map_replicate]; exact hrow, fun r hr => by rw [(List.mem_replicate.1 hr).2]; exact Row.nil _ _ _, (fun i j hi hj g _ h => by rw [List.getElem_replicate] at h; cases h), by decide⟩
  refine .env (by (try simp only [liE, letsOf, letU, snd, List.append_nil]); rfl) (.loop (fun k us m => ∃ rs' : List RD, us = [.i ((k : Int) - 1)] ∧ k ≤ M + 1 ∧ rs'.length = M + 1 ∧ Tab m 24 2 .i64 (some ⟨g9, 0, none⟩) (M + 1) rs' ∧ ∀ x, k ≤ x → x ≤ M → (rs'[x]?.map (·.v)) = some (rowA cc0 M wn x)) (M + 1)
    ⟨_, ?_, Nat.le_refl _, by simp, hT, fun k h1 h2 => by omega⟩ ?_)
  · (simp only [evE, liE, letsOf, letU, snd, Sh.uss, Sh.us, atAddr, map_add0, List.append_nil]); rw [show ((M + 1 : Nat) : Int) - 1 = M by omega]
  clear hT hrow
  rintro k _ m _ ⟨rs', rfl, hk, hrl', hT, hhi⟩
  refine .ite (fun h1 => ?_) (fun h1 => ?_) <;> ((try simp only [evE, liE, letsOf, letU, snd] at h1); (try simp only [cmE] at h1))
  · obtain ⟨i, rfl⟩ : ∃ i, k = i + 1 := ⟨k - 1, by omega⟩
    refine .env (by (try simp only [liE, letsOf, letU, snd, List.append_nil]); rw [show ((i + 1 : Nat) : Int) - 1 = (i : Int) by omega]) (.make (wn + 1) Tryd.underlying24 i64_info rfl (by omega) (by simp [maxLen]; omega) (fun g8 hg8 hrow8 => ?_) (by show Value.int _ (ar .add .i64 (wn : Int) 1) = _; rw [ew]) (by show Value.int _ (ar .add .i64 (wn : Int) 1) = _; rw [ew]))
    have hnew : ∀ (k : Nat) (hk : k < rs'.length) (b' : Nat), rs'[k].p = some ⟨b', 0, none⟩ → (some ⟨g8, 0, none⟩ : Option Addr) ≠ some ⟨b', 0, none⟩ := fun k hk b' h1 h2 => by
      cases h2
      rcases (hT.inn _ (List.getElem_mem hk)).2 with ⟨e, _⟩ | ⟨g', cur, e, e2, _⟩
      · rw [e] at h1; cases h1
      · rw [e] at h1; cases h1; rw [hg8] at e2; cases e2
    have hT1 : ∀ o, Tab (m.upd g8 o) 24 2 .i64 (some ⟨g9, 0, none⟩) (M + 1) rs' := fun o => hT.keep fun b hb => Mem.upd_other _ _ fun e => hb (e ▸ hg8)
    replace hT1 := hT1 (.cells (madeCells #[.int .i64 0] (wn + 1)) 2 (0, 0))
    revert hrow8 hT1
    generalize Mem.upd m g8 _ = m2
    intro hrow8 hT1
    refine .env (by (try simp only [liE, letsOf, letU, snd, List.append_nil]); rfl) (.storeR i (by omega : i < rs'.length) hT1.out rfl rfl (by show ((M + 1 : Nat) : Int) = _; rw [hrl']) (fun m3 g2 hg2 ho2 hs2 => ?_))
    obtain rfl : g9 = g2 := by cases hg2; rfl
    have hT2 := hT1.setRow (r := ⟨some ⟨g8, 0, none⟩, wn + 1, List.replicate (wn + 1) 0⟩) (by omega : i < rs'.length) rfl (by rw [show RD.s ⟨some ⟨g8, 0, none⟩, wn + 1, List.replicate (wn + 1) 0⟩ = slv (some ⟨g8, 0, none⟩) (wn + 1) (wn + 1) by simp [RD.s]]; exact ho2) hs2 (by rw [List.length_replicate, List.map_replicate]; exact hrow8) hnew
    clear hT hT1 ho2 hrow8 hs2 hnew
    refine .env (by (try simp only [liE, letsOf, letU, snd, List.append_nil]); rfl) (.loop (fun k' us m' => ∃ vs : List Int, us = [.i ((k' : Int) - 1)] ∧ k' ≤ wn + 1 ∧ vs.length = wn + 1 ∧ Tab m' 24 2 .i64 (some ⟨g9, 0, none⟩) (M + 1) (rs'.set i ⟨some ⟨g8, 0, none⟩, wn + 1, vs⟩) ∧ ∀ y, k' ≤ y → y ≤ wn → vs[y]? = some (AI cc0 M wn i y)) (wn + 1)
      ⟨List.replicate (wn + 1) 0, ?_, Nat.le_refl _, by simp, hT2, fun j h1 h2 => by omega⟩ ?_)
    · (simp only [evE, liE, letsOf, letU, snd, Sh.uss, Sh.us, atAddr, map_add0, List.append_nil]); rw [show ((wn + 1 : Nat) : Int) - 1 = wn by omega]
    clear hT2
    rintro k' _ m4 _ ⟨vs, rfl, hk', hvl, hT4, hvs⟩
    refine .ite (fun h2 => ?_) (fun h2 => .again rfl ⟨i, by omega, rs'.set i ⟨some ⟨g8, 0, none⟩, wn + 1, vs⟩, ?_, by omega, by rw [List.length_set]; exact hrl', hT4, fun x hx1 hx2 => ?_⟩) <;> ((try simp only [evE, liE, letsOf, letU, snd] at h2); (try simp only [cmE] at h2))
    · obtain ⟨j, rfl⟩ : ∃ j, k' = j + 1 := ⟨k' - 1, by omega⟩
      have hil : i ≤ M := by omega
      have hjl : j ≤ wn := by omega
      have hrow : (rs'.set i ⟨some ⟨g8, 0, none⟩, wn + 1, vs⟩)[i]? = some ⟨some ⟨g8, 0, none⟩, wn + 1, vs⟩ := List.getElem?_set_self (by omega)
      have hlen5 : (rs'.set i ⟨some ⟨g8, 0, none⟩, wn + 1, vs⟩).length = M + 1 := by rw [List.length_set]; exact hrl'
      have hnext : ∀ i' j', (i' = i ∧ j < j' ∨ i' = i + 1) → i' ≤ M → j' ≤ wn → ∃ r, (rs'.set i ⟨some ⟨g8, 0, none⟩, wn + 1, vs⟩)[i']? = some r ∧ r.v[j']? = some (AI cc0 M wn i' j') := fun i' j' h hi' hj' => by
        rcases h with ⟨rfl, h⟩ | rfl
        · exact ⟨_, hrow, hvs j' h hj'⟩
        · have := hhi (i + 1) (by omega) hi'
          rw [List.getElem?_set_ne (by omega)]
          cases hr : rs'[i + 1]? with
          | none => rw [hr] at this; cases this
          | some r =>
            rw [hr] at this
            simp only [Option.map_some, Option.some.injEq] at this
            exact ⟨r, rfl, by rw [this]; exact rowA_at _ _ _ _ hj'⟩
      refine .env (by (try simp only [liE, letsOf, letU, snd, List.append_nil]); rw [show ((j + 1 : Nat) : Int) - 1 = (j : Int) by omega]) ?_
      refine .loop (fun k3 us m' => ∃ b : Nat, b ≤ 3 ∧ us = [.i (pickT cc0 M wn i j b).1, .i (b + 1 : Nat)] ∧ k3 = 3 - b ∧ Tab m' 24 2 .i64 (some ⟨g9, 0, none⟩) (M + 1) (rs'.set i ⟨some ⟨g8, 0, none⟩, wn + 1, vs⟩)) 3 ⟨0, by omega, by (simp only [evE, liE, letsOf, letU, snd, Sh.uss, Sh.us, atAddr, map_add0, List.append_nil]); rfl, rfl, hT4⟩ ?_
      clear hT4
      rintro k3 _ m5 _ ⟨by0, hb3, rfl, rfl, hT5⟩
      refine .env (by (try simp only [liE, letsOf, letU, snd, List.append_nil]); rfl) (.ite (fun h3 => ?_) (fun h3 => ?_)) <;> ((try simp only [evE, liE, letsOf, letU, snd] at h3); (try simp only [cmE] at h3))
      · have hw3 : by0 + 1 = 1 ∨ by0 + 1 = 2 ∨ by0 + 1 = 3 := by omega
        have ag := afterS_nat i j (by0 + 1)
        refine .join (fun us m' => us = [.i (pickT cc0 M wn i j (by0 + 1)).1] ∧ Tab m' 24 2 .i64 (some ⟨g9, 0, none⟩) (M + 1) (rs'.set i ⟨some ⟨g8, 0, none⟩, wn + 1, vs⟩)) (.callV (c_after i j ((by0 + 1 : Nat) : Int) (by omega) (by omega)) (fun _ => trivial) (.env (by (try simp only [liE, letsOf, letU, snd, List.append_nil]); rfl) (.ite (fun h4 => .again rfl ⟨?_, hT5⟩) (fun h4 => ?_)))) ?_
        · ((try simp only [evE, liE, letsOf, letU, snd] at h4); (try simp only [cmE] at h4))
          have hcn : candI cc0 M wn i j (by0 + 1) = none := by unfold candI; rw [if_neg (by omega)]
          show [U.i (pickT cc0 M wn i j by0).1] = [U.i (stepP (pickT cc0 M wn i j by0) (by0 + 1) (candI cc0 M wn i j (by0 + 1))).1]
          rw [hcn]; rfl
        · ((try simp only [evE, liE, letsOf, letU, snd] at h4); (try simp only [cmE] at h4))
          have hop : openI M wn i j (by0 + 1) := ⟨hw3, by omega⟩
          have hcn : candI cc0 M wn i j (by0 + 1) = some (cc0 (by0 + 1) i j + AI cc0 M wn (afterS i j ((by0 + 1 : Nat) : Int)).1 (afterS i j ((by0 + 1 : Nat) : Int)).2) := by unfold candI; exact if_pos hop.2
          obtain ⟨r, hr, hrv⟩ := hnext (afterS i j ((by0 + 1 : Nat) : Int)).1 (afterS i j ((by0 + 1 : Nat) : Int)).2 (by omega) hop.2.1 hop.2.2
          have hlook : (lookS (rs.map (·.l)) n place i j ((by0 + 1 : Nat) : Int)).length = n + 1 := lookS_len' hpl hols fun h => by rw [List.length_map, ← hM]; exact (open_lt hop).1 h
          have hA1 := AI_nonneg hnn M wn (afterS i j ((by0 + 1 : Nat) : Int)).1 (afterS i j ((by0 + 1 : Nat) : Int)).2
          have hA2 := AI_le hBB (afterS i j ((by0 + 1 : Nat) : Int)).1 (afterS i j ((by0 + 1 : Nat) : Int)).2
          have hc1 := hcb (by0 + 1) i j
          have hc0 := hnn (by0 + 1) i j
          rw [hcc'] at hc1
          refine .chk (by ((try simp only [evE, liE, letsOf, letU, snd]); (try simp only [cmE])); omega) (.loadT hT5 _ _ r _ hr hrv ?_ rfl rfl (by rw [hlen5]; rfl) rfl rfl rfl)
          refine .env (by (try simp only [liE, letsOf, letU, snd, List.append_nil]); rfl) (.callE (c_look pcol ccol rs n place i (j : Int) ((by0 + 1 : Nat) : Int) (by omega) hpl (by omega) hrl (fun h => by rw [← hM]; exact (open_lt hop).1 (by omega))) (fun g => hp.2.1.mono g.R) ?_ (by show [slv pcol M ccol, .int .i64 (place : Int), .int .i64 (l.length : Int), .int .i64 (i : Int), .int .i64 (j : Int), .int .i64 ((by0 + 1 : Nat) : Int)] = _; rw [hl, hM]))
          rintro v mq m6 hle6 hqe ⟨q6, c6, rfl, hR6⟩
          have hT6 := hT5.keep fun b hb => hle6.keep hb
          replace hR6 := Row.le hR6 hqe
          have kcol := c_refColumn p q6 pc cp c6 cc l (lookS (rs.map (·.l)) n place i j ((by0 + 1 : Nat) : Int)) ws gap hl8 hok hc (by rw [hlook, hl]) (hent _ _ _ hop)
          rw [hlook, hcc'] at kcol
          refine ⟨[.p q6, .i (n + 1 : Nat), .i (c6 : Nat)], uOk_of rfl, (slv_fresh _ _ _ _ _).symm, .env (by (try simp only [liE, letsOf, letU, snd, List.append_nil]); rfl) (.callV kcol (fun g => ⟨hp.1.mono g.R, hR6.reads g, hp.2.2.mono g.R⟩) (.env (by (try simp only [liE, letsOf, letU, snd, List.append_nil]); rfl) (.join (fun us mm => m6 = mm ∧ us = [U.i (pickT cc0 M wn i j (by0 + 1)).1]) (.ite (fun h5 => .again rfl ⟨rfl, ?_⟩) (fun h5 => .again rfl ⟨rfl, ?_⟩)) ?_)))⟩
          · ((try simp only [evE, liE, letsOf, letU, snd] at h5); (try simp only [cmE] at h5))
            rw [addI (by omega) (by omega)] at h5
            show [U.i (ar .add .i64 (cc0 (by0 + 1) i j) (AI cc0 M wn (afterS i j ((by0 + 1 : Nat) : Int)).1 (afterS i j ((by0 + 1 : Nat) : Int)).2))] = [U.i (stepP (pickT cc0 M wn i j by0) (by0 + 1) (candI cc0 M wn i j (by0 + 1))).1]
            rw [addI (by omega) (by omega), hcn]; unfold stepP; dsimp only; rw [if_pos h5]
          · ((try simp only [evE, liE, letsOf, letU, snd] at h5); (try simp only [cmE] at h5))
            rw [addI (by omega) (by omega)] at h5
            show [U.i (pickT cc0 M wn i j by0).1] = [U.i (stepP (pickT cc0 M wn i j by0) (by0 + 1) (candI cc0 M wn i j (by0 + 1))).1]
            rw [hcn]; unfold stepP; dsimp only; rw [if_neg (by omega)]
          rintro _ _ _ ⟨rfl, rfl⟩
          exact .env (by (try simp only [liE, letsOf, letU, snd, List.append_nil]); rfl) (.again rfl ⟨rfl, hT6⟩)
        · rintro _ m7 _ ⟨rfl, hT7⟩
          refine .env (by (try simp only [liE, letsOf, letU, snd, List.append_nil]); rfl) (.again rfl ⟨3 - (by0 + 1), by omega, by0 + 1, by omega, ?_, rfl, hT7⟩)
          (simp only [evE, liE, letsOf, letU, snd, Sh.uss, Sh.us, atAddr, map_add0, List.append_nil]); rw [add_i64 (by0 + 1) (by omega)]
      · obtain rfl : by0 = 3 := by omega
        have hmax : (if (0 : Int) > (pickT cc0 M wn i j 3).1 then 0 else (pickT cc0 M wn i j 3).1) = AI cc0 M wn i j := by
          have hf := pick_fst hnn hil hjl
          rw [pickT_three]
          by_cases hne : i = M ∧ j = wn
          · rw [if_pos hne] at hf
            rw [hf, hne.1, hne.2, AI_end]; rfl
          · rw [if_neg hne] at hf
            have := AI_nonneg hnn M wn i j
            rw [hf, if_neg (by omega)]
        refine .loadSl ((rs'.set i ⟨some ⟨g8, 0, none⟩, wn + 1, vs⟩).map RD.s) i (M + 1) (some ⟨g8, 0, none⟩) (wn + 1) (wn + 1) (by omega) (by rw [List.getElem?_map, hrow]; show some (slv (some ⟨g8, 0, none⟩) vs.length (wn + 1)) = _; rw [hvl]) (fun g => hT5.out.reads g) (.env (by (try simp only [liE, letsOf, letU, snd, List.append_nil]); rfl) ?_)
        have hin := hT5.inn _ (List.mem_of_getElem? hrow)
        simp only [] at hin
        rw [hvl] at hin
        refine .storeR j (by omega) hin rfl rfl rfl (fun m8 g3 hg3 hr3 hs3 => .again rfl ⟨j, by omega, vs.set j (AI cc0 M wn i j), by (simp only [evE, liE, letsOf, letU, snd, Sh.uss, Sh.us, atAddr, map_add0, List.append_nil]); rw [subI (by omega) (by omega)], by omega, by rw [List.length_set]; exact hvl, ?_, fun y h1 h2 => ?_⟩)
        · replace hr3 : Row m8 2 1 (some ⟨g8, 0, none⟩) (wn + 1) (wn + 1) ((vs.map (.int .i64)).set j (.int .i64 (if (0 : Int) > (pickT cc0 M wn i j 3).1 then 0 else (pickT cc0 M wn i j 3).1))) := hr3
          rw [hmax] at hr3
          have := hT5.setIn (i := i) (by omega) (j := j) (v := AI cc0 M wn i j) (g := g3) (by rw [List.getElem_set_self]; exact hg3) (m' := m8) (by rw [List.getElem_set_self]; simp only []; rw [hvl]; exact hr3) hs3
          rw [List.set_set] at this
          simpa using this
        · rcases Nat.lt_or_ge j y with h | h
          · rw [List.getElem?_set_ne (by omega)]; exact hvs y (by omega) h2
          · obtain rfl : y = j := by omega
            rw [List.getElem?_set_self (by omega)]
    · (simp only [evE, liE, letsOf, letU, snd, Sh.uss, Sh.us, atAddr, map_add0, List.append_nil]); rw [subI (by omega) (by omega)]
    · by_cases e : x = i
      · subst e
        rw [List.getElem?_set_self (by omega), Option.map_some]
        congr 1
        refine List.ext_getElem? fun j => ?_
        rcases Nat.lt_or_ge j (wn + 1) with h | h
        · rw [hvs j (by omega) (by omega), rowA_at _ _ _ _ (by omega)]
        · rw [List.getElem?_eq_none (by show vs.length ≤ j; omega), List.getElem?_eq_none (by unfold rowA; simp; omega)]
      · rw [List.getElem?_set_ne (by omega)]; exact hhi x (by omega) hx2
  · have hrowF : ∀ x y, x ≤ M → y ≤ wn → ∃ r, rs'[x]? = some r ∧ r.v[y]? = some (AI cc0 M wn x y) := fun x y hx hy => by
      have := hhi x (by omega) hx
      cases hr : rs'[x]? with
      | none => rw [hr] at this; cases this
      | some r =>
        rw [hr] at this
        simp only [Option.map_some, Option.some.injEq] at this
        exact ⟨r, rfl, by rw [this]; exact rowA_at _ _ _ _ hy⟩
    have hal : ∀ m' (q : Option Addr) (cq : Nat) (rs2 : List IR) (i j : Nat), (∃ s, (M - i) + (wn - j) ≤ s ∧ outI cc0 M wn (fun w i j => lookS (rs.map (·.l)) n place i j w) (M + wn) 0 0 = rs2.map (·.l) ++ outI cc0 M wn (fun w i j => lookS (rs.map (·.l)) n place i j w) s i j) ∧ Tab m' 24 2 .i64 (some ⟨g9, 0, none⟩) (M + 1) rs' ∧ TabR m' q cq rs2 ↔ (∃ s, (M - i) + (wn - j) ≤ s ∧ outI cc0 M wn (fun w i j => lookS (rs.map (·.l)) n place i j w) (M + wn) 0 0 = rs2.map (·.l) ++ outI cc0 M wn (fun w i j => lookS (rs.map (·.l)) n place i j w) s i j) ∧ Tab m' 24 2 .i64 (some ⟨g9, 0, none⟩) (M + 1) rs' ∧ TabR m' q cq rs2 := fun _ _ _ _ _ _ => Iff.rfl
    refine .env (by (try simp only [liE, letsOf, letU, snd, List.append_nil]); rfl) (.loop (fun z us m' => ∃ (q : Option Addr) (cq : Nat) (rs2 : List IR) (i j s : Nat), us = [.p q, .i rs2.length, .i cq, .i i, .i j] ∧ i ≤ M ∧ j ≤ wn ∧ z = M + wn - (i + j) ∧ rs2.length ≤ i + j ∧ (M - i) + (wn - j) ≤ s ∧ outI cc0 M wn (fun w i j => lookS (rs.map (·.l)) n place i j w) (M + wn) 0 0 = rs2.map (·.l) ++ outI cc0 M wn (fun w i j => lookS (rs.map (·.l)) n place i j w) s i j ∧ Tab m' 24 2 .i64 (some ⟨g9, 0, none⟩) (M + 1) rs' ∧ TabR m' q cq rs2) (M + wn)
      ⟨none, 0, [], 0, 0, M + wn, by (simp only [evE, liE, letsOf, letU, snd, Sh.uss, Sh.us, atAddr, map_add0, List.append_nil]); rfl, Nat.zero_le _, Nat.zero_le _, rfl, Nat.zero_le _, by omega, rfl, hT, .nil _⟩ ?_)
    clear hT hal
    rintro z _ m5 _ ⟨q, cq, rs2, i, j, s, rfl, hi, hj, rfl, hr2, hs, hout, hT, hTR⟩
    refine .env (by (try simp only [liE, letsOf, letU, snd, List.append_nil]); rfl) (.ite (fun h2 => ?_) (fun h2 => .ret rfl ⟨q, cq, rs2, rfl, ?_, hTR.tab⟩)) <;> ((try simp only [evE, liE, letsOf, letU, snd] at h2); (try simp only [cmE] at h2))
    · have hne : ¬ (i = M ∧ j = wn) := by omega
      obtain ⟨s, rfl⟩ : ∃ s', s = s' + 1 := ⟨s - 1, by omega⟩
      rw [outI_go _ _ _ _ hne] at hout
      refine .join (fun us m' => ∃ (q : Option Addr) (cq : Nat) (rs2 : List IR) (i' j' : Nat) (e : Int), us = [.p q, .i rs2.length, .i cq, .i i', .i j', .i e] ∧ i' ≤ M ∧ j' ≤ wn ∧ i + j < i' + j' ∧ rs2.length ≤ i' + j' ∧ (M - i') + (wn - j') ≤ s ∧ outI cc0 M wn (fun w i j => lookS (rs.map (·.l)) n place i j w) (M + wn) 0 0 = rs2.map (·.l) ++ outI cc0 M wn (fun w i j => lookS (rs.map (·.l)) n place i j w) s i' j' ∧ Tab m' 24 2 .i64 (some ⟨g9, 0, none⟩) (M + 1) rs' ∧ TabR m' q cq rs2)
        (.loop (fun k3 us m' => ∃ b : Nat, b ≤ 3 ∧ us = [.p q, .i rs2.length, .i cq, .i i, .i j, .i (b + 1 : Nat)] ∧ k3 = 3 - b ∧ (∀ w', 1 ≤ w' → w' < b + 1 → candI cc0 M wn i j w' ≠ some (AI cc0 M wn i j)) ∧ Tab m' 24 2 .i64 (some ⟨g9, 0, none⟩) (M + 1) rs' ∧ TabR m' q cq rs2) 3 ⟨0, by omega, by (simp only [evE, liE, letsOf, letU, snd, Sh.uss, Sh.us, atAddr, map_add0, List.append_nil]); rfl, rfl, fun w' h1 h2 => by omega, hT, hTR⟩ ?_) ?_
      · clear hT hTR
        rintro k3 _ m6 _ ⟨by0, hb3, rfl, rfl, hno, hT, hTR⟩
        refine .env (by (try simp only [liE, letsOf, letU, snd, List.append_nil]); rfl) (.ite (fun h3 => ?_) (fun h3 => ?_)) <;> ((try simp only [evE, liE, letsOf, letU, snd] at h3); (try simp only [cmE] at h3))
        · have hw3 : by0 + 1 = 1 ∨ by0 + 1 = 2 ∨ by0 + 1 = 3 := by omega
          have ag := afterS_nat i j (by0 + 1)
          refine .join (fun us m' => us = [.p q, .i rs2.length, .i cq, .i i, .i j] ∧ candI cc0 M wn i j (by0 + 1) ≠ some (AI cc0 M wn i j) ∧ Tab m' 24 2 .i64 (some ⟨g9, 0, none⟩) (M + 1) rs' ∧ TabR m' q cq rs2) (.callV (c_after i j ((by0 + 1 : Nat) : Int) (by omega) (by omega)) (fun _ => trivial) (.env (by (try simp only [liE, letsOf, letU, snd, List.append_nil]); rfl) (.ite (fun h4 => .again rfl ⟨by (simp only [evE, liE, letsOf, letU, snd, Sh.uss, Sh.us, atAddr, map_add0, List.append_nil]), ?_, hT, hTR⟩) (fun h4 => ?_)))) ?_
          · ((try simp only [evE, liE, letsOf, letU, snd] at h4); (try simp only [cmE] at h4))
            have hcn : candI cc0 M wn i j (by0 + 1) = none := by unfold candI; rw [if_neg (by omega)]
            rw [hcn]; intro h; cases h
          · ((try simp only [evE, liE, letsOf, letU, snd] at h4); (try simp only [cmE] at h4))
            have hop : openI M wn i j (by0 + 1) := ⟨hw3, by omega⟩
            have hcn : candI cc0 M wn i j (by0 + 1) = some (cc0 (by0 + 1) i j + AI cc0 M wn (afterS i j ((by0 + 1 : Nat) : Int)).1 (afterS i j ((by0 + 1 : Nat) : Int)).2) := by unfold candI; exact if_pos hop.2
            have hlook : (lookS (rs.map (·.l)) n place i j ((by0 + 1 : Nat) : Int)).length = n + 1 := lookS_len' hpl hols fun h => by rw [List.length_map, ← hM]; exact (open_lt hop).1 h
            have hA1 := AI_nonneg hnn M wn (afterS i j ((by0 + 1 : Nat) : Int)).1 (afterS i j ((by0 + 1 : Nat) : Int)).2
            have hA2 := AI_le hBB (afterS i j ((by0 + 1 : Nat) : Int)).1 (afterS i j ((by0 + 1 : Nat) : Int)).2
            have hc1 := hcb (by0 + 1) i j
            have hc0 := hnn (by0 + 1) i j
            rw [hcc'] at hc1
            refine .chk (by ((try simp only [evE, liE, letsOf, letU, snd]); (try simp only [cmE])); omega) (.callE (c_look pcol ccol rs n place i (j : Int) ((by0 + 1 : Nat) : Int) (by omega) hpl (by omega) hrl (fun h => by rw [← hM]; exact (open_lt hop).1 (by omega))) (fun g => hp.2.1.mono g.R) ?_ (by show [slv pcol M ccol, .int .i64 (place : Int), .int .i64 (l.length : Int), .int .i64 (i : Int), .int .i64 (j : Int), .int .i64 ((by0 + 1 : Nat) : Int)] = _; rw [hl, hM]))
            rintro v mq m7 hle7 hqe ⟨q6, c6, rfl, hR6⟩
            have hT7 := hT.keep fun b hb => hle7.keep hb
            have hTR7 := hTR.le hle7
            replace hR6 := Row.le hR6 hqe
            obtain ⟨r, hr, hrv⟩ := hrowF _ _ hop.2.1 hop.2.2
            obtain ⟨r2, hr2', hrv2⟩ := hrowF i j hi hj
            have kcol := c_refColumn p q6 pc cp c6 cc l (lookS (rs.map (·.l)) n place i j ((by0 + 1 : Nat) : Int)) ws gap hl8 hok hc (by rw [hlook, hl]) (hent _ _ _ hop)
            rw [hlook, hcc'] at kcol
            refine ⟨[.p q6, .i (n + 1 : Nat), .i (c6 : Nat)], uOk_of rfl, (slv_fresh _ _ _ _ _).symm, .env (by (try simp only [liE, letsOf, letU, snd, List.append_nil]); rfl) (.loadT hT7 _ _ r _ hr hrv ?_ rfl rfl (by rw [hrl']; rfl) rfl rfl rfl)⟩
            refine .env (by (try simp only [liE, letsOf, letU, snd, List.append_nil]); rfl) (.loadT hT7 i j r2 _ hr2' hrv2 ?_ rfl rfl (by rw [hrl']; rfl) rfl rfl rfl)
            refine .env (by (try simp only [liE, letsOf, letU, snd, List.append_nil]); rfl) (.callV kcol (fun g => ⟨hp.1.mono g.R, hR6.reads g, hp.2.2.mono g.R⟩) (.env (by (try simp only [liE, letsOf, letU, snd, List.append_nil]); rfl) (.ite (fun h5 => ?_) (fun h5 => .again rfl ⟨by (simp only [evE, liE, letsOf, letU, snd, Sh.uss, Sh.us, atAddr, map_add0, List.append_nil]), ?_, hT7, hTR7⟩))))
            · ((try simp only [evE, liE, letsOf, letU, snd] at h5); (try simp only [cmE] at h5))
              rw [addI (by omega) (by omega)] at h5
              have hway : wayI cc0 M wn i j = by0 + 1 := way_first hw3 (by rw [hcn, h5]) hno
              rw [hway] at hout
              refine .alloc fun b4 => .append (q := q) (cap := cq) (n := rs2.length) (qx := some ⟨b4, 0, none⟩) (kx := 1) (capx := 1) (news := [slv q6 (n + 1) c6]) elT hTR7.out (fun gd => gd.cells (j := 1) rfl rfl rfl) rfl (by simp [slv, Value.oneCell']) (fun h => by cases h) (by simp [maxLen]; omega) (by omega) (fun q' cap' m' hr' hk' hq' => .again rfl ⟨q', cap', rs2 ++ [⟨q6, c6, lookS (rs.map (·.l)) n place i j ((by0 + 1 : Nat) : Int)⟩], (afterS i j ((by0 + 1 : Nat) : Int)).1, (afterS i j ((by0 + 1 : Nat) : Int)).2, ((by0 + 1 : Nat) : Int), ?_, hop.2.1, hop.2.2, by omega, ?_, by omega, ?_, ?_, ?_⟩)
              · (simp only [evE, liE, letsOf, letU, snd, Sh.uss, Sh.us, atAddr, map_add0, List.append_nil]); rw [List.length_append]; rfl
              · rw [List.length_append]; simp only [List.length_cons, List.length_nil]; omega
              · rw [hout, List.map_append, List.append_assoc]; rfl
              · exact ⟨hT7.out.keepA hTR7.out (by decide) hk', fun r hr => (hT7.inn r hr).keepA hTR7.out (by decide) hk', hT7.apart, hT7.ne⟩
              · refine hTR7.push (r := ⟨q6, c6, lookS (rs.map (·.l)) n place i j ((by0 + 1 : Nat) : Int)⟩) (RowI.of (by rw [hlook]; exact hR6)) ?_ hk'
                show Row m' 49 1 q' cap' (rs2.length + 1) (rs2.map IR.v ++ [slv q6 (lookS (rs.map (·.l)) n place i j ((by0 + 1 : Nat) : Int)).length c6])
                rw [hlook]; exact hr'
            · ((try simp only [evE, liE, letsOf, letU, snd] at h5); (try simp only [cmE] at h5))
              rw [addI (by omega) (by omega)] at h5
              rw [hcn]; intro h; exact h5 (Option.some.inj h)
          · rintro _ m7 _ ⟨rfl, hn7, hT7, hTR7⟩
            refine .env (by (try simp only [liE, letsOf, letU, snd, List.append_nil]); rfl) (.again rfl ⟨3 - (by0 + 1), by omega, by0 + 1, by omega, ?_, rfl, fun w' h1 h2 => ?_, hT7, hTR7⟩)
            · (simp only [evE, liE, letsOf, letU, snd, Sh.uss, Sh.us, atAddr, map_add0, List.append_nil]); rw [add_i64 (by0 + 1) (by omega)]
            · rcases Nat.lt_or_ge w' (by0 + 1) with h | h
              · exact hno w' h1 h
              · obtain rfl : w' = by0 + 1 := by omega
                exact hn7
        · exfalso
          have hw := way_cand hnn hi hj hne
          rcases way_three cc0 M wn i j with e | e | e <;> rw [e] at hw <;> exact hno _ (by omega) (by omega) hw
      · rintro _ m7 _ ⟨q', cq', rs2', i', j', e, rfl, h3, h4, h5, h6, h7, h8, h9, h10⟩
        refine .env (by (try simp only [liE, letsOf, letU, snd, List.append_nil]); rfl) (.again rfl ⟨M + wn - (i' + j'), by omega, q', cq', rs2', i', j', s, by (simp only [evE, liE, letsOf, letU, snd, Sh.uss, Sh.us, atAddr, map_add0, List.append_nil]), h3, h4, rfl, h6, h7, h8, h9, h10⟩)
    · obtain rfl : i = M := by omega
      obtain rfl : j = wn := by omega
      rw [hout, outI_end, List.append_nil]
end Go.Proofs.YtialbhieaipcgaaDoor
/- Chapter 18: Progressive. -/
namespace Go.Sy
open Go Go.RowKit
def progA (ws : List Int) (gap : Int) (W : List (List Snd)) : List (List Int) × Int := if checkC ws gap ≠ 0 then ([], checkC ws gap) else if wordsE 8 W ≠ 0 then ([], wordsE 8 W) else (progE ws gap W W.length, 0)
theorem wordsE_zero {most : Int} {W : List (List Snd)} (h : wordsE most W = 0) : (W.length : Int) ≤ most ∧ checkL W = 0 := by
  unfold wordsE at h
  split at h
  · cases h
  · exact ⟨by omega, h⟩
theorem words_len {W : List (List Snd)} (h : checkL W = 0) : ∀ x ∈ W, x.length ≤ 32 := fun x hx => (checkW_zero (checkL_zero h x hx)).1
theorem sumL_le {W : List (List Snd)} (h : ∀ x ∈ W, x.length ≤ 32) : ∀ k, k ≤ W.length → sumL W k ≤ 32 * k
  | 0, _ => Nat.le_refl _
  | k + 1, hk => by
    have ih := sumL_le h k (by omega)
    have := h _ (List.getElem_mem (show k < W.length by omega))
    show sumL W k + (W.getD k []).length ≤ _
    rw [getD_at _ _ _ (by omega)]; omega
theorem progE_step (ws : List Int) (gap : Int) (W : List (List Snd)) (k : Nat) : progE ws gap W (k + 1) = insE (columnE ws gap W) (progE ws gap W k) k k (W.getD k []).length := rfl
theorem progE_open {ws : List Int} {gap : Int} (hc : checkC ws gap = 0) (W : List (List Snd)) {k : Nat} (hk : k < 8) {w i j : Nat} (h : openI (progE ws gap W k).length (W.getD k []).length i j w) : (lookS (progE ws gap W k) k k i j w).length = k + 1 ∧ EntOk W (lookS (progE ws gap W k) k k i j w) := by
  have ih := progE_ent hc W k (by omega)
  exact ⟨lookS_len' (Nat.le_refl k) (fun x hx => (ih x hx).1) (open_lt h).1, lookS_ent (Nat.le_refl k) (fun x hx => ⟨(ih x hx).1, by have := EntAt.of (ih x hx).2; rw [(ih x hx).1] at this; exact this⟩) (wl_getD W k) h⟩
theorem EntOk.take {W : List (List Snd)} {col : List Int} {n : Nat} (h : EntOk W col) (hl : col.length ≤ n) : EntOk (W.take n) col := fun i hi => by
  have := h i hi
  unfold wl at this ⊢
  rw [List.getElem?_take, if_pos (by omega)]; exact this
end Go.Sy
namespace Go.Proofs.YtialbhieaipcgaaDoor
open Go Go.Sy Go.RowKit
theorem c_prog1 (b2 : Nat) (pc : Option Addr) (cc : Nat) (ws : List Int) (gap : Int) : FnM Tryd.prog n_multi_Progressive_1 [.pointer (some ⟨b2, 0, none⟩)] (fun R => Cells R (some ⟨b2, 0, none⟩) [slv pc ws.length cc, .int .i64 gap] ∧ CostsAt R pc ws) fun v _ _ => v = .int .i64 (checkC ws gap) :=
  FnM.of S_multi_Progressive_1 mx [.p (some ⟨b2, 0, none⟩)] rfl rfl fun c hp => .loadCost [slv pc ws.length cc, .int .i64 gap] 0 pc ws.length cc gap rfl rfl rfl (fun g => hp.1.mono g.R) (.env (by (try simp only [liE, letsOf, letU, snd, List.append_nil]); rfl) (.callV (c_checkCosts pc cc ws gap) (fun g => hp.2.mono g.R) (.ret rfl rfl)))
theorem c_prog2 (b0 : Nat) (p : Option Addr) (cp : Nat) (l : List WD) (hl : l.length < 2 ^ 62) (hok : ∀ x ∈ l, Wok x.w) : FnM Tryd.prog n_multi_Progressive_2 [.pointer (some ⟨b0, 0, none⟩)] (fun R => Cells R (some ⟨b0, 0, none⟩) [slv p l.length cp] ∧ WordsAt R p l) fun v _ _ => v = .int .i64 (wordsE 8 (l.map (·.w))) :=
  FnM.of S_multi_Progressive_2 mx [.p (some ⟨b0, 0, none⟩)] rfl rfl fun c hp => .loadS [slv p l.length cp] 0 p l.length cp rfl rfl (fun g => hp.1.mono g.R) (.env (by (try simp only [liE, letsOf, letU, snd, List.append_nil]); rfl) (.callV (c_words p cp l 8 (by omega) hok) (fun g => hp.2.mono g.R) (.ret rfl rfl)))
theorem words_take {R : Mv} {p : Option Addr} {l : List WD} (h : WordsAt R p l) (k : Nat) : WordsAt R p (l.take k) :=
  ⟨(fun j v hj => by
    rw [List.map_take, List.getElem?_take] at hj
    split at hj
    · exact h.1 j v hj
    · cases hj), fun x hx => h.2 x (List.mem_of_mem_take hx)⟩
/-- An argument's beginning. -/
theorem take_den {p : Option Addr} {cp k n : Nat} (hk : k + 1 ≤ n) (hn : n < 2 ^ 40) : Value.slice (Option.map (fun a => a.add (if (cp : Int) = 0 then (0 : Int) else 0).toNat) p) (ar .add .i64 (k : Int) 1).toNat ((cp : Int)).toNat = slv p (k + 1) cp := by
  rw [add_i64 k (by omega)]; exact head_den
theorem c_Progressive (p pc : Option Addr) (cp cc : Nat) (l : List WD) (ws : List Int) (gap : Int) (hl : l.length < 2 ^ 40) (hlc : l.length ≤ cp) (hok : ∀ x ∈ l, Wok x.w) :
    FnM Tryd.prog n_multi_Progressive [slv p l.length cp, costs pc ws.length cc gap] (fun R => WordsAt R p l ∧ CostsAt R pc ws ∧ TabOk R ∧ StepsOk R) fun v mq _ => ∃ q cq rs', v = .tuple #[slv q rs'.length cq, .int .i64 (progA ws gap (l.map (·.w))).2] ∧ rs'.map (·.l) = (progA ws gap (l.map (·.w))).1 ∧ TabI mq q cq rs' := by
  refine FnM.of S_multi_Progressive mx [.p p, .i l.length, .i cp, .p pc, .i ws.length, .i cc, .i gap] rfl rfl fun c hp => .alloc fun b0 => .alloc fun b1 => .alloc fun b2 => ?_
  have kf := c_first (fun R => Cells R (some ⟨b1, 0, none⟩) [slv pc ws.length cc, .int .i64 gap] ∧ Cells R (some ⟨b0, 0, none⟩) [slv p l.length cp] ∧ WordsAt R p l ∧ CostsAt R pc ws)
    (fun h hle => ⟨h.1.mono hle, h.2.1.mono hle, h.2.2.1.mono hle, h.2.2.2.mono hle⟩)
    [(.func (.func n_multi_Progressive_1) #[] #[.pointer (some ⟨b1, 0, none⟩)], checkC ws gap), (.func (.func n_multi_Progressive_2) #[] #[.pointer (some ⟨b0, 0, none⟩)], wordsE 8 (l.map (·.w)))] (some ⟨b2, 0, none⟩) 2 (show 2 < 2 ^ 62 by decide)
    (by simp [Value.oneCell'])
    (by
      intro f hf
      rcases List.mem_cons.1 hf with rfl | hf
      · exact .weak (.of (args := []) (cap := [.pointer (some ⟨b1, 0, none⟩)]) (by kernel_rfl) (c_prog1 b1 pc cc ws gap)) fun R h => ⟨h.1, h.2.2.2⟩
      · rw [List.mem_singleton] at hf
        subst hf
        exact .weak (.of (args := []) (cap := [.pointer (some ⟨b0, 0, none⟩)]) (by kernel_rfl) (c_prog2 b0 p cp l (by omega) hok)) fun R h => ⟨h.2.1, h.2.2.1⟩)
  refine .callV kf (fun g => ⟨g.cells (j := 2) rfl rfl rfl, g.cells (j := 1) rfl rfl rfl, g.cells (j := 0) rfl rfl rfl, hp.1.mono g.R, hp.2.1.mono g.R⟩) (.env (by (try simp only [liE, letsOf, letU, snd, List.append_nil]); rfl) (.ite (fun h1 => .ret rfl ?_) (fun h1 => ?_)))
  · ((try simp only [evE, liE, letsOf, letU, snd] at h1); (try simp only [cmE] at h1))
    replace h1 : (if checkC ws gap ≠ 0 then checkC ws gap else if wordsE 8 (l.map (·.w)) ≠ 0 then wordsE 8 (l.map (·.w)) else 0) ≠ 0 := h1
    refine ⟨none, 0, [], ?_, ?_, .empty _⟩
    · show Value.tuple #[Value.slice none 0 0, .int .i64 (if checkC ws gap ≠ 0 then checkC ws gap else if wordsE 8 (l.map (·.w)) ≠ 0 then wordsE 8 (l.map (·.w)) else 0)] = _
      unfold progA
      by_cases h2 : checkC ws gap ≠ 0
      · rw [if_pos h2, if_pos h2]; rfl
      · rw [if_neg h2, if_neg h2]
        rw [if_neg h2] at h1
        by_cases h3 : wordsE 8 (l.map (·.w)) ≠ 0
        · rw [if_pos h3, if_pos h3]; rfl
        · rw [if_neg h3] at h1; exact absurd rfl h1
    · unfold progA
      by_cases h2 : checkC ws gap ≠ 0
      · rw [if_pos h2]; rfl
      · rw [if_neg h2]
        rw [if_neg h2] at h1
        by_cases h3 : wordsE 8 (l.map (·.w)) ≠ 0
        · rw [if_pos h3]; rfl
        · rw [if_neg h3] at h1; exact absurd rfl h1
  · ((try simp only [evE, liE, letsOf, letU, snd] at h1); (try simp only [cmE] at h1))
    replace h1 : (if checkC ws gap ≠ 0 then checkC ws gap else if wordsE 8 (l.map (·.w)) ≠ 0 then wordsE 8 (l.map (·.w)) else 0) = 0 := h1
    have h2 : checkC ws gap = 0 := by
      by_cases h2 : checkC ws gap ≠ 0
      · rw [if_pos h2] at h1; exact h1
      · simpa using h2
    have h3 : wordsE 8 (l.map (·.w)) = 0 := by
      rw [if_neg (by simp [h2])] at h1
      by_cases h3 : wordsE 8 (l.map (·.w)) ≠ 0
      · rw [if_pos h3] at h1; exact h1
      · simpa using h3
    have hspec : progA ws gap (l.map (·.w)) = (progE ws gap (l.map (·.w)) l.length, 0) := by unfold progA; rw [if_neg (by simp [h2]), if_neg (by simp [h3]), List.length_map]
    rw [hspec]
    obtain ⟨h8, hL⟩ := wordsE_zero h3
    have h32 := words_len hL
    rw [List.length_map] at h8
    refine .callE (c_pricer p pc cp cc l ws gap) (fun _ => trivial) ?_
    rintro v mq m' hle hqe ⟨d1, d0, rfl, hc1, hc0⟩
    have hpv := PrV.of (b1 := d1) (b0 := d0) (pc := pc) (cc := cc) (ws := ws) (gap := gap) (p := p) (cp := cp) (by omega) hok h2
    have hq1 := hc1.mono hqe.mv
    have hq0 := hc0.mono hqe.mv
    refine ⟨[.v (.func (.func n_multi_pricer_1) #[] #[.pointer (some ⟨d1, 0, none⟩), .pointer (some ⟨d0, 0, none⟩)])], uOk_of rfl, rfl, .env (by (try simp only [liE, letsOf, letU, snd, List.append_nil]); rfl) (.chk (by ((try simp only [evE, liE, letsOf, letU, snd]); (try simp only [cmE])); omega) ?_)⟩
    refine .loop (fun z us m2 => ∃ (q : Option Addr) (cq : Nat) (rs : List IR) (k : Nat), us = [.p q, .i rs.length, .i cq, .i k] ∧ k ≤ l.length ∧ z = l.length - k ∧ rs.map (·.l) = progE ws gap (l.map (·.w)) k ∧ TabI m2 q cq rs ∧ m'.le m2) l.length
      ⟨none, 0, [], 0, by (simp only [evE, liE, letsOf, letU, snd, Sh.uss, Sh.us, atAddr, map_add0, List.append_nil]); rfl, Nat.zero_le _, rfl, rfl, .empty _, Mem.le.refl _⟩ ?_
    rintro z _ m2 _ ⟨q, cq, rs, k, rfl, hk, rfl, hrs, hT, hle2⟩
    refine .env (by (try simp only [liE, letsOf, letU, snd, List.append_nil]); rfl) (.ite (fun h4 => ?_) (fun h4 => .ret rfl ⟨q, cq, rs, rfl, ?_, hT⟩)) <;> ((try simp only [evE, liE, letsOf, letU, snd] at h4); (try simp only [cmE] at h4))
    · have hk : k < l.length := by omega
      have hlen := congrArg List.length hrs
      rw [List.length_map] at hlen
      have hpl := progE_len ws gap (l.map (·.w)) k
      have hsl := sumL_le h32 k (by rw [List.length_map]; omega)
      have hent := progE_ent h2 (l.map (·.w)) k (by omega)
      have hrl : ∀ r ∈ rs, r.ok ∧ r.l.length = k := fun r hr => by
        have h5 : r.l.length = k := (hent r.l (by rw [← hrs]; exact List.mem_map_of_mem hr)).1
        exact ⟨⟨(hT.rows r hr).le, (hT.rows r hr).nil, by omega⟩, h5⟩
      have hwk : ((l.take (k + 1))[k]'(by rw [List.length_take]; omega)).w.length = ((l.map (·.w)).getD k []).length := by rw [List.getElem_take, getD_w l k hk]
      have hw32 : ((l.map (·.w)).getD k []).length ≤ 32 := by rw [getD_w l k hk]; exact h32 _ (List.mem_map_of_mem (List.getElem_mem hk))
      have key := c_insert p q cp cq (l.take (k + 1)) rs k k ((l.map (·.w)).getD k []).length rs.length _ _ _ _ hpv (by rw [List.length_take]; omega) rfl (by omega) (Nat.le_refl k) hwk (by omega) hrl
        (fun hne => by rcases Nat.eq_zero_or_pos k with h | h; · rw [h] at hrs; exact absurd (List.map_eq_nil_iff.1 hrs) hne
                       · exact h)
        (by rw [hrs]; exact cI_nonneg h2 _ (by omega) (fun x hx => (hent x hx).1) k)
        (fun w i j ho => by
          rw [hrs]
          rw [hlen] at ho
          have := progE_open h2 (l.map (·.w)) (by omega) ho
          exact ⟨by omega, this.2⟩)
      rw [hrs, ← progE_step, List.length_take, Nat.min_eq_left (by omega)] at key
      refine .chk (by ((try simp only [evE, liE, letsOf, letU, snd]); (try simp only [cmE])); rw [add_i64 k (by omega)]; omega) (.callE key (fun g => ⟨⟨(hq1.mono hle2.mv).mono g.mv, (hq0.mono hle2.mv).mono g.mv, hp.1.mono g.R, hp.2.1.mono g.R, hp.2.2.1.mono g.R⟩, words_take (hp.1.mono g.R) _, hT.reads g, hp.2.2.2.mono g.R⟩) ?_ (by
        show [Value.slice _ _ _, slv q rs.length cq, .int .i64 (k : Int), _] = _
        rw [← take_den (p := p) (cp := cp) (k := k) (n := l.length) (by omega) (by omega)]; rfl))
      rintro v mq2 m3 hle3 hqe3 ⟨q', cq', rs', rfl, h5, h6⟩
      refine ⟨[.p q', .i (rs'.length : Nat), .i (cq' : Nat)], uOk_of rfl, (slv_fresh _ _ _ _ _).symm, .env (by (try simp only [liE, letsOf, letU, snd, List.append_nil]); rfl) (.again rfl ⟨l.length - (k + 1), by omega, q', cq', rs', k + 1, ?_, by omega, rfl, h5, h6.le' hqe3, hle2.trans hle3⟩)⟩
      (simp only [evE, liE, letsOf, letU, snd, Sh.uss, Sh.us, atAddr, map_add0, List.append_nil]); rw [add_i64 k (by omega)]
    · obtain rfl : k = l.length := by omega
      exact hrs
end Go.Proofs.YtialbhieaipcgaaDoor
