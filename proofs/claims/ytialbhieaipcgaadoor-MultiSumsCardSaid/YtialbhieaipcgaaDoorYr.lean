/- Chapter 18: the law of sums. -/
import Derived.Test.YtialbhieaipcgaaDoorYp
import Derived.Test.YtialbhieaipcgaaDoorYq
import Derived.Test.YtialbhieaipcgaaDoorTcSums
set_option linter.unusedSimpArgs false
set_option linter.unusedVariables false
namespace Go.Sy
open Go Go.RowKit
theorem tailW_cells {V : Mv} {q : Option Addr} {cap j : Nat} {l : List WD} (h : Cells V q (l.map WD.v)) (hle : l.length ≤ cap) : Cells V (tailA q cap j) ((l.drop j).map WD.v) := fun i x hx => by
  rw [List.map_drop, List.getElem?_drop] at hx
  obtain ⟨b, o, h1, h2⟩ := h _ _ hx
  have hlt := (List.getElem?_eq_some_iff.1 hx).1
  rw [List.length_map] at hlt
  unfold tailA
  rw [if_neg (by omega), h1]
  exact ⟨b, o + j, by rw [Option.map_some, addr_add], by rw [Nat.add_assoc]; exact h2⟩
theorem takeW_cells {V : Mv} {q : Option Addr} {j : Nat} {l : List WD} (h : Cells V q (l.map WD.v)) : Cells V q ((l.take j).map WD.v) := fun i x hx => h i x (by
  rw [List.map_take, List.getElem?_take] at hx
  split at hx
  · exact hx
  · cases hx)
end Go.Sy
namespace Go.Proofs.YtialbhieaipcgaaDoor
open Go Go.Sy Go.RowKit
/-- Two lists of words put together. -/
theorem catW {c : Cx} {L : List Nat} {ρ : Env} {blks : List Blk} {m : Mem} {R : Value → HW → Prop} {Dn : Nat → List U → HW → Prop} {A : List (List U → HW → Prop)} {aO aO' : Array Operand} {ty ty' : TypeId} {sv xv sv2 yv : SV} {k : Tree} {b0 : Nat} {qx qy : Option Addr} {capx capy : Nat} (xs ys : List WD)
    (hx : ∀ {ρ' : Env} {m' : Mem}, m.le m' → Good c L m' → Cells (vw c L ρ' blks m') qx (xs.map WD.v)) (hy : ∀ {ρ' : Env} {m' : Mem}, m.le m' → Good c L m' → Cells (vw c L ρ' blks m') qy (ys.map WD.v)) (hnx : qx = none → capx = 0) (hny : qy = none → capy = 0) (hlen : xs.length + ys.length < 2 ^ 30) (hpos : 0 < xs.length + ys.length)
    (hk : ∀ q1 c1 q2 c2 m2, m.le m2 → Row m2 46 1 q2 c2 (xs ++ ys).length ((xs ++ ys).map WD.v) → DenM Tryd.prog R Dn k L (ρ ++ [.p q1, .i (xs.length : Nat), .i (c1 : Nat)] ++ [.p q2, .i ((xs ++ ys).length : Nat), .i (c2 : Nat)]) c m2 A)
    (hxv : xv.den L ρ = slv qx xs.length capx) (hyv : ∀ q (c1 : Nat), yv.den L (ρ ++ [.p q, .i (xs.length : Nat), .i (c1 : Nat)]) = slv qy ys.length capy) (hv2 : ∀ q (c1 : Nat), sv2.den L (ρ ++ [.p q, .i (xs.length : Nat), .i (c1 : Nat)]) = slv q xs.length c1)
    (hv : sv.den L ρ = slv (some ⟨b0, 0, none⟩) 0 0 := by rfl) (hs : scBlks ρ.length blks = true := by rfl) (hs2 : scBlks (ρ.length + 3) blks = true := by rfl) :
    DenM Tryd.prog R Dn (.ext false ⟨.call ⟨.builtin .append, aO, #[22, 22]⟩, ty, [sv, xv]⟩ .sl blks (.ext false ⟨.call ⟨.builtin .append, aO', #[22, 22]⟩, ty', [sv2, yv]⟩ .sl blks k)) L ρ c m A := by
  refine .appendLitF (b0 := b0) (qx := qx) (kx := xs.length) (capx := capx) (news := xs.map WD.v) elW (fun g => hx (Mem.le.refl _) g) (by rw [List.length_map, Nat.mul_one]) (wv_one _) hnx (by simp [maxLen]; omega) (by omega) (fun q1 c1 m1 hr1 h01 hle1 hf1 => ?_) hv hxv hs
  have hm1 : m.le m1 := fun b o hb => by rw [hle1 b (by rw [hb]; simp), hb]
  have hsc : scBlks (ρ ++ [U.p q1, .i (xs.length : Nat), .i (c1 : Nat)]).length blks = true := by rw [List.length_append]; exact hs2
  by_cases h0 : xs.length = 0
  · obtain ⟨rfl, rfl⟩ := h01 h0
    have hxs : xs = [] := List.length_eq_zero_iff.1 h0
    subst hxs
    refine .appendLit (b0 := b0) (qx := qy) (kx := ys.length) (capx := capy) (news := ys.map WD.v) elW (fun g => hy hm1 g) (by rw [List.length_map, Nat.mul_one]) (wv_one _) hny (by simp [maxLen]; omega) (by omega) (fun q2 c2 m2 hr2 h02 hle2 => ?_) (hv2 _ _) (hyv _ _) hsc
    exact hk _ _ q2 c2 m2 (hm1.trans fun b o hb => by rw [hle2 b (by rw [hb]; simp), hb]) (hr2 (by simp at hpos; omega))
  · refine .append (q := q1) (cap := c1) (n := xs.length) (qx := qy) (kx := ys.length) (capx := capy) (news := ys.map WD.v) elW (hr1 h0) (fun g => hy hm1 g) (by rw [List.length_map, Nat.mul_one]) (wv_one _) hny (by simp [maxLen]; omega) (by omega) (fun q2 c2 m2 hr2 hk2 hq2 => ?_) (hv2 _ _) (hyv _ _) hsc
    obtain ⟨g, rfl, hg⟩ := hf1 h0
    have h9 := hk (some ⟨g, 0, none⟩) c1 q2 c2 m2 (fun b o hb => ?_) (by rw [List.length_append, List.map_append]; exact hr2)
    · rw [List.length_append] at h9; exact h9
    rw [hk2 b (fun ⟨o', ho⟩ => by cases ho; rw [hg] at hb; cases hb) (by rw [hm1 b o hb]; simp)]
    exact hm1 b o hb
set_option maxHeartbeats 4000000 in
theorem l_MultiSums (p pc ps : Option Addr) (cp cc cs : Nat) (l : List WD) (ws : List Int) (gap : Int) (st : List Int) (hl : l.length < 2 ^ 63) (hlc : l.length ≤ cp) (hpn : p = none → cp = 0) (hok : ∀ x ∈ l, Wok x.w) (hw : ∀ x ∈ l, x.w.length < 2 ^ 63) (hst : st.length < 2 ^ 63) :
    RetP Tryd.prog n_law18_MultiSums [slv p l.length cp, costs pc ws.length cc gap, slv ps st.length cs] (fun R => WordsAt R p l ∧ CostsAt R pc ws ∧ Cells R ps (st.map (.int .u8)) ∧ VarsOk R) (.bool true) := by
  refine Fn.of S_law18_MultiSums mx [.p p, .i l.length, .i cp, .p pc, .i ws.length, .i cc, .i gap, .p ps, .i st.length, .i cs] rfl rfl fun c hp => .alloc fun b0 => ?_
  have hV := hp.2.2.2
  refine .join (fun us m => ∃ b, us = [.b b] ∧ (b = false → goodW 5 20 (l.map (·.w)) = true ∧ st.length ≤ 300 ∧ checkC ws gap = 0) ∧ Mem.emp = m) ?_ ?_
  · refine .callV (c_good p cp l 5 20 hl hok hw) (fun g => hp.1.mono g.R) (.env (by (try simp only [liE, letsOf, letU, snd, List.append_nil]); rfl) (.ite (fun h1 => .again rfl ⟨true, rfl, nofun, rfl⟩) (fun h1 => .chk (by ((try simp only [evE, liE, letsOf, letU, snd]); (try simp only [cmE])); omega) (.ite (fun h2 => .again rfl ⟨true, rfl, nofun, rfl⟩) (fun h2 => .callV (c_checkCosts pc cc ws gap) (fun g => hp.2.1.mono g.R) ?_))))) <;> ((try simp only [evE, liE, letsOf, letU, snd] at h1); (try simp only [cmE] at h1))
    ((try simp only [evE, liE, letsOf, letU, snd] at h2); (try simp only [cmE] at h2))
    refine .env (by (try simp only [liE, letsOf, letU, snd, List.append_nil]); rfl) (.again rfl ⟨_, rfl, fun h3 => ⟨h1, by omega, by ((try simp only [evE, liE, letsOf, letU, snd] at h3); (try simp only [cmE] at h3)); exact h3⟩, rfl⟩)
  rintro _ _ _ ⟨b, rfl, hb, rfl⟩
  refine .env (by (try simp only [liE, letsOf, letU, snd, List.append_nil]); rfl) (.ite (fun h1 => .callV c_works (fun g => hV.mono g.R) (.env (by (try simp only [liE, letsOf, letU, snd, List.append_nil]); rfl) (.ret rfl rfl))) (fun h1 => ?_)) <;> ((try simp only [evE, liE, letsOf, letU, snd] at h1); (try simp only [cmE] at h1))
  obtain ⟨hg, hst, hc⟩ := hb h1
  clear hb
  have hgW := goodW_of hg
  have hwlen : (l.map (·.w)).length = l.length := List.length_map _
  have hl5 : l.length ≤ 5 := by have := hgW.1; omega
  have hw8 : wordsE 8 (l.map (·.w)) = 0 := good_words hg (by omega)
  have hL : checkL (l.map (·.w)) = 0 := (wordsE_zero hw8).2
  refine .callE (c_choice p ps cp cs l st (by omega) (fun x hx => by have := (hgW.2 x.w (List.mem_map_of_mem hx)).1; omega) (by omega)) (fun g => ⟨hp.1.mono g.R, hp.2.2.1.mono g.R⟩) ?_
  rintro v mq m1 hle1 hq1 ⟨q1, k1, t1, rfl, hT1, hal1, hn1⟩
  refine ⟨[.p q1, .i (t1.length : Nat), .i k1], uOk_of rfl, (slv_fresh _ _ _ _ _).symm, .env (by (try simp only [liE, letsOf, letU, snd, List.append_nil]); rfl) ?_⟩
  have hT1 := hT1.le' hq1
  clear hle1 hq1
  refine .callV (c_scoreOk p q1 pc cp k1 cc l t1 ws gap hok hc hw8 hal1 (by omega) (fun r hr => (hT1.rows r hr).le)) (fun g => ⟨hp.1.mono g.R, hT1.reads g, hp.2.1.mono g.R, hV.1.mono g.R⟩) (.env (by (try simp only [liE, letsOf, letU, snd, List.append_nil]); rfl) (.no rfl ?_))
  have hcost := costE_pairs ws gap (l.map (·.w)) (n := l.length) (t1.map (·.l)) fun d hd => by have := ((isAl_of hal1).1 d hd).1; omega
  have hbnd : costE ws gap (l.map (·.w)) (t1.map (·.l)) ≤ 1048576 * 2199023255552 := by
    have := totM_bound (okc := fun d => d.length ≤ 8) (cost := columnE ws gap (l.map (·.w))) (fun x hx => columnE_bound hc _ x hx) (cols := t1.map (·.l)) (by rw [List.length_map]; omega) (fun x hx => by have := ((isAl_of hal1).1 x hx).1; omega)
    exact this.2
  have hPnn : ∀ a b, 0 ≤ pairS ws gap (l.map (·.w)) (t1.map (·.l)) a b := fun a b => by
    unfold pairS; split
    · exact pairC_nn hc _ _ _ _
    · exact Int.le_refl _
  generalize costE ws gap (l.map (·.w)) (t1.map (·.l)) = T at hcost hbnd ⊢
  -- sums over the first words
  have hrowle : ∀ i, i ≤ l.length → 0 ≤ (sm i fun a => sm l.length fun b => pairS ws gap (l.map (·.w)) (t1.map (·.l)) a b) ∧ (sm i fun a => sm l.length fun b => pairS ws gap (l.map (·.w)) (t1.map (·.l)) a b) ≤ T := fun i hi => by
    have hnn : ∀ a, 0 ≤ sm l.length fun b => pairS ws gap (l.map (·.w)) (t1.map (·.l)) a b := fun a => by
      have := sm_mono (n := 0) (m := l.length) (g := fun b => pairS ws gap (l.map (·.w)) (t1.map (·.l)) a b) (fun b _ => hPnn a b) (Nat.zero_le _)
      exact this
    exact ⟨sm_mono (n := 0) (fun a _ => hnn a) (Nat.zero_le _), by rw [hcost]; exact sm_mono (fun a _ => hnn a) hi⟩
  have hinle : ∀ i k, i < l.length → k ≤ l.length → 0 ≤ (sm k fun b => pairS ws gap (l.map (·.w)) (t1.map (·.l)) i b) ∧ (sm i fun a => sm l.length fun b => pairS ws gap (l.map (·.w)) (t1.map (·.l)) a b) + (sm k fun b => pairS ws gap (l.map (·.w)) (t1.map (·.l)) i b) ≤ T := fun i k hi hk => by
    have h1 := (hrowle (i + 1) (by omega)).2
    have h2 : (sm k fun b => pairS ws gap (l.map (·.w)) (t1.map (·.l)) i b) ≤ sm l.length fun b => pairS ws gap (l.map (·.w)) (t1.map (·.l)) i b := sm_mono (fun b _ => hPnn i b) hk
    have h3 : 0 ≤ (sm k fun b => pairS ws gap (l.map (·.w)) (t1.map (·.l)) i b) := sm_mono (n := 0) (fun b _ => hPnn i b) (Nat.zero_le _)
    refine ⟨h3, ?_⟩
    replace h1 : (sm i fun a => sm l.length fun b => pairS ws gap (l.map (·.w)) (t1.map (·.l)) a b) + (sm l.length fun b => pairS ws gap (l.map (·.w)) (t1.map (·.l)) i b) ≤ T := h1
    omega
  refine .loop (fun z us m => ∃ (e : Bool) (i : Nat), us = [.b e, .i (sm i fun a => sm l.length fun b => pairS ws gap (l.map (·.w)) (t1.map (·.l)) a b), .i i] ∧ z + i = l.length ∧ m1.le m) l.length ⟨false, 0, rfl, rfl, Mem.le.refl _⟩ ?_
  rintro z _ m _ ⟨e, i, rfl, hz, hle⟩
  refine .env (by (try simp only [liE, letsOf, letU, snd, List.append_nil]); rfl) (.chk (by ((try simp only [evE, liE, letsOf, letU, snd]); (try simp only [cmE])); omega) (.ite (fun h2 => ?_) (fun h2 => ?_))) <;> ((try simp only [evE, liE, letsOf, letU, snd] at h2); (try simp only [cmE] at h2))
  rotate_left
  · obtain rfl : i = l.length := by omega
    rw [← hcost]
    refine .join (fun us m => us = [.b true]) (.yes (by ((try simp only [evE, liE, letsOf, letU, snd]); (try simp only [cmE])) <;> simp) (.callV c_works (fun g => hV.mono g.R) (.env (by (try simp only [liE, letsOf, letU, snd, List.append_nil]); rfl) (.again rfl rfl)))) ?_
    rintro _ _ _ rfl
    exact .env (by (try simp only [liE, letsOf, letU, snd, List.append_nil]); rfl) (.ret rfl rfl)
  have hi : i < l.length := by omega
  refine .loop (fun z us m => ∃ (e : Bool) (k : Nat), us = [.b e, .i ((sm i fun a => sm l.length fun b => pairS ws gap (l.map (·.w)) (t1.map (·.l)) a b) + sm k fun b => pairS ws gap (l.map (·.w)) (t1.map (·.l)) i b), .i k] ∧ z + k = l.length ∧ i < k ∧ m1.le m) (l.length - (i + 1)) ⟨e, i + 1, ?_, by omega, by omega, hle⟩ ?_
  · have h0 : (sm (i + 1) fun b => pairS ws gap (l.map (·.w)) (t1.map (·.l)) i b) = 0 := sm_zero fun b hb => by unfold pairS; rw [if_neg (by omega)]
    rw [h0, Int.add_zero]
    (simp only [evE, liE, letsOf, letU, snd, Sh.uss, Sh.us, atAddr, map_add0, List.append_nil]); rw [add_i64 i (by omega)]
  clear hle
  rintro z2 _ m2 _ ⟨e2, k, rfl, hz2, hik, hle⟩
  refine .env (by (try simp only [liE, letsOf, letU, snd, List.append_nil]); rfl) (.chk (by ((try simp only [evE, liE, letsOf, letU, snd]); (try simp only [cmE])); omega) (.ite (fun h3 => ?_) (fun h3 => ?_))) <;> ((try simp only [evE, liE, letsOf, letU, snd] at h3); (try simp only [cmE] at h3))
  rotate_left
  · obtain rfl : k = l.length := by omega
    refine .again rfl ⟨z - 1, by omega, e2, i + 1, ?_, by omega, hle⟩
    (simp only [evE, liE, letsOf, letU, snd, Sh.uss, Sh.us, atAddr, map_add0, List.append_nil]); rw [add_i64 i (by omega)]; try rfl
  have hk : k < l.length := by omega
  have hsum := hinle i k hi (by omega)
  have hsum' := hinle i (k + 1) hi (by omega)
  refine .alloc fun b1 => .appendLit (b0 := b1) (qx := p) (kx := l.length) (capx := cp) (news := l.map WD.v) elW (fun g => hp.1.1.mono g.R) (by rw [List.length_map, Nat.mul_one]) (wv_one l) hpn (by simp [maxLen]; omega) (by omega) (fun q3 k3 m3 hr3 _ hk3 => .env (by (try simp only [liE, letsOf, letU, snd, List.append_nil]); rfl) (.chk (by ((try simp only [evE, liE, letsOf, letU, snd]); (try simp only [cmE])); omega) ?_))
  have hle3 : m1.le m3 := fun b o hb => by rw [hk3 b (by rw [hle b o hb]; simp)]; exact hle b o hb
  have hR3 := hr3 (by omega)
  clear hk3 hr3 hle
  refine .loop (fun z us m => ∃ (e : Bool) (q2 : Option Addr) (c2 : Nat) (rest : List IR) (q4 : Option Addr) (c4 : Nat) (lv : List WD) (J : Nat), us = [.b e, .p q2, .i rest.length, .i c2, .p q4, .i lv.length, .i c4, .i ((J : Int) - 1)] ∧ J = z ∧ J ≤ l.length ∧ LeftW ws gap (l.map (·.w)) i k (pairC ws gap (l.map (·.w)) (t1.map (·.l)) i k) J (lv.map (·.w)) (rest.map (·.l)) ∧ TabI m q2 c2 rest ∧ Row m 46 1 q4 c4 lv.length (lv.map WD.v) ∧ (∀ y ∈ lv, y ∈ l) ∧ m1.le m) l.length
    ⟨e2, q1, k1, t1, q3, k3, l, l.length, ?_, rfl, Nat.le_refl _, ?_, hT1.le' hle3, hR3, fun _ h => h, hle3⟩ ?_
  · (simp only [evE, liE, letsOf, letU, snd, Sh.uss, Sh.us, atAddr, map_add0, List.append_nil]); rw [subI (by omega) (by omega)]; try rfl
  · have := LeftW.start (ws := ws) (gap := gap) hik (by rw [hwlen]; exact hk) hal1
    rw [hwlen] at this; exact this
  clear hR3 hle3
  rintro _ _ m5 _ ⟨e5, q2, c2, rest, q4, c4, lv, J, rfl, rfl, hJ, hLW, hT, hR, hsub, hle⟩
  have hlvok : ∀ y ∈ lv, Wok y.w := fun y hy => hok y (hsub y hy)
  have hlvlen := hLW.len
  rw [List.length_map] at hlvlen
  have hlv8 : lv.length ≤ 8 := by
    have a : (if i < J then 0 else 1) ≤ 1 := by split <;> omega
    have b : (if k < J then 0 else 1) ≤ 1 := by split <;> omega
    omega
  have hLv : checkL (lv.map (·.w)) = 0 := checkL_all fun w hw => by
    obtain ⟨y, hy, rfl⟩ := List.mem_map.1 hw
    exact checkL_zero hL _ (List.mem_map_of_mem (hsub y hy))
  have hw8v : wordsE 8 (lv.map (·.w)) = 0 := by unfold wordsE; rw [if_neg (by rw [List.length_map]; omega)]; exact hLv
  have hrl := al_len hLW.al (by rw [List.length_map]; exact hlv8) (wl_32 hLv)
  rw [List.length_map] at hrl
  have hrok := tabOk_len hT hLW.al (by rw [List.length_map]; exact hlv8)
  have hwat : ∀ {L : List Nat} {ρ : Env} {blks : List Blk}, Go.Sy.Good c L m5 → WordsAt (vw c L ρ blks m5) q4 lv := fun g => ⟨hR.reads g, fun y hy => (hp.1.2 y (hsub y hy)).mono g.R⟩
  refine .env (by (try simp only [liE, letsOf, letU, snd, List.append_nil]); rfl) (.ite (fun h4 => ?_) (fun h4 => ?_)) <;> ((try simp only [evE, liE, letsOf, letU, snd] at h4); (try simp only [cmE] at h4))
  · obtain ⟨j, rfl⟩ : ∃ j, J = j + 1 := ⟨J - 1, by omega⟩
    refine .env (by (try simp only [liE, letsOf, letU, snd, List.append_nil]); rw [show ((j + 1 : Nat) : Int) - 1 = (j : Int) by omega]) (.join (fun us m => ∃ (e : Bool) (q2 : Option Addr) (c2 : Nat) (rest : List IR) (q4 : Option Addr) (c4 : Nat) (lv : List WD), us = [.b e, .p q2, .i rest.length, .i c2, .p q4, .i lv.length, .i c4] ∧ LeftW ws gap (l.map (·.w)) i k (pairC ws gap (l.map (·.w)) (t1.map (·.l)) i k) j (lv.map (·.w)) (rest.map (·.l)) ∧ TabI m q2 c2 rest ∧ Row m 46 1 q4 c4 lv.length (lv.map WD.v) ∧ (∀ y ∈ lv, y ∈ l) ∧ m1.le m) (.ite (fun h5 => .again rfl ⟨e5, q2, c2, rest, q4, c4, lv, (by (simp only [evE, liE, letsOf, letU, snd, Sh.uss, Sh.us, atAddr, map_add0, List.append_nil]) <;> rfl), hLW.skip hik (by ((try simp only [evE, liE, letsOf, letU, snd] at h5); (try simp only [cmE] at h5)); omega), hT, hR, hsub, hle⟩) (fun h5 => ?_)) ?_)
    · ((try simp only [evE, liE, letsOf, letU, snd] at h5); (try simp only [cmE] at h5))
      have hji : j ≠ i := fun e => by omega
      have hjk : j ≠ k := fun e => by omega
      have hjV : j < lv.length := by rw [hlvlen]; omega
      have h2V : 2 ≤ lv.length := by
        rw [hlvlen]
        by_cases a : i < j + 1
        · by_cases b : k < j + 1
          · omega
          · rw [if_neg b]; omega
        · rw [if_neg a]; omega
      have kw := c_Without q4 q2 c4 c2 lv rest j (by omega) (by omega) hlvok (fun r hr => (hrok r hr).1)
      rw [withoutE_ok (checkA_al hw8v hLW.al) (by rw [List.length_map]; exact hjV)] at kw
      refine .callE kw (fun g => ⟨hwat g, hT.reads g⟩) ?_
      clear kw
      rintro v mq m6 hle6 hq6 ⟨q6, c6, r6, rfl, hr6, hT6⟩
      replace hr6 : r6.map (·.l) = withoutS (rest.map (·.l)) j := hr6
      refine ⟨[.p q6, .i (r6.length : Nat), .i c6, .i 0], uOk_of rfl, (tab_fresh _ _ _ _ _ _).symm, .env (by (try simp only [liE, letsOf, letU, snd, List.append_nil]); rfl) ?_⟩
      have hT6 := hT6.le' hq6
      have hR6 := Row.le hR hle6
      have hcap := hR6.cap_le
      have hcap0 := cap0_of hR6
      have hcmax : c4 ≤ maxLen := by
        rcases hR6.2 with ⟨_, h, _⟩ | ⟨_, _, _, _, _, h, _⟩
        · omega
        · exact h
      have haj := add_i64 j (by omega)
      refine .no rfl (.chk (by ((try simp only [evE, liE, letsOf, letU, snd]); (try simp only [cmE])); omega) (.chk (by ((try simp only [evE, liE, letsOf, letU, snd]); (try simp only [cmE])); rw [haj]; omega) (.alloc fun b2 => .envL (by simp only [List.nil_append, List.cons_append]; rfl) ?_)))
      have htl : (lv.take j).length = j := by rw [List.length_take]; omega
      have hdl : (lv.drop (j + 1)).length = lv.length - (j + 1) := List.length_drop
      refine catW (b0 := b2) (qx := q4) (qy := tailA q4 c4 (j + 1)) (capx := c4) (capy := c4 - (j + 1)) (lv.take j) (lv.drop (j + 1))
        (fun hm g => takeW_cells ((Row.le hR6 hm).reads g)) (fun hm g => tailW_cells ((Row.le hR6 hm).reads g) hcap) hcap0 (fun h => by rw [hcap0 (tail_none h)]; omega) (by omega) (by omega) (fun qa ca qb cb m7 hle7 hR7 => ?_) ?_ ?_ ?_
      · have he : lv.take j ++ lv.drop (j + 1) = lv.eraseIdx j := (List.eraseIdx_eq_take_drop_succ ..).symm
        rw [he] at hR7 ⊢
        refine .env (by (try simp only [liE, letsOf, letU, snd, List.append_nil]); rfl) (.againL rfl fun gd => ⟨e5, q6, c6, r6, qb, cb, lv.eraseIdx j, (by (simp only [evE, liE, letsOf, letU, snd, Sh.uss, Sh.us, atAddr, map_add0, List.append_nil]) <;> rfl), ?_, (hT6.le' hle7).le' (gd.leB _ _ 2), Row.le hR7 (gd.leB _ _ 2), fun y hy => hsub y (List.mem_of_mem_eraseIdx hy), ((hle.trans hle6).trans hle7).trans (gd.leB _ _ 2)⟩)
        rw [show (lv.eraseIdx j).map (·.w) = (lv.map (·.w)).eraseIdx j by rw [List.eraseIdx_eq_take_drop_succ, List.eraseIdx_eq_take_drop_succ, List.map_append, List.map_take, List.map_drop], hr6]
        exact hLW.drop hik hji hjk
      · rw [htl]; exact head_den
      · intro qa ca
        show Value.slice (Option.map (fun a => a.add (if (c4 : Int) = ar .add .i64 (j : Int) 1 then (0 : Int) else 0 + ar .add .i64 (j : Int) 1 * ((1 : Nat) : Int)).toNat) q4) ((lv.length : Int) - ar .add .i64 (j : Int) 1).toNat ((c4 : Int) - ar .add .i64 (j : Int) 1).toNat = _
        rw [haj, hdl]; exact tail_den (by omega) hcap
      · intro qa ca
        rfl
    · rintro _ m6 _ ⟨e6, q6, c6, r6, q7, c7, lv7, rfl, a1, a2, a3, a4, a5⟩
      refine .env (by (try simp only [liE, letsOf, letU, snd, List.append_nil]); rfl) (.again rfl ⟨j, by omega, e6, q6, c6, r6, q7, c7, lv7, j, ?_, rfl, by omega, a1, a2, a3, a4, a5⟩)
      (simp only [evE, liE, letsOf, letU, snd, Sh.uss, Sh.us, atAddr, map_add0, List.append_nil]); rw [subI (by omega) (by omega)]; try rfl
  · obtain rfl : J = 0 := by omega
    have ks := c_scoreOk q4 q2 pc c4 c2 cc lv rest ws gap hlvok hc hw8v hLW.al (by omega) (fun r hr => (hT.rows r hr).le)
    rw [hLW.final] at ks
    refine .callV ks (fun g => ⟨hwat g, hT.reads g, hp.2.1.mono g.R, hV.1.mono g.R⟩) (.env (by (try simp only [liE, letsOf, letU, snd, List.append_nil]); rfl) (.no rfl (.againL rfl fun gd => ⟨z2 - 1, by omega, e5, k + 1, ?_, by omega, by omega, hle.trans (gd.leB _ _ 1)⟩)))
    have hP : pairC ws gap (l.map (·.w)) (t1.map (·.l)) i k = pairS ws gap (l.map (·.w)) (t1.map (·.l)) i k := by unfold pairS; rw [if_pos hik]
    replace hsum' : (sm i fun a => sm l.length fun b => pairS ws gap (l.map (·.w)) (t1.map (·.l)) a b) + ((sm k fun b => pairS ws gap (l.map (·.w)) (t1.map (·.l)) i b) + pairS ws gap (l.map (·.w)) (t1.map (·.l)) i k) ≤ T := hsum'.2
    have h1 := (hrowle i (by omega)).1
    have h2 := hPnn i k
    (simp only [evE, liE, letsOf, letU, snd, Sh.uss, Sh.us, atAddr, map_add0, List.append_nil])
    rw [add_i64 k (by omega), hP, addI (by omega) (by omega), Int.add_assoc]; rfl
end Go.Proofs.YtialbhieaipcgaaDoor
