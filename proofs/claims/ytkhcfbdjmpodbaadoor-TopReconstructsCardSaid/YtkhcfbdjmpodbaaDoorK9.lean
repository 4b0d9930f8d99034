/- The law. -/
import Derived.Test.YtkhcfbdjmpodbaaDoorKp
set_option linter.unusedSimpArgs false
set_option linter.unusedVariables false
namespace Go.Sy
open Go Go.RowKit Go.Proofs.YtkhcfbdjmpodbaaDoor
section
variable {P : Program} {c : Cx} {L : List Nat} {ρ : Env} {blks : List Blk} {m : Mem} {R : Value → HW → Prop} {Dn : Nat → List U → HW → Prop} {A : List (List U → HW → Prop)}
theorem DenM.loadCK {i : Nat} {I len : IT} {k : Tree} (l : List CE) (j : Nat) (hj : j < l.length) (hw : Good c L m → Cells (vw c L ρ blks m) (ρ.ptr i) (ccells l)) (hk : DenM P R Dn k L (ρ ++ [.i l[j].1]) c m A) (hI : I.eval ρ = (j : Int) := by rfl) (hn : len.eval ρ = (l.length : Int) := by rfl) :
    DenM P R Dn (.chk (.pick (.cmp .geq I (.lit 0)) (.pick (.cmp .lss I len) (.some i) (.lit false)) (.lit false)) (.chk (.pick (.cmp .geq (.off I 3 (.lit 0)) (.lit 0)) (.some i) (.lit false)) (.load i (.off I 3 (.lit 0)) [.int .i64] blks k))) L ρ c m A := fun g => by
  have h := ccells_at l hj 0 (by omega)
  rw [Nat.add_zero] at h
  obtain ⟨b, o, hpe⟩ := (hw g).some (i := j * 3) (by rw [ccells_len]; omega)
  have h1 : (BT.pick (.cmp .geq I (.lit 0)) (.pick (.cmp .lss I len) (.some i) (.lit false)) (.lit false)).eval ρ = true := by
    simp only [BT.eval, IT.eval, hI, hn, hpe, cm, pick_and]; simp; omega
  have h2 : (BT.pick (.cmp .geq (.off I 3 (.lit 0)) (.lit 0)) (.some i) (.lit false)).eval ρ = true := by
    simp only [BT.eval, IT.eval, hI, hpe, cm, pick_and]; simp; omega
  exact DenM.chk h1 (.chk h2 (.load1 (.int .i64 l[j].1) (ρ.ptr i) (ccells l) (j * 3) rfl (by simp only [IT.eval, hI]; simp) hw h hk rfl (by
    have e1 := getElem_env ρ [.i l[j].1] 0
    rw [Nat.add_zero] at e1
    simp only [Sh.freshs, Sh.fresh, SV.dens, SV.den, IT.eval, Env.int, lU]
    rw [e1]; rfl))) g
end
theorem addC_there {cs : List Snd} {x : CE} {b : Bool} (h : b = (decide (x.1 ≠ 2) || cs.any fun s => s == x.2)) : addC cs x = if b = true then cs else cs ++ [x.2] := by
  unfold addC
  have e : (b = true) ↔ (x.1 ≠ 2 ∨ x.2 ∈ cs) := by
    rw [h, Bool.or_eq_true, decide_eq_true_eq, List.any_eq_true]
    constructor
    · rintro (h | ⟨s, hs, he⟩)
      · exact .inl h
      · rw [beq_iff_eq] at he; subst he; exact .inr hs
    · rintro (h | h)
      · exact .inl h
      · exact .inr ⟨x.2, h, by simp⟩
  by_cases hb : b = true
  · rw [if_pos hb, if_pos (e.1 hb)]
  · rw [if_neg hb, if_neg (fun q => hb (e.2 q))]
theorem candsC_take {cs : List Snd} {col : List CE} {k : Nat} (h : k < col.length) : candsC cs (col.take (k + 1)) = addC (candsC cs (col.take k)) col[k] := by
  rw [List.take_succ_eq_append_getElem h]
  unfold candsC
  rw [List.foldl_append]; rfl
theorem cands_take {cs : List Snd} {cols : List (List CE)} {i : Nat} (h : i < cols.length) : (cols.take (i + 1)).foldl candsC cs = candsC ((cols.take i).foldl candsC cs) cols[i] := by
  rw [List.take_succ_eq_append_getElem h, List.foldl_append]; rfl
theorem matM_ok {cs : List Snd} {ws : List Int} {gap : Int} (hc : checkC ws gap = 0) (hE : matErr cs ws gap = 0) : OkM (matM cs ws gap) := by
  have h11 : cs.length ≤ 11 ∧ overB cs ws gap = false := by
    unfold matErr at hE
    split at hE
    · cases hE
    · split at hE
      · cases hE
      · split at hE
        · cases hE
        · rename_i h1 _ h3
          exact ⟨by omega, by simpa using h3⟩
  refine ⟨by rw [matM_len]; omega, by rw [matM_len]; omega, fun r hr => ?_, fun r hr x hx => ?_⟩
  · obtain ⟨a, _, rfl⟩ := List.mem_map.1 hr
    rw [matM_len]
    show (List.map _ _).length = _
    rw [List.length_map, List.length_range]
  · obtain ⟨a, ha, rfl⟩ := List.mem_map.1 hr
    obtain ⟨b, hb, rfl⟩ := List.mem_map.1 hx
    exact matE_bound hc h11.2 (by have := List.mem_range.1 ha; omega) (by have := List.mem_range.1 hb; omega)
theorem wordR_ok {cs : List Snd} {t : List ND} {ws : List Int} {gap : Int} {cols : List (List CE)} (h1 : cs.length ≠ 0) (h2 : cs.length ≤ 4) (h3 : (wordR cs t ws gap cols).2.2 ≠ 7) (h4 : (wordR cs t ws gap cols).2.2 ≠ 11) : matErr cs ws gap = 0 ∧ wordR cs t ws gap cols = (wordS cs t (matM cs ws gap) cols, wordN cs t (matM cs ws gap) cols, 0) := by
  have hm : matErr cs ws gap = 0 := by
    refine Decidable.byContradiction fun hn => ?_
    unfold wordR at h3
    rw [if_pos hn] at h3
    unfold matErr at h3 hn
    rw [if_neg (by omega), if_neg h1] at h3 hn
    split at h3
    · exact h3 rfl
    · rename_i h; rw [if_neg h] at hn; exact hn rfl
  refine ⟨hm, ?_⟩
  unfold wordR at h4 ⊢
  rw [if_neg (by simp [hm])] at h4 ⊢
  split at h4
  · exact absurd rfl h4
  · rename_i h; rw [if_neg h]
def fillC (N : Nat) (y : CE) (v : Nat) : List CE := (List.range N).map fun u => if u < v then y else (0, (0, 0))
theorem fillC_len (N : Nat) (y : CE) (v : Nat) : (fillC N y v).length = N := by unfold fillC; rw [List.length_map, List.length_range]
theorem fillC_zero (N : Nat) (y : CE) : fillC N y 0 = List.replicate N (0, (0, 0)) := by
  refine List.eq_replicate_iff.2 ⟨fillC_len .., fun x hx => ?_⟩
  unfold fillC at hx
  obtain ⟨u, _, rfl⟩ := List.mem_map.1 hx
  rfl
theorem fillC_end (N : Nat) (y : CE) : fillC N y N = List.replicate N y := by
  refine List.eq_replicate_iff.2 ⟨fillC_len .., fun x hx => ?_⟩
  unfold fillC at hx
  obtain ⟨u, hu, rfl⟩ := List.mem_map.1 hx
  rw [if_pos (List.mem_range.1 hu)]
theorem fillC_set {N : Nat} (y : CE) {v : Nat} (h : v < N) : (fillC N y v).set v y = fillC N y (v + 1) := by
  apply List.ext_getElem?
  intro j
  rw [List.getElem?_set, fillC_len]
  unfold fillC
  rw [List.getElem?_map, List.getElem?_map]
  rcases Nat.lt_or_ge j N with hj | hj
  · rw [List.getElem?_range hj]
    by_cases e : v = j
    · subst e
      rw [if_pos rfl, if_pos h, Option.map_some, if_pos (by omega)]
    · rw [if_neg e, Option.map_some, Option.map_some]
      congr 1
      by_cases h2 : j < v
      · rw [if_pos h2, if_pos (by omega)]
      · rw [if_neg h2, if_neg (by omega)]
  · rw [if_neg (by omega), List.getElem?_eq_none (by rw [List.length_range]; exact hj)]; rfl
end Go.Sy
namespace Go.Proofs.YtkhcfbdjmpodbaaDoor
open Go Go.Sy Go.RowKit
theorem c_slEqual (p q : Option Addr) (ca cb : Nat) (a b : List Snd) (hla : a.length < 2 ^ 62) : RetP Tryd.prog n_slices_Equal___api_Sound_api_Sound_ [slv p a.length ca, slv q b.length cb] (fun R => WordAt R p a ∧ WordAt R q b) (.bool (decide (a = b))) := by
  refine Fn.of S_slices_Equal___api_Sound_api_Sound_ mx [.p p, .i a.length, .i ca, .p q, .i b.length, .i cb] rfl rfl fun c hp => .chk (by ((try simp only [evE, liE, lO, lU, snd]); (try simp only [cmE])); omega) (.chk (by ((try simp only [evE, liE, lO, lU, snd]); (try simp only [cmE])); omega) (.ite (fun h1 => .ret rfl ?_) (fun h1 => .chk (by ((try simp only [evE, liE, lO, lU, snd]); (try simp only [cmE])); omega) ?_))) <;> ((try simp only [evE, liE, lO, lU, snd] at h1); (try simp only [cmE] at h1))
  · have : ¬ a = b := fun e => by rw [e] at h1; simp at h1
    ((try simp only [evE, liE, lO, lU, snd]); (try simp only [cmE])); simp [this]
  have hl : a.length = b.length := by omega
  refine .loop (fun n us _ => ∃ (r : Bool) (j : Nat), us = [.b r, .i j] ∧ n + j = a.length ∧ a.take j = b.take j) a.length ⟨false, 0, rfl, rfl, rfl⟩ ?_
  rintro n _ m _ ⟨r, j, rfl, hn, ht⟩
  refine .ite (fun h2 => ?_) (fun h2 => .ret rfl ?_) <;> ((try simp only [evE, liE, lO, lU, snd] at h2); (try simp only [cmE] at h2))
  · have ha : j < a.length := by omega
    have hb : j < b.length := by omega
    have hiff := take_succ_eq ha hb ht
    refine .loadW a j ha (fun g => hp.1.mono g.R) (.loadW b j hb (fun g => hp.2.mono g.R) (.ite (fun h3 => .ret rfl ?_) (fun h3 => .again rfl ⟨n - 1, by omega, r, j + 1, ?_, by omega, hiff.2 ?_⟩))) <;> ((try simp only [evE, liE, lO, lU, snd] at h3); (try simp only [cmE] at h3))
    · have : ¬ a = b := fun e => by subst e; simp at h3
      ((try simp only [evE, liE, lO, lU, snd]); (try simp only [cmE])); simp [this]
    · (simp only [evE, liE, lO, lU, snd, Sh.uss, Sh.us, atAddr, map_add0, List.append_nil]); rw [add_i64 j (by omega)]
    · exact snd_eq.1 h3
  · have := take_all hl (by rw [show a.length = j by omega]; exact ht)
    ((try simp only [evE, liE, lO, lU, snd]); (try simp only [cmE])); simp [this]
theorem c_wordEqual (p q : Option Addr) (ca cb : Nat) (a b : List Snd) (hla : a.length < 2 ^ 62) : RetP Tryd.prog n_word_Equal [slv p a.length ca, slv q b.length cb] (fun R => WordAt R p a ∧ WordAt R q b) (.bool (decide (a = b))) :=
  Fn.of S_word_Equal mx [.p p, .i a.length, .i ca, .p q, .i b.length, .i cb] rfl rfl fun c hp => .callV (c_slEqual p q ca cb a b hla) (fun g => ⟨hp.1.mono g.R, hp.2.mono g.R⟩) (.ret rfl rfl)
set_option maxHeartbeats 8000000 in
theorem l_TopReconstructs (gl : Value) (p pf pw : Option Addr) (cp cf cw : Nat) (t : List ND) (l : List FD) (ws : List Int) (gap : Int) (hg : gl.oneCell' = true) (ht : t.length < 2 ^ 45) (hn : ∀ x ∈ t, x.nm.length < 2 ^ 62) (hl : l.length < 2 ^ 45) (hwl : ∀ f ∈ l, f.w.w.length < 2 ^ 45) (hok : ∀ f ∈ l, Wok f.w.w) (hws : ws.length < 2 ^ 45) :
    RetP Tryd.prog n_top_TopReconstructs [slv p t.length cp, .agg #[gl, slv pf l.length cf], costs pw ws.length cw gap] (fun R => Cells R p (ncells t) ∧ FormsAt R pf l ∧ CostsAt R pw ws ∧ TabOk R ∧ StepsOk R) (.bool true) := by
  have hLv := c_Leaves p cp t (by omega) hn
  have hLle : (leavesE t).1.length ≤ t.length := by
    unfold leavesE; split
    · exact Nat.zero_le _
    · exact leavesU_le t t.length
  have hw24 := c_works24
  refine Fn.of S_top_TopReconstructs mx [.p p, .i t.length, .i cp, .v gl, .p pf, .i l.length, .i cf, .p pw, .i ws.length, .i cw, .i gap] (by simp [Sh.eats, Sh.eat, eatS, eatV, eatI, hg]) rfl fun c hp => .alloc fun b0 => .alloc fun b1 => ?_
  refine .callE hLv (fun g => hp.1.mono g.R) ?_
  rintro v mq m0 _ hle0 ⟨q0, c0, rfl, hL0⟩
  replace hL0 := Row.le hL0 hle0
  refine ⟨[.p q0, .i (leavesE t).1.length, .i c0, .i (leavesE t).2], uOk_of rfl, (tab_fresh _ _ _ _ _ _).symm, .env (by (try simp only [liE, lO, lU, snd, aN]); rfl) ?_⟩
  refine .join (fun us mm => ∃ b : Bool, us = [.b b] ∧ m0 = mm ∧ (b = false → (leavesE t).2 = 0 ∧ t.length ≤ 8 ∧ (leavesE t).1.length = l.length)) (.ite (fun h1 => .again rfl ⟨true, by (simp only [evE, liE, lO, lU, snd, Sh.uss, Sh.us, atAddr, map_add0, List.append_nil]) <;> rfl, rfl, nofun⟩) (fun h1 => .chk (by ((try simp only [evE, liE, lO, lU, snd]); (try simp only [cmE])); omega) (.ite (fun h2 => .again rfl ⟨true, by (simp only [evE, liE, lO, lU, snd, Sh.uss, Sh.us, atAddr, map_add0, List.append_nil]) <;> rfl, rfl, nofun⟩) (fun h2 => .chk (by ((try simp only [evE, liE, lO, lU, snd]); (try simp only [cmE])); omega) (.chk (by ((try simp only [evE, liE, lO, lU, snd]); (try simp only [cmE])); omega) (.again rfl ⟨_, by (simp only [evE, liE, lO, lU, snd, Sh.uss, Sh.us, atAddr, map_add0, List.append_nil]) <;> rfl, rfl, fun h3 => ?_⟩)))))) ?_
  · ((try simp only [evE, liE, lO, lU, snd] at h1); (try simp only [cmE] at h1))
    ((try simp only [evE, liE, lO, lU, snd] at h2); (try simp only [cmE] at h2))
    replace h3 : cm .neq ((leavesE t).1.length : Int) l.length = false := h3
    have h3' : (leavesE t).1.length = l.length := by
      simp [cm] at h3; omega
    exact ⟨h1, by omega, h3'⟩
  rintro _ _ _ ⟨b, rfl, rfl, hb⟩
  refine .env (by (try simp only [liE, lO, lU, snd, aN]); rfl) (.ite (fun h1 => .callV hw24 (fun g => hp.2.2.2.1.mono g.R) (.env (by (try simp only [liE, lO, lU, snd, aN]); rfl) (.ret rfl rfl))) (fun h1 => ?_))
  replace h1 : b = false := h1
  subst h1
  obtain ⟨hE2, h8, hll⟩ := hb rfl
  have hE : treeE t = 0 := by
    unfold leavesE at hE2
    split at hE2
    · rename_i h; exact absurd hE2 h
    · rename_i h; exact Decidable.not_not.1 h
  rw [leavesE_ok hE] at hL0 hll ⊢
  dsimp only at hL0 hll ⊢
  have hlv := leavesU_le t t.length
  have hlv8 : (leavesL t).length ≤ 8 := Nat.le_trans hlv h8
  have lmem : ∀ j, j < (leavesL t).length → ∃ v : Nat, labAt (leavesL t) j = v ∧ v < t.length := fun j hj => by
    obtain ⟨v, hv, hvt⟩ := leavesL_mem (List.getElem_mem hj)
    exact ⟨v, by rw [labAt_get hj, hv], hvt⟩
  refine .callE (c_aligned24 gl pf pw cf cw l ws gap hg hl hwl hok) (fun g => ⟨hp.2.1.mono g.R, hp.2.2.1.mono g.R, hp.2.2.2.1.mono g.R, hp.2.2.2.2.mono g.R⟩) ?_
  rintro v mq1 m1 hle1 hle2 ⟨q1, c1, ts, b, rfl, hal⟩
  replace hL0 := Row.le hL0 hle1
  refine ⟨[.p q1, .i ts.length, .i c1, .b b], uOk_of rfl, ?_, .env (by (try simp only [liE, lO, lU, snd, aN]); rfl) (.ite (fun h1 => .callV hw24 (fun g => hp.2.2.2.1.mono g.R) (.env (by (try simp only [liE, lO, lU, snd, aN]); rfl) (.ret rfl rfl))) (fun h1 => ?_))⟩
  · rfl
  replace h1 : (!b) = false := h1
  obtain ⟨hAl, hT1⟩ := hal (by simpa using h1)
  replace hT1 := hT1.le hle2
  have hb1 : b = true := by simpa using h1
  subst hb1
  clear hal h1 hle1 hle2 hle0
  have hCo := hAl.cols
  generalize hcd : ts.map (·.l) = cols at *
  have hcl : cols.length = ts.length := by rw [← hcd, List.length_map]
  have h40 := hCo.most
  have hrow : ∀ i (hi : i < ts.length), ts[i].l ∈ cols := fun i hi => by rw [← hcd]; exact List.mem_map_of_mem (List.getElem_mem hi)
  have hcol : ∀ i (hi : i < ts.length), cols[i]'(by omega) = ts[i].l := fun i hi => by
    have : cols[i]? = some ts[i].l := by rw [← hcd, List.getElem?_map, List.getElem?_eq_getElem hi]; rfl
    rw [List.getElem?_eq_getElem (by omega)] at this
    exact Option.some.inj this
  -- the candidates
  refine .loop (fun n us mm => ∃ (q : Option Addr) (cq i : Nat), us = [.p q, .i ((cols.take i).foldl candsC []).length, .i cq, .i i] ∧ n + i = cols.length ∧ m1.le mm ∧ NewQ m1 q ∧ Row mm 41 2 q cq ((cols.take i).foldl candsC []).length (wcells ((cols.take i).foldl candsC []))) cols.length ⟨none, 0, 0, by (simp only [evE, liE, lO, lU, snd, Sh.uss, Sh.us, atAddr, map_add0, List.append_nil]) <;> rfl, rfl, Mem.le.refl _, nofun, Row.nil ..⟩ ?_
  rintro n _ m _ ⟨q, cq, i, rfl, hni, hle, hnew, hR⟩
  refine .env (by (try simp only [liE, lO, lU, snd, aN]); rfl) (.chk (by ((try simp only [evE, liE, lO, lU, snd]); (try simp only [cmE])); omega) (.ite (fun h1 => ?_) (fun h1 => ?_))) <;> ((try simp only [evE, liE, lO, lU, snd] at h1); (try simp only [cmE] at h1))
  · have hi : i < ts.length := by omega
    have hic : i < cols.length := by omega
    have hstep := cands_take (cs := []) hic
    rw [hcol i hi] at hstep
    have hlen5 := hCo.len _ (hrow i hi)
    have hl5 := hAl.five
    have hcs := cands_le (n := 5) (cols := cols.take i) (cs := []) (fun x hx => by rw [hCo.len x (List.mem_of_mem_take hx)]; exact hl5)
    rw [List.length_take, Nat.min_eq_left (by omega), List.length_nil, Nat.zero_add] at hcs
    generalize (cols.take i).foldl candsC [] = cs0 at *
    refine .loop (fun n us mm => ∃ (q : Option Addr) (cq k : Nat), us = [.p q, .i (candsC cs0 (ts[i].l.take k)).length, .i cq, .i k] ∧ n + k = ts[i].l.length ∧ m1.le mm ∧ NewQ m1 q ∧ Row mm 41 2 q cq (candsC cs0 (ts[i].l.take k)).length (wcells (candsC cs0 (ts[i].l.take k)))) ts[i].l.length ⟨q, cq, 0, by (simp only [evE, liE, lO, lU, snd, Sh.uss, Sh.us, atAddr, map_add0, List.append_nil]) <;> rfl, rfl, hle, hnew, hR⟩ ?_
    clear hle hnew hR
    rintro n2 _ m2 _ ⟨q, cq, k, rfl, hnk, hle, hnew, hR⟩
    refine .env (by (try simp only [liE, lO, lU, snd, aN]); rfl) (.loadSl (ts.map CR.v) i ts.length ts[i].p ts[i].l.length ts[i].cap hi (by rw [List.getElem?_map, List.getElem?_eq_getElem hi]; rfl) (fun g => ((hT1.le hle).reads g).1) (.env (by (try simp only [liE, lO, lU, snd, aN]); rfl) (.chk (by ((try simp only [evE, liE, lO, lU, snd]); (try simp only [cmE])); omega) (.ite (fun h2 => ?_) (fun h2 => .again rfl ⟨n - 1, by omega, q, cq, i + 1, ?_, by omega, hle, hnew, ?_⟩))))) <;> ((try simp only [evE, liE, lO, lU, snd] at h2); (try simp only [cmE] at h2))
    · have hk : k < ts[i].l.length := by omega
      have hst := candsC_take (cs := cs0) hk
      have hcs2 := candsC_le cs0 (ts[i].l.take k)
      rw [List.length_take, Nat.min_eq_left (by omega)] at hcs2
      generalize hcsd : candsC cs0 (ts[i].l.take k) = cs at *
      refine .loadSl (ts.map CR.v) i ts.length ts[i].p ts[i].l.length ts[i].cap hi (by rw [List.getElem?_map, List.getElem?_eq_getElem hi]; rfl) (fun g => ((hT1.le hle).reads g).1) (.env (by (try simp only [liE, lO, lU, snd, aN]); rfl) ?_)
      refine .loadCE ts[i].l k hk (fun g => ((hT1.le hle).reads g).2 _ (List.getElem_mem hi)) ?_
      generalize hxd : ts[i].l[k] = x at *
      refine .env (by (try simp only [liE, lO, lU, snd, aN]); rfl) (.alloc fun b2 => ?_)
      refine .loop (fun n us mm => ∃ j : Nat, us = [.b (decide (x.1 ≠ 2) || (cs.take j).any fun s => s == x.2), .i j] ∧ n + j = cs.length ∧ m2 = mm) cs.length ⟨0, ?_, rfl, rfl⟩ ?_
      · (simp only [evE, liE, lO, lU, snd, Sh.uss, Sh.us, atAddr, map_add0, List.append_nil])
        show [U.b (cm .neq x.1 2), U.i 0] = _
        rw [List.take_zero, List.any_nil, Bool.or_false, show cm .neq x.1 2 = decide (x.1 ≠ 2) by rw [Bool.eq_iff_iff]; simp [cm]]; rfl
      rintro n3 _ _ _ ⟨j, rfl, hnj, rfl⟩
      refine .env (by (try simp only [liE, lO, lU, snd, aN]); rfl) (.chk (by ((try simp only [evE, liE, lO, lU, snd]); (try simp only [cmE])); omega) (.ite (fun h3 => ?_) (fun h3 => ?_))) <;> ((try simp only [evE, liE, lO, lU, snd] at h3); (try simp only [cmE] at h3))
      · have hj : j < cs.length := by omega
        have hany := any_take_succ (p := fun s : Snd => s == x.2) hj
        refine .join (fun us mm => us = [.b (decide (x.1 ≠ 2) || (cs.take (j + 1)).any fun s => s == x.2)] ∧ m2 = mm) (.ite (fun h4 => .again rfl ⟨?_, rfl⟩) (fun h4 => ?_)) ?_
        · replace h4 : (decide (x.1 ≠ 2) || (cs.take j).any fun s => s == x.2) = true := h4
          rw [hany, ← Bool.or_assoc, h4]
          (simp only [evE, liE, lO, lU, snd, Sh.uss, Sh.us, atAddr, map_add0, List.append_nil])
          rfl
        · replace h4 : (decide (x.1 ≠ 2) || (cs.take j).any fun s => s == x.2) = false := h4
          refine .loadW cs j hj (fun g => hR.reads g) (.env (by (try simp only [liE, lO, lU, snd, aN]); rfl) (.again rfl ⟨?_, rfl⟩))
          rw [hany, ← Bool.or_assoc, h4, Bool.false_or]
          (simp only [evE, liE, lO, lU, snd, Sh.uss, Sh.us, atAddr, map_add0, List.append_nil])
          show [U.b (bif cm .eql (cs[j].1 : Int) (x.2.1 : Int) then cm .eql (cs[j].2 : Int) (x.2.2 : Int) else false)] = _
          congr 2
          rw [Bool.eq_iff_iff, beq_iff_eq]
          rw [pick_and, Bool.and_eq_true]
          simp only [cm, decide_eq_true_eq, beq_iff_eq]
          exact ⟨fun h => Prod.ext (by omega) (by omega), fun h => by rw [h]; exact ⟨rfl, rfl⟩⟩
        rintro _ _ _ ⟨rfl, rfl⟩
        refine .env (by (try simp only [liE, lO, lU, snd, aN]); rfl) (.again rfl ⟨n3 - 1, by omega, j + 1, ?_, by omega, rfl⟩)
        (simp only [evE, liE, lO, lU, snd, Sh.uss, Sh.us, atAddr, map_add0, List.append_nil]); rw [add_i64 j (by omega)]
      · rw [List.take_of_length_le (by omega)]
        have hth := addC_there (cs := cs) (x := x) rfl
        rw [hth] at hst
        generalize (decide (x.1 ≠ 2) || cs.any fun s => s == x.2) = there at hst ⊢
        refine .join (fun us mm => ∃ (q : Option Addr) (cq : Nat), us = [.p q, .i (candsC cs0 (ts[i].l.take (k + 1))).length, .i cq] ∧ m1.le mm ∧ NewQ m1 q ∧ Row mm 41 2 q cq (candsC cs0 (ts[i].l.take (k + 1))).length (wcells (candsC cs0 (ts[i].l.take (k + 1))))) (.ite (fun h4 => ?_) (fun h4 => ?_)) ?_
        · replace h4 : (!there) = true := h4
          rw [if_neg (by simpa using h4)] at hst
          rw [hst]
          refine .alloc' fun b3 _ hb3 _ => .append (n := cs.length) (kx := 1) (qx := some ⟨b3, 0, none⟩) (capx := 1) (news := scell x.2) elS hR (fun g => g.cells (j := 3) rfl rfl rfl) rfl (fun u hu => by simp [scell] at hu; rcases hu with rfl | rfl <;> rfl) (fun h => by cases h) (by simp [maxLen]; omega) (by omega) (fun q3 k3 m3 hr3 hk3 hq3 => .again rfl ⟨q3, k3, ?_, keep_new hle hnew hk3, hnew.next hle hq3, ?_⟩)
          · (simp only [evE, liE, lO, lU, snd, Sh.uss, Sh.us, atAddr, map_add0, List.append_nil]); rw [List.length_append]; rfl
          · rw [List.length_append, wcells_snoc]; exact hr3
        · replace h4 : (!there) = false := h4
          rw [if_pos (by simpa using h4)] at hst
          rw [hst]
          exact .again rfl ⟨q, cq, by (simp only [evE, liE, lO, lU, snd, Sh.uss, Sh.us, atAddr, map_add0, List.append_nil]), hle, hnew, hR⟩
        rintro _ m' _ ⟨q3, k3, rfl, hle3, hnew3, hR3⟩
        refine .env (by (try simp only [liE, lO, lU, snd, aN]); rfl) (.again rfl ⟨n2 - 1, by omega, q3, k3, k + 1, ?_, by omega, hle3, hnew3, hR3⟩)
        (simp only [evE, liE, lO, lU, snd, Sh.uss, Sh.us, atAddr, map_add0, List.append_nil]); rw [add_i64 k (by omega)]
    · rw [show (cols.take (i + 1)).foldl candsC [] = candsC cs0 ts[i].l from hstep, List.take_of_length_le (by omega)]
      (simp only [evE, liE, lO, lU, snd, Sh.uss, Sh.us, atAddr, map_add0, List.append_nil]); rw [add_i64 i (by omega)]
    · rw [show (cols.take (i + 1)).foldl candsC [] = candsC cs0 ts[i].l from hstep]
      rw [List.take_of_length_le (by omega)] at hR
      exact hR
  obtain rfl : i = cols.length := by omega
  rw [List.take_length] at hR ⊢
  change Row m 41 2 q cq (candsE cols).length (wcells (candsE cols)) at hR
  rw [show cols.foldl candsC [] = candsE cols from rfl]
  have hC := candsE_ok hCo
  have hK := colsOk_cols hCo hll.symm
  have hsw := fun w0 => same_word (w0 := w0) hAl hE hll.symm
  have hknown := candsE_known hCo
  have hcs := cands_le (n := 5) (cols := cols) (cs := []) (fun x hx => by rw [hCo.len x hx]; exact hAl.five)
  change (candsE cols).length ≤ _ at hcs
  rw [List.length_nil, Nat.zero_add] at hcs
  generalize candsE cols = cs at *
  have hWd := c_Word p q1 q pw cp c1 cq cw t ts cs ws gap hE h8 hn hR.cap_le (by omega) hC hAl.costs (by rw [hcd]; exact hK)
  rw [hcd] at hWd
  refine .callE hWd (fun g => ⟨hp.1.mono g.R, (hT1.le hle).reads g, hR.reads g, hp.2.2.1.mono g.R, hp.2.2.2.1.mono g.R⟩) ?_
  rintro v mq2 mB hleB hleB2 ⟨qw, cqw, rfl, hW⟩
  replace hW := Row.le hW hleB2
  have hTB := hT1.le (hle.trans hleB)
  have hRB := Row.le hR hleB
  have hLB := Row.le hL0 (hle.trans hleB)
  have hRcap := hR.cap_le
  clear hWd hleB2 hT1 hR hL0
  refine ⟨[.p qw, .i (wordR cs t ws gap cols).1.length, .i cqw, .i (wordR cs t ws gap cols).2.1, .i (wordR cs t ws gap cols).2.2], uOk_of rfl, rfl, .env (by (try simp only [liE, lO, lU, snd, aN]); rfl) ?_⟩
  refine .join (fun us mm => ∃ b : Bool, us = [.b b] ∧ mB = mm ∧ (b = false → cs.length ≠ 0 ∧ cs.length ≤ 4 ∧ (wordR cs t ws gap cols).2.2 ≠ 7 ∧ (wordR cs t ws gap cols).2.2 ≠ 11)) (.chk (by ((try simp only [evE, liE, lO, lU, snd]); (try simp only [cmE])); omega) (.ite (fun h2 => .again rfl ⟨true, by (simp only [evE, liE, lO, lU, snd, Sh.uss, Sh.us, atAddr, map_add0, List.append_nil]) <;> rfl, rfl, nofun⟩) (fun h2 => .chk (by ((try simp only [evE, liE, lO, lU, snd]); (try simp only [cmE])); omega) (.again rfl ⟨_, by (simp only [evE, liE, lO, lU, snd, Sh.uss, Sh.us, atAddr, map_add0, List.append_nil]) <;> rfl, rfl, fun h3 => ?_⟩)))) ?_
  · ((try simp only [evE, liE, lO, lU, snd] at h2); (try simp only [cmE] at h2))
    replace h3 : (bif (bif cm .gtr (cs.length : Int) 4 then true else cm .eql (wordR cs t ws gap cols).2.2 7) then true else cm .eql (wordR cs t ws gap cols).2.2 11) = false := h3
    rw [pick_or, pick_or, Bool.or_eq_false_iff, Bool.or_eq_false_iff] at h3
    obtain ⟨⟨h4, h5⟩, h6⟩ := h3
    simp [cm] at h4 h5 h6
    exact ⟨by omega, by omega, h5, h6⟩
  rintro _ _ _ ⟨b, rfl, rfl, hb⟩
  refine .env (by (try simp only [liE, lO, lU, snd, aN]); rfl) (.ite (fun h1 => .callV hw24 (fun g => hp.2.2.2.1.mono g.R) (.env (by (try simp only [liE, lO, lU, snd, aN]); rfl) (.ret rfl rfl))) (fun h1 => ?_))
  replace h1 : b = false := h1
  obtain ⟨k1, k2, k3, k4⟩ := hb h1
  subst h1
  obtain ⟨hme, hWR⟩ := wordR_ok k1 k2 k3 k4
  rw [hWR] at hW ⊢
  dsimp only at hW ⊢
  have hM := matM_ok hAl.costs hme
  have hrc := matM_len cs ws gap
  replace hsw := fun w0 => hsw w0 hme
  generalize hrm : matM cs ws gap = rm at *
  refine .no rfl ?_
  have hwS := wordS_le cs t rm cols
  generalize hwn : wordN cs t rm cols = wn at *
  generalize hwsd : wordS cs t rm cols = wsd at *
  -- the cost with a word at all inner nodes
  refine .loop (fun n us mm => ∃ (x : Bool) (k : Nat), us = [.b x, .i k] ∧ n + k = (leavesL t).length ∧ mB.le mm) (leavesL t).length ⟨false, 0, by (simp only [evE, liE, lO, lU, snd, Sh.uss, Sh.us, atAddr, map_add0, List.append_nil]) <;> rfl, rfl, Mem.le.refl _⟩ ?_
  rintro n _ m2 _ ⟨x, k, rfl, hnk, hle2⟩
  refine .env (by (try simp only [liE, lO, lU, snd, aN]); rfl) (.chk (by ((try simp only [evE, liE, lO, lU, snd]); (try simp only [cmE])); omega) (.ite (fun h2 => ?_) (fun h2 => ?_))) <;> ((try simp only [evE, liE, lO, lU, snd] at h2); (try simp only [cmE] at h2))
  · have hk : k < l.length := by omega
    refine .join (fun us mm => ∃ x : Bool, us = [.b x] ∧ mB.le mm) (.loadHas l k hk (fun g => hp.2.1.1.mono g.R) (.env (by (try simp only [liE, lO, lU, snd, aN]); rfl) (.ite (fun h3 => .again rfl ⟨x, by (simp only [evE, liE, lO, lU, snd, Sh.uss, Sh.us, atAddr, map_add0, List.append_nil]), hle2⟩) (fun h3 => ?_)))) ?_
    · replace h3 : (!l[k].has) = false := h3
      have hbk : hasB l k = true := by rw [hasB_at hk]; simpa using h3
      refine .loop (fun n us mm => ∃ (x : Bool) (S : Int) (i : Nat), us = [.b x, .i S, .i i] ∧ n + i = ts.length ∧ mB.le mm ∧ wordN cs t rm (cols.take i) ≤ S ∧ 0 ≤ S ∧ S ≤ (i : Int) * 8589934592) ts.length ⟨x, 0, 0, by (simp only [evE, liE, lO, lU, snd, Sh.uss, Sh.us, atAddr, map_add0, List.append_nil]) <;> rfl, rfl, hle2, Int.le_refl 0, Int.le_refl 0, by simp⟩ ?_
      clear hle2
      rintro n2 _ m3 _ ⟨x, S, i, rfl, hni, hle2, hS, hS0, hS1⟩
      refine .env (by (try simp only [liE, lO, lU, snd, aN]); rfl) (.chk (by ((try simp only [evE, liE, lO, lU, snd]); (try simp only [cmE])); omega) (.ite (fun h4 => ?_) (fun h4 => ?_))) <;> ((try simp only [evE, liE, lO, lU, snd] at h4); (try simp only [cmE] at h4))
      · have hi : i < ts.length := by omega
        have hic : i < cols.length := by omega
        have hcm := hrow i hi
        have hclen := hCo.len _ hcm
        have hkc : k < ts[i].l.length := by omega
        have hkn := hknown _ hcm
        have hy0 : (ts[i].l[k]).1 ≠ 0 := (hCo.has _ hcm k _ (List.getElem?_eq_getElem hkc)).2 hbk
        have hym : ts[i].l[k] ∈ ts[i].l := List.getElem_mem hkc
        have hbest := best_le (rm := rm) (cs := cs) hE hrc (by rw [hclen]; exact hll.symm) hkn hym hy0
        have hstep : wordN cs t rm (cols.take (i + 1)) = wordN cs t rm (cols.take i) + bestN cs t rm ts[i].l := by
          rw [List.take_succ_eq_append_getElem hic, hcol i hi, wordN_append]
          congr 1; exact Int.add_zero _
        have hall := allS_mem (t := t) (col := ts[i].l) (y := ts[i].l[k]) (p := fun z => knownCE cs z ∧ z.1 ≠ 0) ⟨hkn _ hym, hy0⟩ (fun z hz h0 => ⟨hkn z hz, h0⟩) (Nat.le_refl _)
        have hub := upE_bound t hM ((allS t ts[i].l ts[i].l[k] ts[i].l.length).map (stateE cs)) t.length
        change 0 ≤ changeE t rm _ ∧ changeE t rm _ ≤ _ at hub
        have hld : ∀ {ρ : Env} {blks : List Blk} {mm : Mem} {L : List Nat}, mB.le mm → Go.Sy.Good c L mm → CellsAt (vw c L ρ blks mm) q1 ts := fun h g => (hTB.le h).reads g
        refine .chk (by ((try simp only [evE, liE, lO, lU, snd]); (try simp only [cmE])); omega) (.makeN (t := 38) (z := _) t.length (ccells (List.replicate t.length (0, (0, 0)))) (by kernel_rfl) cell_info (made_cells _) (by omega) (by simp [maxLen]; omega) (fun g3 hg3 hrow3 => ?_))
        rw [← fillC_zero t.length ts[i].l[k]] at hrow3
        have hgB : mB g3 = none := by
          cases h : mB g3 with
          | none => rfl
          | some o => rw [hle2 _ _ h] at hg3; cases hg3
        have hle3 : mB.le (m3.upd g3 (.cells (madeCells (Value.agg #[.int .i64 0, .int .u32 0, .int .u32 0]).cells (t.length * 3)) 43 (0, 0))) := fun b o hb => by
          rw [Mem.upd_other _ _ (fun e => by rw [e, hgB] at hb; cases hb)]; exact hle2 b o hb
        have far : ∀ {mm mm' : Mem}, mB.le mm → (∀ b, b ≠ g3 → mm' b = mm b) → mB.le mm' := fun h1 h2 b o hb => by
          rw [h2 b (fun e => by rw [e, hgB] at hb; cases hb)]; exact h1 b o hb
        refine .env (by (try simp only [liE, lO, lU, snd, aN]); rfl) ?_
        refine .loop (fun n us mm => ∃ v : Nat, us = [.i v] ∧ n + v = t.length ∧ Row mm 43 3 (some ⟨g3, 0, none⟩) t.length t.length (ccells (fillC t.length ts[i].l[k] v)) ∧ mB.le mm) t.length ⟨0, by (simp only [evE, liE, lO, lU, snd, Sh.uss, Sh.us, atAddr, map_add0, List.append_nil]) <;> rfl, rfl, hrow3, hle3⟩ ?_
        clear hrow3 hle3
        rintro n3 _ m4 _ ⟨v, rfl, hnv, hrow3, hle3⟩
        refine .env (by (try simp only [liE, lO, lU, snd, aN]); rfl) (.chk (by ((try simp only [evE, liE, lO, lU, snd]); (try simp only [cmE])); omega) (.ite (fun h5 => ?_) (fun h5 => ?_))) <;> ((try simp only [evE, liE, lO, lU, snd] at h5); (try simp only [cmE] at h5))
        · have hv : v < t.length := by omega
          have hfs := fillC_set ts[i].l[k] hv
          refine .loadSl (ts.map CR.v) i ts.length ts[i].p ts[i].l.length ts[i].cap hi (by rw [List.getElem?_map, List.getElem?_eq_getElem hi]; rfl) (fun g => (hld hle3 g).1) (.env (by (try simp only [liE, lO, lU, snd, aN]); rfl) ?_)
          refine .loadCE ts[i].l k hkc (fun g => (hld hle3 g).2 _ (List.getElem_mem hi)) ?_
          generalize ts[i].l[k] = y at hfs hrow3 ⊢
          refine .env (by (try simp only [liE, lO, lU, snd, aN]); rfl) (.storeCE v y (by rw [fillC_len]; exact hv) (w := fillC t.length y v) (by rw [fillC_len]; exact hrow3) rfl rfl rfl (by rw [fillC_len]; rfl) (fun m5 g5 hg5 hr5 hs5 => .again rfl ⟨n3 - 1, by omega, v + 1, ?_, by omega, ?_, ?_⟩))
          · (simp only [evE, liE, lO, lU, snd, Sh.uss, Sh.us, atAddr, map_add0, List.append_nil]); rw [add_i64 v (by omega)]
          · rw [fillC_len, hfs] at hr5; exact hr5
          · cases hg5; exact far hle3 hs5
        · obtain rfl : v = t.length := by omega
          rw [fillC_end] at hrow3
          refine .loop (fun n us mm => ∃ (x : Bool) (j : Nat), us = [.b x, .i j] ∧ n + j = (leavesL t).length ∧ Row mm 43 3 (some ⟨g3, 0, none⟩) t.length t.length (ccells (allS t ts[i].l ts[i].l[k] j)) ∧ mB.le mm) (leavesL t).length ⟨x, 0, by (simp only [evE, liE, lO, lU, snd, Sh.uss, Sh.us, atAddr, map_add0, List.append_nil]) <;> rfl, rfl, hrow3, hle3⟩ ?_
          clear hrow3 hle3
          rintro n4 _ m5 _ ⟨x, j, rfl, hnj, hrow3, hle3⟩
          refine .env (by (try simp only [liE, lO, lU, snd, aN]); rfl) (.chk (by ((try simp only [evE, liE, lO, lU, snd]); (try simp only [cmE])); omega) (.ite (fun h6 => ?_) (fun h6 => ?_))) <;> ((try simp only [evE, liE, lO, lU, snd] at h6); (try simp only [cmE] at h6))
          · have hj : j < (leavesL t).length := by omega
            have hjc : j < ts[i].l.length := by omega
            obtain ⟨v, hv, hvt⟩ := lmem j hj
            have hLat : (intsL (leavesL t))[j]? = some (.int .i64 v) := by rw [intsL_at _ j hj, hv]
            have hLm := Row.le hLB hle3
            have hal : allS t ts[i].l ts[i].l[k] (j + 1) = if ts[i].l[j].1 ≠ 0 then (allS t ts[i].l ts[i].l[k] j).set v ts[i].l[j] else allS t ts[i].l ts[i].l[k] j := by
              show (if _ then _ else _) = _
              rw [getD_at _ _ _ hjc, hv, Int.toNat_natCast]
            refine .join (fun us mm => us = [.b false] ∧ m5 = mm) (.elem1 (.int .i64 v) (intsL (leavesL t)) j (leavesL t).length rfl rfl hj (fun g => hLm.reads g) hLat (.env (by (try simp only [liE, lO, lU, snd, aN]); rfl) (.no (by ((try simp only [evE, liE, lO, lU, snd]); (try simp only [cmE])); omega) (.elem1 (.int .i64 v) (intsL (leavesL t)) j (leavesL t).length rfl rfl hj (fun g => hLm.reads g) hLat (.env (by (try simp only [liE, lO, lU, snd, aN]); rfl) (.chk (by ((try simp only [evE, liE, lO, lU, snd]); (try simp only [cmE])); omega) (.again rfl ⟨?_, rfl⟩))))))) ?_
            · (simp only [evE, liE, lO, lU, snd, Sh.uss, Sh.us, atAddr, map_add0, List.append_nil])
              show [U.b (cm .geq (v : Int) t.length)] = _
              rw [show cm .geq (v : Int) t.length = false by simp [cm]; omega]
            rintro _ _ _ ⟨rfl, rfl⟩
            refine .env (by (try simp only [liE, lO, lU, snd, aN]); rfl) (.no rfl ?_)
            refine .loadSl (ts.map CR.v) i ts.length ts[i].p ts[i].l.length ts[i].cap hi (by rw [List.getElem?_map, List.getElem?_eq_getElem hi]; rfl) (fun g => (hld hle3 g).1) (.env (by (try simp only [liE, lO, lU, snd, aN]); rfl) ?_)
            refine .loadCK ts[i].l j hjc (fun g => (hld hle3 g).2 _ (List.getElem_mem hi)) (.env (by (try simp only [liE, lO, lU, snd, aN]); rfl) ?_)
            refine .join (fun us mm => us = [] ∧ Row mm 43 3 (some ⟨g3, 0, none⟩) t.length t.length (ccells (allS t ts[i].l ts[i].l[k] (j + 1))) ∧ mB.le mm) (.ite (fun h7 => ?_) (fun h7 => ?_)) ?_
            · ((try simp only [evE, liE, lO, lU, snd] at h7); (try simp only [cmE] at h7))
              rw [if_pos h7] at hal
              rw [hal]
              refine .elem1 (.int .i64 v) (intsL (leavesL t)) j (leavesL t).length rfl rfl hj (fun g => hLm.reads g) hLat (.env (by (try simp only [liE, lO, lU, snd, aN]); rfl) ?_)
              refine .loadSl (ts.map CR.v) i ts.length ts[i].p ts[i].l.length ts[i].cap hi (by rw [List.getElem?_map, List.getElem?_eq_getElem hi]; rfl) (fun g => (hld hle3 g).1) (.env (by (try simp only [liE, lO, lU, snd, aN]); rfl) ?_)
              refine .loadCE ts[i].l j hjc (fun g => (hld hle3 g).2 _ (List.getElem_mem hi)) ?_
              have hallen := allS_len t ts[i].l ts[i].l[k] j
              generalize allS t ts[i].l ts[i].l[k] j = A at hallen hrow3 ⊢
              generalize ts[i].l[j] = z
              rw [← hallen] at hrow3
              refine .env (by (try simp only [liE, lO, lU, snd, aN]); rfl) (.storeCE v z (by omega) (w := A) (cap := A.length) hrow3 rfl rfl rfl (by rw [hallen]; rfl) (fun m6 g6 hg6 hr6 hs6 => .again rfl ⟨rfl, ?_, ?_⟩))
              · rw [hallen] at hr6; exact hr6
              · cases hg6; exact far hle3 hs6
            · ((try simp only [evE, liE, lO, lU, snd] at h7); (try simp only [cmE] at h7))
              rw [if_neg (by simpa using h7)] at hal
              rw [hal]
              exact .again rfl ⟨rfl, hrow3, hle3⟩
            rintro _ m6 _ ⟨rfl, hrow6, hle6⟩
            refine .env (by (try simp only [liE, lO, lU, snd, aN]); rfl) (.again rfl ⟨n4 - 1, by omega, x, j + 1, ?_, by omega, hrow6, hle6⟩)
            (simp only [evE, liE, lO, lU, snd, Sh.uss, Sh.us, atAddr, map_add0, List.append_nil]); rw [add_i64 j (by omega)]
          · obtain rfl : j = ts[i].l.length := by omega
            have hallen := allS_len t ts[i].l ts[i].l[k] ts[i].l.length
            have hco := c_protoCost p (some ⟨g3, 0, none⟩) q pw cp t.length cq cw t (allS t ts[i].l ts[i].l[k] ts[i].l.length) cs ws gap hE hn hRcap (by omega) hC hAl.costs hme hallen hall
            rw [hrm, hallen] at hco
            generalize allS t ts[i].l ts[i].l[k] ts[i].l.length = A at *
            generalize changeE t rm (A.map (stateE cs)) = cost at *
            refine .callV hco (fun g => ⟨hp.1.mono g.R, hrow3.reads g, (Row.le hRB hle3).reads g, hp.2.2.1.mono g.R, hp.2.2.2.1.mono g.R⟩) (.env (by (try simp only [liE, lO, lU, snd, aN]); rfl) (.no rfl (.again rfl ⟨n2 - 1, by omega, x, S + cost, i + 1, ?_, by omega, hle3, by omega, by omega, by omega⟩)))
            (simp only [evE, liE, lO, lU, snd, Sh.uss, Sh.us, atAddr, map_add0, List.append_nil]); rw [add_i64 i (by omega), addI (by omega) (by omega)]
      · rw [List.take_of_length_le (by omega), hwn] at hS
        refine .no (by ((try simp only [evE, liE, lO, lU, snd]); (try simp only [cmE])); omega) (.again rfl ⟨x, by (simp only [evE, liE, lO, lU, snd, Sh.uss, Sh.us, atAddr, map_add0, List.append_nil]), hle2⟩)
    rintro _ m3 _ ⟨x3, rfl, hle3⟩
    refine .env (by (try simp only [liE, lO, lU, snd, aN]); rfl) (.again rfl ⟨n - 1, by omega, x3, k + 1, ?_, by omega, hle3⟩)
    (simp only [evE, liE, lO, lU, snd, Sh.uss, Sh.us, atAddr, map_add0, List.append_nil]); rw [add_i64 k (by omega)]
  clear hnk h2
  -- words that are all the same
  refine .join (fun us mm => us = [.b (decide (0 < gap) && decide (ws.length = 24))] ∧ m2 = mm) (.ite (fun h3 => .chk (by ((try simp only [evE, liE, lO, lU, snd]); (try simp only [cmE])); omega) (.again rfl ⟨?_, rfl⟩)) (fun h3 => .again rfl ⟨?_, rfl⟩)) ?_
  · ((try simp only [evE, liE, lO, lU, snd] at h3); (try simp only [cmE] at h3))
    rw [decide_eq_true (by omega), Bool.true_and]
    (simp only [evE, liE, lO, lU, snd, Sh.uss, Sh.us, atAddr, map_add0, List.append_nil])
    show [U.b (cm .eql (ws.length : Int) 24)] = _
    congr 2
    rw [Bool.eq_iff_iff]
    simp [cm]
    omega
  · ((try simp only [evE, liE, lO, lU, snd] at h3); (try simp only [cmE] at h3))
    rw [decide_eq_false (by omega)]
    (simp only [evE, liE, lO, lU, snd, Sh.uss, Sh.us, atAddr, map_add0, List.append_nil])
    rfl
  rintro _ _ _ ⟨rfl, rfl⟩
  generalize hbd : (decide (0 < gap) && decide (ws.length = 24)) = bs
  refine .env (by (try simp only [liE, lO, lU, snd, aN]); rfl) ?_
  refine .loop (fun n us mm => ∃ j : Nat, us = [.b (bs && (ws.take j).all fun w => decide (0 < w)), .i j] ∧ n + j = ws.length ∧ mB.le mm) ws.length ⟨0, by (simp only [evE, liE, lO, lU, snd, Sh.uss, Sh.us, atAddr, map_add0, List.append_nil]); rw [List.take_zero, List.all_nil, Bool.and_true]; rfl, rfl, hle2⟩ ?_
  clear hle2
  rintro n2 _ m3 _ ⟨j, rfl, hnj, hle2⟩
  refine .env (by (try simp only [liE, lO, lU, snd, aN]); rfl) (.chk (by ((try simp only [evE, liE, lO, lU, snd]); (try simp only [cmE])); omega) (.ite (fun h3 => ?_) (fun h3 => ?_))) <;> ((try simp only [evE, liE, lO, lU, snd] at h3); (try simp only [cmE] at h3))
  · have hj : j < ws.length := by omega
    have hall : (ws.take (j + 1)).all (fun w => decide (0 < w)) = ((ws.take j).all (fun w => decide (0 < w)) && decide (0 < ws[j])) := by
      rw [List.take_succ_eq_append_getElem hj, List.all_append]; simp
    refine .join (fun us mm => us = [.b (bs && (ws.take (j + 1)).all fun w => decide (0 < w))] ∧ m3 = mm) (.ite (fun h4 => ?_) (fun h4 => .again rfl ⟨?_, rfl⟩)) ?_
    · replace h4 : (bs && (ws.take j).all fun w => decide (0 < w)) = true := h4
      refine .elem1 (.int .i64 ws[j]) (ws.map (.int .i64)) j ws.length rfl rfl hj (fun g => hp.2.2.1.mono g.R) (by rw [List.getElem?_map, List.getElem?_eq_getElem hj]; rfl) (.env (by (try simp only [liE, lO, lU, snd, aN]); rfl) (.again rfl ⟨?_, rfl⟩))
      rw [hall, ← Bool.and_assoc, h4, Bool.true_and]
      (simp only [evE, liE, lO, lU, snd, Sh.uss, Sh.us, atAddr, map_add0, List.append_nil])
      rfl
    · replace h4 : (bs && (ws.take j).all fun w => decide (0 < w)) = false := h4
      rw [hall, ← Bool.and_assoc, h4, Bool.false_and]
      (simp only [evE, liE, lO, lU, snd, Sh.uss, Sh.us, atAddr, map_add0, List.append_nil])
    rintro _ _ _ ⟨rfl, rfl⟩
    refine .env (by (try simp only [liE, lO, lU, snd, aN]); rfl) (.again rfl ⟨n2 - 1, by omega, j + 1, ?_, by omega, hle2⟩)
    (simp only [evE, liE, lO, lU, snd, Sh.uss, Sh.us, atAddr, map_add0, List.append_nil]); rw [add_i64 j (by omega)]
  rw [List.take_of_length_le (by omega)]
  generalize hbd2 : (bs && ws.all fun w => decide (0 < w)) = base
  refine .loop (fun n us mm => ∃ (s sm : Bool) (fw : WD) (k : Nat), us = [.b s, .p fw.p, .i fw.w.length, .i fw.cap, .b sm, .i k] ∧ n + k = l.length ∧ mB.le mm ∧ WordAt c.R fw.p fw.w ∧ fw.w.length < 2 ^ 45 ∧ (s = true → base = true ∧ ∀ i (hi : i < l.length), i < k → l[i].has = true → l[i].w.w = fw.w) ∧ (sm = true → ∃ f ∈ l, f.has = true) ∧ (sm = false → ∀ i (hi : i < l.length), i < k → l[i].has = false)) l.length
    ⟨base, false, ⟨none, 0, []⟩, 0, by (simp only [evE, liE, lO, lU, snd, Sh.uss, Sh.us, atAddr, map_add0, List.append_nil]) <;> rfl, rfl, hle2, (fun i x hx => by simp [wcells] at hx), by decide, fun h => ⟨h, fun i hi h => by omega⟩, nofun, fun _ i hi h => by omega⟩ ?_
  clear hle2 hnj h3
  rintro n3 _ m4 _ ⟨s, sm, fw, k, rfl, hnk, hle2, hfw, hfl, hs, hsm, hsn⟩
  refine .env (by (try simp only [liE, lO, lU, snd, aN]); rfl) (.chk (by ((try simp only [evE, liE, lO, lU, snd]); (try simp only [cmE])); omega) (.ite (fun h3 => ?_) (fun h3 => ?_))) <;> ((try simp only [evE, liE, lO, lU, snd] at h3); (try simp only [cmE] at h3))
  · have hk : k < l.length := by omega
    have hwk : WordAt c.R l[k].w.p l[k].w.w := hp.2.1.2 _ (List.getElem_mem hk)
    have hwkl := hwl _ (List.getElem_mem hk)
    refine .join (fun us mm => ∃ (s sm : Bool) (fw : WD), us = [.b s, .p fw.p, .i fw.w.length, .i fw.cap, .b sm] ∧ mB.le mm ∧ WordAt c.R fw.p fw.w ∧ fw.w.length < 2 ^ 45 ∧ (s = true → base = true ∧ ∀ i (hi : i < l.length), i < k + 1 → l[i].has = true → l[i].w.w = fw.w) ∧ (sm = true → ∃ f ∈ l, f.has = true) ∧ (sm = false → ∀ i (hi : i < l.length), i < k + 1 → l[i].has = false))
      (.loadHas l k hk (fun g => hp.2.1.1.mono g.R) (.env (by (try simp only [liE, lO, lU, snd, aN]); rfl) (.ite (fun h4 => ?_) (fun h4 => .ite (fun h5 => .ite (fun h6 => ?_) (fun h6 => ?_)) (fun h5 => ?_))))) ?_
    · replace h4 : (!l[k].has) = true := h4
      have h4' : l[k].has = false := by simpa using h4
      refine .again rfl ⟨s, sm, fw, by (simp only [evE, liE, lO, lU, snd, Sh.uss, Sh.us, atAddr, map_add0, List.append_nil]), hle2, hfw, hfl, fun h => ⟨(hs h).1, fun i hi hik hh => ?_⟩, hsm, fun h i hi hik => ?_⟩
      · by_cases e : i = k
        · subst e; rw [h4'] at hh; cases hh
        · exact (hs h).2 i hi (by omega) hh
      · by_cases e : i = k
        · subst e; exact h4'
        · exact hsn h i hi (by omega)
    · replace h4 : (!l[k].has) = false := h4
      have h4' : l[k].has = true := by simpa using h4
      replace h5 : s = true := h5
      replace h6 : (!sm) = true := h6
      have h6' : sm = false := by simpa using h6
      refine .loadFW l k hk (fun g => hp.2.1.1.mono g.R) (.env (by (try simp only [liE, lO, lU, snd, aN]); rfl) (.again rfl ⟨true, true, l[k].w, by (simp only [evE, liE, lO, lU, snd, Sh.uss, Sh.us, atAddr, map_add0, List.append_nil]) <;> rfl, hle2, hwk, hwkl, fun _ => ⟨(hs h5).1, fun i hi hik hh => ?_⟩, fun _ => ⟨l[k], List.getElem_mem hk, h4'⟩, nofun⟩))
      by_cases e : i = k
      · subst e; rfl
      · rw [hsn h6' i hi (by omega)] at hh; cases hh
    · replace h4 : (!l[k].has) = false := h4
      have h4' : l[k].has = true := by simpa using h4
      replace h5 : s = true := h5
      refine .loadFW l k hk (fun g => hp.2.1.1.mono g.R) (.env (by (try simp only [liE, lO, lU, snd, aN]); rfl) ?_)
      refine .callV (c_wordEqual fw.p l[k].w.p fw.cap l[k].w.cap fw.w l[k].w.w (by omega)) (fun g => ⟨hfw.mono g.R, hwk.mono g.R⟩) (.env (by (try simp only [liE, lO, lU, snd, aN]); rfl) ?_)
      refine .loadFW l k hk (fun g => hp.2.1.1.mono g.R) (.env (by (try simp only [liE, lO, lU, snd, aN]); rfl) (.again rfl ⟨decide (fw.w = l[k].w.w), true, l[k].w, by (simp only [evE, liE, lO, lU, snd, Sh.uss, Sh.us, atAddr, map_add0, List.append_nil]) <;> rfl, hle2, hwk, hwkl, fun h => ⟨(hs h5).1, fun i hi hik hh => ?_⟩, fun _ => ⟨l[k], List.getElem_mem hk, h4'⟩, nofun⟩))
      by_cases e : i = k
      · subst e; rfl
      · rw [(hs h5).2 i hi (by omega) hh]; simpa using h
    · replace h4 : (!l[k].has) = false := h4
      have h4' : l[k].has = true := by simpa using h4
      exact .loadFW l k hk (fun g => hp.2.1.1.mono g.R) (.env (by (try simp only [liE, lO, lU, snd, aN]); rfl) (.again rfl ⟨false, true, l[k].w, by (simp only [evE, liE, lO, lU, snd, Sh.uss, Sh.us, atAddr, map_add0, List.append_nil]) <;> rfl, hle2, hwk, hwkl, nofun, fun _ => ⟨l[k], List.getElem_mem hk, h4'⟩, nofun⟩))
    rintro _ m5 _ ⟨s2, sm2, fw2, rfl, r1, r2, r3, r4, r5, r6⟩
    refine .env (by (try simp only [liE, lO, lU, snd, aN]); rfl) (.again rfl ⟨n3 - 1, by omega, s2, sm2, fw2, k + 1, ?_, by omega, r1, r2, r3, r4, r5, r6⟩)
    (simp only [evE, liE, lO, lU, snd, Sh.uss, Sh.us, atAddr, map_add0, List.append_nil]); rw [add_i64 k (by omega)]
  refine .join (fun us _ => us = [.b true]) (.ite (fun h4 => ?_) (fun h4 => .callV hw24 (fun g => hp.2.2.2.1.mono g.R) (.env (by (try simp only [liE, lO, lU, snd, aN]); rfl) (.again rfl (by (simp only [evE, liE, lO, lU, snd, Sh.uss, Sh.us, atAddr, map_add0, List.append_nil])))))) ?_
  · replace h4 : (!(bif !s then true else !sm)) = true := h4
    have h5 : s = true ∧ sm = true := by cases s <;> cases sm <;> simp_all
    obtain ⟨hb1, hb2⟩ := hs h5.1
    rw [← hbd2, ← hbd, Bool.and_eq_true, Bool.and_eq_true, decide_eq_true_eq, decide_eq_true_eq, List.all_eq_true] at hb1
    obtain ⟨⟨hb3, hb4⟩, hb5⟩ := hb1
    obtain ⟨hw1, hw2⟩ := hsw fw.w hb3 hb4 (fun w hw => by simpa using hb5 w hw) (fun f hf hh => by
      obtain ⟨i, hi, rfl⟩ := List.mem_iff_getElem.1 hf
      exact hb2 i hi (by omega) hh) (hsm h5.2)
    have hWm := Row.le hW hle2
    refine .yes (by ((try simp only [evE, liE, lO, lU, snd]); (try simp only [cmE])); exact hw1) (.callV (c_wordEqual qw fw.p cqw fw.cap wsd fw.w (by omega)) (fun g => ⟨hWm.reads g, hfw.mono g.R⟩) ?_)
    rw [decide_eq_true hw2]
    exact .env (by (try simp only [liE, lO, lU, snd, aN]); rfl) (.yes rfl (.callV hw24 (fun g => hp.2.2.2.1.mono g.R) (.env (by (try simp only [liE, lO, lU, snd, aN]); rfl) (.again rfl (by (simp only [evE, liE, lO, lU, snd, Sh.uss, Sh.us, atAddr, map_add0, List.append_nil]))))))
  rintro _ m5 _ rfl
  exact .env (by (try simp only [liE, lO, lU, snd, aN]); rfl) (.ret rfl rfl)
end Go.Proofs.YtkhcfbdjmpodbaaDoor
