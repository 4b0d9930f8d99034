/- EditNearest: what the law's code answers. -/
import Derived.Test.YtedfogpnmpmggaaDoorHf
import Derived.Test.YtedfogpnmpmggaaDoorHe
set_option linter.unusedSimpArgs false
set_option linter.unusedVariables false
namespace Go.Sy
/-- The nearest is the first of the smallest. -/
theorem nearGo_min (pre ds : List Int) (k p : Nat) (best : Int) (hk : k = pre.length) (h : k ≠ 0 → p < k ∧ pre[p]? = some best ∧ (∀ (t : Nat) v, pre[t]? = some v → best ≤ v) ∧ ∀ (t : Nat) v, t < p → pre[t]? = some v → v ≠ best) (hne : pre ++ ds ≠ []) :
    (nearGo k p best ds).1 < (pre ++ ds).length ∧ (pre ++ ds)[(nearGo k p best ds).1]? = some (nearGo k p best ds).2 ∧ (∀ (t : Nat) v, (pre ++ ds)[t]? = some v → (nearGo k p best ds).2 ≤ v) ∧ ∀ (t : Nat) v, t < (nearGo k p best ds).1 → (pre ++ ds)[t]? = some v → v ≠ (nearGo k p best ds).2 := by
  induction ds generalizing pre k p best with
  | nil =>
    rw [nearGo, List.append_nil]
    have hk0 : k ≠ 0 := fun e => hne (by rw [List.append_nil]; exact List.length_eq_zero_iff.1 (by omega))
    obtain ⟨h1, h2, h3, h4⟩ := h hk0
    exact ⟨by simp only []; omega, h2, h3, h4⟩
  | cons d ds ih =>
    have e : pre ++ d :: ds = (pre ++ [d]) ++ ds := by simp
    rw [nearGo, e]
    have hl : (pre ++ [d]).length = k + 1 := by simp; omega
    have hcase : ∀ (t : Nat) v, (pre ++ [d])[t]? = some v → (t < k ∧ pre[t]? = some v) ∨ (t = k ∧ v = d) := fun t v hv => by
      rcases Nat.lt_or_ge t k with ht | ht
      · left; rw [List.getElem?_append_left (by omega)] at hv; exact ⟨ht, hv⟩
      · right
        have := (List.getElem?_eq_some_iff.1 hv).1
        have ht' : t = k := by omega
        rw [List.getElem?_append_right (by omega), ht', hk, Nat.sub_self] at hv
        simp at hv
        exact ⟨ht', hv.symm⟩
    by_cases hc : k = 0 ∨ d < best
    · rw [if_pos hc]
      refine ih (pre ++ [d]) (k + 1) k d (by omega) (fun _ => ⟨by omega, by rw [List.getElem?_append_right (by omega), hk, Nat.sub_self]; rfl, fun t v hv => ?_, fun t v ht hv => ?_⟩) (by simp)
      · rcases hcase t v hv with ⟨ht, hv'⟩ | ⟨_, rfl⟩
        · have := (h (by omega)).2.2.1 t v hv'
          omega
        · omega
      · rcases hcase t v hv with ⟨ht, hv'⟩ | ⟨e', _⟩
        · have := (h (by omega)).2.2.1 t v hv'
          omega
        · omega
    · rw [if_neg hc]
      obtain ⟨h1, h2, h3, h4⟩ := h (by omega)
      refine ih (pre ++ [d]) (k + 1) p best (by omega) (fun _ => ⟨by omega, by rw [List.getElem?_append_left (by omega)]; exact h2, fun t v hv => ?_, fun t v ht hv => ?_⟩) (by simp)
      · rcases hcase t v hv with ⟨ht, hv'⟩ | ⟨_, rfl⟩
        · exact h3 t v hv'
        · omega
      · rcases hcase t v hv with ⟨ht', hv'⟩ | ⟨e', _⟩
        · exact h4 t v ht hv'
        · omega
end Go.Sy
namespace Go.Proofs.YtedfogpnmpmggaaDoor
open Go Go.Sy Go.RowKit
theorem el63 : El Tryd.prog 63 22 1 24 := El.of (by kernel_rfl)
set_option maxHeartbeats 400000 in
theorem l_EditNearest (px pq pw : Option Addr) (cx cq cw : Nat) (x : List (Int × Int)) (l : List (Option Addr × Nat × List (Int × Int))) (ws : List Int) (g : Int) (hx : U8ok x) (hl : ∀ s ∈ l, U8ok s.2.2) (hw : ∀ w ∈ ws, (Lit.int .u16 w).wf = true) (hg : (Lit.int .u16 g).wf = true) :
    RetP Tryd.prog n_law17_EditNearest [slv px x.length cx, slv pq l.length cq, slv pw ws.length cw, .int .u16 g] (fun R => Cells R px (bcells x) ∧ (Cells R pq (l.map fun s => slv s.1 s.2.2.length s.2.1) ∧ ∀ s ∈ l, Cells R s.1 (bcells s.2.2)) ∧ Cells R pw (ws.map (.int .u16)) ∧ TabOk R) (.bool true) := by
  refine Fn.of S_law17_EditNearest mx [.p px, .i x.length, .i cx, .p pq, .i l.length, .i cq, .p pw, .i ws.length, .i cw, .i g] rfl rfl fun c hp => ?_
  obtain ⟨hp1, ⟨hp2, hp3⟩, hp4, hp5⟩ := hp
  refine .chk (by ((try simp only [evE, liE, letsOf, letU, snd]); (try simp only [cmE])); omega) (.ite (fun h1 => .callV c_works17 (fun g => hp5.mono g.R) (.ret rfl rfl)) (fun h1 => .chk (by ((try simp only [evE, liE, letsOf, letU, snd]); (try simp only [cmE])); omega) (.ite (fun h2 => .callV c_works17 (fun g => hp5.mono g.R) (.ret rfl rfl)) (fun h2 => ?_)))) <;> ((try simp only [evE, liE, letsOf, letU, snd] at h1); (try simp only [cmE] at h1))
  ((try simp only [evE, liE, letsOf, letU, snd] at h2); (try simp only [cmE] at h2))
  have hl0 : l.length ≠ 0 := by omega
  refine .callM (c_mkW px cx x hx) rfl rfl (fun g => hp1.mono g.R) ?_
  rintro v mq1 hf1 ⟨q1, k1, rfl, hr1⟩
  refine ⟨[.p q1, .i (madeW x).length, .i k1], ⟨_, _, _, rfl⟩, (slv_fresh _ _ _ _ _).symm, ?_⟩
  replace hr1 := hr1.joinR (m := Mem.emp) fun b hb => (hf1 b hb).1
  refine .env (by (try simp only [liE, letsOf, letU, snd, List.append_nil]); rfl) (.callM (c_mkC pw cw ws g hw hg) rfl rfl (fun g => hp4.mono g.R) ?_)
  rintro v mq4 hf4 ⟨q4, k4, rfl, hr4⟩
  refine ⟨[.p q4, .i (costsW ws).length, .i k4, .i (g % 1000)], uOk_of rfl, (costs_fresh _ _ _ _ _ _).symm, ?_⟩
  replace hr4 := hr4.joinR fun b hb => (hf4 b hb).1
  replace hr1 := hr1.joinL (mq := mq4)
  generalize Mem.join _ mq4 = m at *
  clear hf1 hf4
  obtain ⟨cc, cw0, cl⟩ := costsW_ok hw hg
  have hga := costsW_gap hg
  have va := madeW_ok hx
  have la : (madeW x).length ≤ 10 := by simp [madeW]; omega
  generalize madeW x = a at *
  generalize costsW ws = cs at *
  generalize g % 1000 = gap at *
  refine .env (by (try simp only [liE, letsOf, letU, snd, List.append_nil]); rfl) (.alloc fun b0 => .alloc fun b1 => .loop (fun n us m => ∃ (q : Option Addr) (cap t : Nat) (W : List WD), us = [.p q, .i W.length, .i cap, .i t] ∧ n + t = l.length ∧ W.map (·.w) = a :: (l.take t).map (fun s => madeW s.2.2) ∧ W.head? = some ⟨q1, k1, a⟩ ∧ (t = 0 → q = some ⟨b1, 0, none⟩ ∧ cap = 1 ∧ W = [⟨q1, k1, a⟩]) ∧ (t ≠ 0 → Row m 22 1 q cap W.length (W.map WD.v)) ∧ (∀ x ∈ W, Row m 56 2 x.p x.cap x.w.length (wcells x.w)) ∧ Row m 2 1 q4 k4 cs.length (cs.map (.int .i64))) l.length
    ⟨some ⟨b1, 0, none⟩, 1, 0, [⟨q1, k1, a⟩], rfl, rfl, rfl, rfl, fun _ => ⟨rfl, rfl, rfl⟩, fun h => absurd rfl h, fun x hx => by rw [List.mem_singleton.1 hx]; exact hr1, hr4⟩ ?_)
  clear hr1 hr4
  rintro n _ m _ ⟨q, cap, t, W, rfl, hn, hW, hW0, hq0, hqr, hrs, hr4⟩
  have hWl : W.length = 1 + t := by have := congrArg List.length hW; simp at this; omega
  refine .chk (by ((try simp only [evE, liE, letsOf, letU, snd]); (try simp only [cmE])); omega) (.ite (fun h3 => ?_) (fun h3 => ?_)) <;> ((try simp only [evE, liE, letsOf, letU, snd] at h3); (try simp only [cmE] at h3))
  · have ht : t < l.length := by omega
    refine .loadSl (l.map fun s => slv s.1 s.2.2.length s.2.1) t l.length l[t].1 l[t].2.2.length l[t].2.1 ht (by simp [ht]) (fun g => hp2.mono g.R) (.callM (c_mkW l[t].1 l[t].2.1 l[t].2.2 (hl _ (List.getElem_mem ht))) rfl rfl (fun g => (hp3 _ (List.getElem_mem ht)).mono g.R) ?_)
    rintro v mq1 hf1 ⟨q5, k5, rfl, hr5⟩
    refine ⟨[.p q5, .i (madeW l[t].2.2).length, .i k5], ⟨_, _, _, rfl⟩, (slv_fresh _ _ _ _ _).symm, ?_⟩
    replace hr5 := hr5.joinR fun b hb => (hf1 b hb).1
    replace hr4 := hr4.joinL (mq := mq1)
    replace hrs := fun x hx => (hrs x hx).joinL (mq := mq1)
    replace hqr := fun h => (hqr h).joinL (mq := mq1)
    generalize Mem.join _ mq1 = m at *
    have fin : ∀ (q' : Option Addr) (cap' : Nat) (m' : Mem), Row m' 22 1 q' cap' (W.length + 1) (W.map WD.v ++ [slv q5 (madeW l[t].2.2).length k5]) → (∀ (e' s' : Nat) qq cc nn xs, e' ≠ 22 → Row m e' s' qq cc nn xs → Row m' e' s' qq cc nn xs) → ∃ (W' : List WD), W'.length = W.length + 1 ∧ W'.map (·.w) = a :: (l.take (t + 1)).map (fun s => madeW s.2.2) ∧ W'.head? = some ⟨q1, k1, a⟩ ∧ Row m' 22 1 q' cap' W'.length (W'.map WD.v) ∧ (∀ x ∈ W', Row m' 56 2 x.p x.cap x.w.length (wcells x.w)) ∧ Row m' 2 1 q4 k4 cs.length (cs.map (.int .i64)) := fun q' cap' m' hr' hkeep => by
      refine ⟨W ++ [⟨q5, k5, madeW l[t].2.2⟩], by simp, ?_, ?_, ?_, fun x hx => ?_, hkeep _ _ _ _ _ _ (by decide) hr4⟩
      · rw [List.map_append, hW, List.take_succ_eq_append_getElem ht, List.map_append]; rfl
      · rw [List.head?_append, hW0]; rfl
      · rw [List.length_append, List.map_append]; exact hr'
      · rcases List.mem_append.1 hx with hx | hx
        · exact hkeep _ _ _ _ _ _ (by decide) (hrs x hx)
        · rw [List.mem_singleton.1 hx]; exact hkeep _ _ _ _ _ _ (by decide) hr5
    refine .env (by (try simp only [liE, letsOf, letU, snd, List.append_nil]); rfl) (.alloc fun b2 => ?_)
    by_cases h0 : t = 0
    · obtain ⟨rfl, rfl, rfl⟩ := hq0 h0
      refine .env (by (try simp only [liE, letsOf, letU, snd, List.append_nil]); rfl) (.appendOwn (b0 := b1) (n := 1) (xs := [slv q1 a.length k1]) (qx := some ⟨b2, 0, none⟩) (kx := 1) (capx := 1) (news := [slv q5 (madeW l[t].2.2).length k5]) el63 rfl (fun g => g.cells (j := 1) rfl rfl rfl) (fun g => g.cells (j := 2) rfl rfl rfl) rfl (by simp [slv, Value.oneCell']) (fun h => by cases h) (by simp [maxLen]) (by omega) (fun q' cap' m' hr' _ hk' => ?_))
      obtain ⟨W', e1, e2, e3, e4, e5, e6⟩ := fin q' cap' m' (hr' (by omega)).1 fun e' s' qq cc nn xs _ h => h.keep fun g _ hg => hk' g hg
      refine .env (by (try simp only [liE, letsOf, letU, snd, List.append_nil]); rfl) (.again rfl ⟨n - 1, by omega, q', cap', t + 1, W', ?_, by omega, e2, e3, fun h => absurd h (by omega), fun _ => e4, e5, e6⟩)
      (simp only [evE, liE, letsOf, letU, snd, Sh.uss, Sh.us, atAddr, map_add0, List.append_nil]); rw [add_i64 t (by omega), e1]; rfl
    · refine .env (by (try simp only [liE, letsOf, letU, snd, List.append_nil]); rfl) (.append (q := q) (cap := cap) (n := W.length) (qx := some ⟨b2, 0, none⟩) (kx := 1) (capx := 1) (news := [slv q5 (madeW l[t].2.2).length k5]) el63 (hqr h0) (fun g => g.cells (j := 2) rfl rfl rfl) rfl (by simp [slv, Value.oneCell']) (fun h => by cases h) (by simp [maxLen]; omega) (by omega) (fun q' cap' m' hr' hk' _ => ?_))
      obtain ⟨W', e1, e2, e3, e4, e5, e6⟩ := fin q' cap' m' hr' fun e' s' qq cc nn xs he h => h.keepA (hqr h0) he hk'
      refine .env (by (try simp only [liE, letsOf, letU, snd, List.append_nil]); rfl) (.again rfl ⟨n - 1, by omega, q', cap', t + 1, W', ?_, by omega, e2, e3, fun h => absurd h (by omega), fun _ => e4, e5, e6⟩)
      (simp only [evE, liE, letsOf, letU, snd, Sh.uss, Sh.us, atAddr, map_add0, List.append_nil]); rw [add_i64 t (by omega), e1]
  · have htl : t = l.length := by omega
    replace hqr := hqr (by omega)
    have hvw : ∀ x ∈ W, Vok x.w := fun x hx => by
      have hm : x.w ∈ W.map (·.w) := List.mem_map.2 ⟨x, hx, rfl⟩
      rw [hW] at hm
      rcases List.mem_cons.1 hm with h | h
      · rw [h]; exact va
      · obtain ⟨s, hs, hs'⟩ := List.mem_map.1 h
        rw [← hs']; exact madeW_ok (hl s (List.mem_of_mem_take hs))
    have hcheck : ∀ {L : List (List Snd)}, (∀ w ∈ L, Vok w) → checkE cs gap L = 0 := fun h => checkE_mk cc fun w hw => (h w hw).check
    have hWv : ∀ w ∈ W.map (·.w), Vok w := fun w hw => by
      obtain ⟨x, hx, rfl⟩ := List.mem_map.1 hw
      exact hvw x hx
    have dm1 := c_editMatrix q cap W q4 k4 cs gap (fun x hx => (hvw x hx).wok) (by omega) hqr.cap_le
    have ematE : matE cs gap (W.map (·.w)) = (mt W.length (dm fun r s => rst (dC cs gap) gap ((W.map (·.w)).getD r []) ((W.map (·.w)).getD s [])), 0) := by
      unfold matE
      rw [if_neg (fun h => h (hcheck (by simp))), if_neg (by rw [List.length_map]; omega), if_neg (fun h => h (hcheck hWv)), List.length_map]
    simp only [ematE] at dm1
    have hrd : ∀ {L : List Nat} {ρ : Env} {blks : List Blk}, Good c L m → WordsAt (vw c L ρ blks m) q W ∧ CostsAt (vw c L ρ blks m) q4 cs ∧ TabOk (vw c L ρ blks m) := fun g => ⟨⟨hqr.reads g, fun x hx => (hrs x hx).reads g⟩, hr4.reads g, hp5.mono g.R⟩
    refine .env (by (try simp only [liE, letsOf, letU, snd, List.append_nil]); rfl) (.callM dm1 rfl rfl (fun g => hrd g) ?_)
    clear dm1 hrd
    rintro v mq5 hf5 ⟨q5, k5, rfl, hr5⟩
    refine ⟨[.p q5, .i (mt W.length (dm fun r s => rst (dC cs gap) gap ((W.map (·.w)).getD r []) ((W.map (·.w)).getD s []))).length, .i k5, .i 0], uOk_of rfl, rfl, ?_⟩
    replace hr5 := hr5.joinR fun b hb => (hf5 b hb).1
    replace hr4 := hr4.joinL (mq := mq5)
    replace hqr := hqr.joinL (mq := mq5)
    replace hrs := fun x hx => (hrs x hx).joinL (mq := mq5)
    generalize Mem.join _ mq5 = m at *
    have hF : ∀ (r u : Nat) (hr : r < W.length) (hu : u < W.length), dm (fun r s => rst (dC cs gap) gap ((W.map (·.w)).getD r []) ((W.map (·.w)).getD s [])) r u = rst (dC cs gap) gap W[r].w W[u].w := fun r u hr hu => by
      have v1 := hvw _ (List.getElem_mem hr)
      have v2 := hvw _ (List.getElem_mem hu)
      have pos : ∀ s t, 0 ≤ d0 cs s t := fun s t => sumW_nonneg _ cs cw0
      unfold dm
      split
      · rename_i e
        subst e
        rw [rst_d0 cc v1.val v1.val, rst_self hga.1 pos (d0_self cs)]
      · rename_i e
        rcases Nat.lt_or_ge r u with h | h
        · rw [Nat.max_eq_right (by omega), Nat.min_eq_left (by omega)]
          simp only [List.getD_eq_getElem?_getD, List.getElem?_map, List.getElem?_eq_getElem hr, List.getElem?_eq_getElem hu, Option.map_some, Option.getD_some]
          rw [rst_d0 cc v2.val v1.val, rst_d0 cc v1.val v2.val, rst_comm (d0_comm cs)]
        · rw [Nat.max_eq_left (by omega), Nat.min_eq_right (by omega)]
          simp only [List.getD_eq_getElem?_getD, List.getElem?_map, List.getElem?_eq_getElem hr, List.getElem?_eq_getElem hu, Option.map_some, Option.getD_some]
    have hM : ∀ (r u : Nat) (hr : r < W.length) (hu : u < W.length), ((mt W.length (dm fun r s => rst (dC cs gap) gap ((W.map (·.w)).getD r []) ((W.map (·.w)).getD s []))).map (Value.int .i64))[r * W.length + u]? = some (.int .i64 (rst (dC cs gap) gap W[r].w W[u].w)) := fun r u hr hu => by
      rw [List.getElem?_map, mt_at _ hr hu, hF r u hr hu]; rfl
    have hMl := mt_len W.length (dm fun r s => rst (dC cs gap) gap ((W.map (·.w)).getD r []) ((W.map (·.w)).getD s []))
    generalize mt W.length (dm fun r s => rst (dC cs gap) gap ((W.map (·.w)).getD r []) ((W.map (·.w)).getD s [])) = M at *
    clear hF ematE
    obtain ⟨W', hWe⟩ : ∃ W', W = ⟨q1, k1, a⟩ :: W' := by
      cases W with
      | nil => cases hW0
      | cons y W' => exact ⟨W', by rw [List.head?_cons] at hW0; cases hW0; rfl⟩
    have hL' : W'.length = l.length := by rw [hWe] at hWl; simp at hWl; omega
    have hWi : ∀ (r : Nat) (hr : r < W'.length), ∃ h : r + 1 < W.length, W[r + 1] = W'[r] := fun r hr => ⟨by omega, by simp only [hWe, List.getElem_cons_succ]⟩
    have hcap := hqr.cap_le
    have hv' : ∀ x ∈ W', Vok x.w := fun x hx => hvw x (by rw [hWe]; exact List.mem_cons_of_mem _ hx)
    have dm2 := c_editNear ⟨q1, k1, a⟩ (q.map fun a => a.add (if (cap : Int) = 1 then (0 : Int) else 1).toNat) (cap - 1) W' q4 k4 cs gap va.wok (fun x hx => (hv' x hx).wok) (by omega)
    have enear : nearE cs gap a (W'.map (·.w)) = ((nearGo 0 0 0 ((W'.map (·.w)).map fun x => rst (dC cs gap) gap a x)).1, (nearGo 0 0 0 ((W'.map (·.w)).map fun x => rst (dC cs gap) gap a x)).2, 0) := by
      unfold nearE
      rw [if_neg (fun h => h (hcheck (by simpa using va))), if_neg (by rw [List.length_map]; omega), if_neg (fun h => h (hcheck fun w hw => by
        obtain ⟨x, hx, rfl⟩ := List.mem_map.1 hw
        exact hv' x hx)), if_neg (by rw [List.length_map]; omega)]
    simp only [enear] at dm2
    have hmin := nearGo_min [] ((W'.map (·.w)).map fun x => rst (dC cs gap) gap a x) 0 0 0 rfl (fun h => absurd rfl h) (by intro e; have := congrArg List.length e; rw [List.nil_append, List.length_map, List.length_map, List.length_nil] at this; omega)
    simp only [List.nil_append] at hmin
    generalize nearGo 0 0 0 ((W'.map (·.w)).map fun x => rst (dC cs gap) gap a x) = near at *
    obtain ⟨p, best⟩ := near
    obtain ⟨m1, m2, m3, m4⟩ := hmin
    simp only [List.length_map] at m1 m2 m3 m4
    have hds : ∀ (r : Nat) (hr : r < W'.length), ((W'.map (·.w)).map fun x => rst (dC cs gap) gap a x)[r]? = some (rst (dC cs gap) gap a W'[r].w) := fun r hr => by simp [hr]
    have hrow1 : ∀ (r : Nat) (hr : r < W'.length), (M.map (Value.int .i64))[r + 1]? = some (.int .i64 (rst (dC cs gap) gap a W'[r].w)) := fun r hr => by
      obtain ⟨h, e⟩ := hWi r hr
      have := hM 0 (r + 1) (by omega) h
      rw [Nat.zero_mul, Nat.zero_add, e] at this
      rw [this]
      simp only [hWe, List.getElem_cons_zero]
    have hbest : rst (dC cs gap) gap a W'[p].w = best := by have := (hds p m1).symm.trans m2; exact Option.some.inj this
    clear enear hcheck hW hW0 hq0
    have hcells : ∀ {L : List Nat} {ρ : Env} {blks : List Blk}, Good c L m → Cells (vw c L ρ blks m) (q.map fun a => a.add (if (cap : Int) = 1 then (0 : Int) else 1).toNat) (W'.map WD.v) := fun g r u hu => by
      obtain ⟨b', o', e1, e2⟩ := hqr.reads g (r + 1) u (by rw [hWe, List.map_cons, List.getElem?_cons_succ]; exact hu)
      rw [e1]
      refine ⟨b', o' + 1, ?_, by rw [show o' + 1 + r = o' + (r + 1) by omega]; exact e2⟩
      rw [if_neg (by omega)]; rfl
    have hrd : ∀ {L : List Nat} {ρ : Env} {blks : List Blk}, Good c L m → CostsAt (vw c L ρ blks m) q4 cs ∧ TabOk (vw c L ρ blks m) := fun g => ⟨hr4.reads g, hp5.mono g.R⟩
    refine .env (by (try simp only [liE, letsOf, letU, snd, List.append_nil]); rfl) (.chk (by ((try simp only [evE, liE, letsOf, letU, snd]); (try simp only [cmE])); exact ⟨by omega, by omega⟩) (.callV dm2 (fun g => ⟨(hrs ⟨q1, k1, a⟩ (by rw [hWe]; simp)).reads g, ⟨hcells g, fun x hx => (hrs x (by rw [hWe]; exact List.mem_cons_of_mem _ hx)).reads g⟩, (hrd g)⟩) ?_ (hargs := ?_)))
    rotate_left
    · have e1 : ((W.length : Int) - 1).toNat = W'.length := by omega
      have e2 : ((cap : Int) - 1).toNat = cap - 1 := by omega
      show [slv q1 a.length k1, Value.slice (q.map fun a => a.add (if (cap : Int) = 1 then (0 : Int) else 1).toNat) ((W.length : Int) - 1).toNat ((cap : Int) - 1).toNat, costs q4 cs.length k4 gap] = [slv q1 a.length k1, slv (q.map fun a => a.add (if (cap : Int) = 1 then (0 : Int) else 1).toNat) W'.length (cap - 1), costs q4 cs.length k4 gap]
      rw [e1, e2, slv_eq (q.map _)]
    have hWW : W.length * W.length ≤ 7 * 7 := Nat.mul_le_mul (by omega) (by omega)
    have emul : ar .mul .i64 (W.length : Int) (W.length : Int) = (M.length : Int) := by rw [mulI (by rw [← Int.natCast_mul]; omega) (by rw [← Int.natCast_mul]; omega), ← Int.natCast_mul, hMl]
    have hpl : ∀ {r s : Nat}, r < W.length → s < W.length → r * W.length + s < M.length := fun h h' => by rw [hMl]; exact place_lt h h'
    have eat : ∀ (i j : Nat), i < W.length → j < W.length → ar .add .i64 (ar .mul .i64 (i : Int) (W.length : Int)) (j : Int) = ((i * W.length + j : Nat) : Int) := fun i j hi hj => by
      have := hpl hi hj
      have h1 : (i : Int) * (W.length : Int) = ((i * W.length : Nat) : Int) := (Int.natCast_mul _ _).symm
      rw [mulI (by rw [h1]; omega) (by rw [h1]; omega), h1, addI (by omega) (by omega), Int.natCast_add]
    have hpl1 : ∀ {r : Nat}, r < W'.length → r + 1 < M.length := fun {r} h => by have := hpl (r := 0) (s := r + 1) (by omega) (by omega); omega
    refine .env (by (try simp only [liE, letsOf, letU, snd, List.append_nil]); rfl) (.chk (by ((try simp only [evE, liE, letsOf, letU, snd]); (try simp only [cmE])); omega) (.no (by ((try simp only [evE, liE, letsOf, letU, snd]); (try simp only [cmE])) <;> simp) (.chk (by ((try simp only [evE, liE, letsOf, letU, snd]); (try simp only [cmE])); omega) (.no (by ((try simp only [evE, liE, letsOf, letU, snd]); (try simp only [cmE])); exact ⟨emul.symm, by omega⟩) (.chk (by ((try simp only [evE, liE, letsOf, letU, snd]); (try simp only [cmE])); omega) (.no (by ((try simp only [evE, liE, letsOf, letU, snd]); (try simp only [cmE])); omega) ?_))))))
    refine .elem1 (.int .i64 best) (M.map (Value.int .i64)) (p + 1) M.length (add_i64 p (by omega)) rfl (hpl1 m1) (fun g => hr5.reads g) (by rw [hrow1 p m1, hbest]) (.no (by ((try simp only [evE, liE, letsOf, letU, snd]); (try simp only [cmE])) <;> simp) ?_)
    refine .env (by (try simp only [liE, letsOf, letU, snd, List.append_nil]); rfl) (.loop (fun n us m' => ∃ r : Nat, us = [.b false, .i r] ∧ n + r = W.length ∧ m = m') W.length ⟨0, rfl, rfl, rfl⟩ ?_)
    rintro n1 _ _ _ ⟨r, rfl, hn1, rfl⟩
    refine .ite (fun h4 => ?_) (fun h4 => ?_) <;> ((try simp only [evE, liE, letsOf, letU, snd] at h4); (try simp only [cmE] at h4))
    · have hr : r < W.length := by omega
      refine .loop (fun n us m' => ∃ u : Nat, us = [.b false, .i u] ∧ n + u = W.length ∧ m = m') W.length ⟨0, rfl, rfl, rfl⟩ ?_
      rintro n2 _ _ _ ⟨u, rfl, hn2, rfl⟩
      refine .ite (fun h5 => ?_) (fun h5 => .again rfl ⟨n1 - 1, by omega, r + 1, ?_, by omega, rfl⟩) <;> ((try simp only [evE, liE, letsOf, letU, snd] at h5); (try simp only [cmE] at h5))
      · have hu : u < W.length := by omega
        have v1 := hvw _ (List.getElem_mem hr)
        have v2 := hvw _ (List.getElem_mem hu)
        have d := c_editDist W[r] W[u] q4 k4 cs gap v1.wok v2.wok
        simp only [distE_ok cc v1 v2, ← rst_d0 cc v1.val v2.val] at d
        refine .loadWD W r hr (fun g => hqr.reads g) (.loadWD W u hu (fun g => hqr.reads g) (.callV d (fun g => ⟨(hrs _ (List.getElem_mem hr)).reads g, (hrs _ (List.getElem_mem hu)).reads g, hrd g⟩) (.no (by ((try simp only [evE, liE, letsOf, letU, snd]); (try simp only [cmE])) <;> simp) ?_)))
        refine .env (by (try simp only [liE, letsOf, letU, snd, List.append_nil]); rfl) (.elem1 (.int .i64 (rst (dC cs gap) gap W[r].w W[u].w)) (M.map (Value.int .i64)) (r * W.length + u) M.length (by show ar .add .i64 (ar .mul .i64 (r : Int) (W.length : Int)) (u : Int) = _; exact eat r u hr hu) (by show ((M.length : Nat) : Int) = _; rfl) (hpl hr hu) (fun g => hr5.reads g) (hM r u hr hu) (.no (by ((try simp only [evE, liE, letsOf, letU, snd]); (try simp only [cmE])) <;> simp) (.again rfl ⟨n2 - 1, by omega, u + 1, ?_, by omega, rfl⟩)))
        (simp only [evE, liE, letsOf, letU, snd, Sh.uss, Sh.us, atAddr, map_add0, List.append_nil]); rw [add_i64 u (by omega)]
      · (simp only [evE, liE, letsOf, letU, snd, Sh.uss, Sh.us, atAddr, map_add0, List.append_nil]); rw [add_i64 r (by omega)]
    · refine .loop (fun n us m' => ∃ u : Nat, us = [.b false, .i u] ∧ n + u = l.length ∧ m = m') l.length ⟨0, rfl, rfl, rfl⟩ ?_
      rintro n2 _ _ _ ⟨u, rfl, hn2, rfl⟩
      refine .chk (by ((try simp only [evE, liE, letsOf, letU, snd]); (try simp only [cmE])); omega) (.ite (fun h5 => ?_) (fun h5 => .callV c_works17 (fun g => hp5.mono g.R) (.ret rfl rfl))) <;> ((try simp only [evE, liE, letsOf, letU, snd] at h5); (try simp only [cmE] at h5))
      have hu : u < W'.length := by omega
      have hle := m3 u _ (hds u hu)
      refine .elem1 (.int .i64 (rst (dC cs gap) gap a W'[u].w)) (M.map (Value.int .i64)) (u + 1) M.length (add_i64 u (by omega)) rfl (hpl1 hu) (fun g => hr5.reads g) (hrow1 u hu) (.yes (by ((try simp only [evE, liE, letsOf, letU, snd]); (try simp only [cmE])); omega) (.ite (fun h6 => ?_) (fun h6 => .again rfl ⟨n2 - 1, by omega, u + 1, ?_, by omega, rfl⟩)))
      · ((try simp only [evE, liE, letsOf, letU, snd] at h6); (try simp only [cmE] at h6))
        refine .elem1 (.int .i64 (rst (dC cs gap) gap a W'[u].w)) (M.map (Value.int .i64)) (u + 1) M.length (add_i64 u (by omega)) rfl (hpl1 hu) (fun g => hr5.reads g) (hrow1 u hu) (.no ?_ (.again rfl ⟨n2 - 1, by omega, u + 1, ?_, by omega, rfl⟩))
        · ((try simp only [evE, liE, letsOf, letU, snd]); (try simp only [cmE]))
          exact m4 u _ (by omega) (hds u hu)
        · (simp only [evE, liE, letsOf, letU, snd, Sh.uss, Sh.us, atAddr, map_add0, List.append_nil]); rw [add_i64 u (by omega)]
      · (simp only [evE, liE, letsOf, letU, snd, Sh.uss, Sh.us, atAddr, map_add0, List.append_nil]); rw [add_i64 u (by omega)]
end Go.Proofs.YtedfogpnmpmggaaDoor
