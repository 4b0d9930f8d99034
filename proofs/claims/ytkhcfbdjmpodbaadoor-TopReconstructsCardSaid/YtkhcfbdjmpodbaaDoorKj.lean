/- Layer 24: what lists contain; the matrix. -/
import Derived.Test.YtkhcfbdjmpodbaaDoorKi
set_option linter.unusedSimpArgs false
set_option linter.unusedVariables false
namespace Go.Sy
open Go Go.RowKit
theorem wcells_take (w : List Snd) (n : Nat) : wcells (w.take n) = (wcells w).take (2 * n) := by
  induction w generalizing n with
  | nil => simp [wcells]
  | cons s w ih =>
    cases n with
    | zero => rfl
    | succ n =>
      simp only [List.take_succ_cons, wcells, List.flatMap_cons, scell] at ih ⊢
      rw [ih, show 2 * (n + 1) = 2 * n + 1 + 1 by omega]
      rfl
theorem wordAt_take {R : Mv} {p : Option Addr} {w : List Snd} (h : WordAt R p w) (n : Nat) : WordAt R p (w.take n) := fun i x hx => by
  rw [wcells_take, List.getElem?_take] at hx
  split at hx
  · exact h i x hx
  · cases hx
def dM (cs : List Snd) (ws : List Int) (gap : Int) (i k : Nat) : Int := if i < cs.length then (distC (cs.getD i (0, 0)) (cs.getD k (0, 0)) ws gap).1 else gap
def matE (cs : List Snd) (ws : List Int) (gap : Int) (a b : Nat) : Int := if a = b then 0 else if b < a then dM cs ws gap a b else dM cs ws gap b a
def overB (cs : List Snd) (ws : List Int) (gap : Int) : Bool := (List.range (cs.length + 1)).any fun i => (List.range i).any fun k => decide (1073741824 < dM cs ws gap i k)
def matErr (cs : List Snd) (ws : List Int) (gap : Int) : Int := if cs.length > 11 then 12 else if cs.length = 0 then 5 else if overB cs ws gap = true then 7 else 0
structure OkC (cs : List Snd) : Prop where
  valid : ∀ s ∈ cs, valid s = true
  nodup : cs.Nodup
theorem dM_pos {cs : List Snd} {ws : List Int} {gap : Int} (hc : checkC ws gap = 0) (i k : Nat) : 0 ≤ dM cs ws gap i k := by
  unfold dM
  split
  · exact (distC_pos hc).1
  · have := checkC_zero hc; omega
theorem overB_yes {cs : List Snd} {ws : List Int} {gap : Int} {i k : Nat} (hi : i ≤ cs.length) (hk : k < i) (h : 1073741824 < dM cs ws gap i k) : overB cs ws gap = true :=
  List.any_eq_true.2 ⟨i, List.mem_range.2 (by omega), List.any_eq_true.2 ⟨k, List.mem_range.2 hk, by simpa using h⟩⟩
theorem overB_no {cs : List Snd} {ws : List Int} {gap : Int} (h : ∀ i k, i ≤ cs.length → k < i → dM cs ws gap i k ≤ 1073741824) : overB cs ws gap = false := by
  cases e : overB cs ws gap with
  | false => rfl
  | true =>
    obtain ⟨i, hi, h2⟩ := List.any_eq_true.1 e
    obtain ⟨k, hk, h3⟩ := List.any_eq_true.1 h2
    have := h i k (by have := List.mem_range.1 hi; omega) (List.mem_range.1 hk)
    simp at h3; omega
theorem over_le {cs : List Snd} {ws : List Int} {gap : Int} (h : overB cs ws gap = false) {i k : Nat} (hi : i ≤ cs.length) (hk : k < i) : dM cs ws gap i k ≤ 1073741824 := by
  rcases Int.lt_or_le 1073741824 (dM cs ws gap i k) with h2 | h2
  · rw [overB_yes hi hk h2] at h; cases h
  · exact h2
theorem matE_bound {cs : List Snd} {ws : List Int} {gap : Int} (hc : checkC ws gap = 0) (h : overB cs ws gap = false) {a b : Nat} (ha : a ≤ cs.length) (hb : b ≤ cs.length) : 0 ≤ matE cs ws gap a b ∧ matE cs ws gap a b ≤ 1073741824 := by
  unfold matE
  split
  · exact ⟨Int.le_refl 0, by decide⟩
  · split
    · exact ⟨dM_pos hc _ _, over_le h ha (by omega)⟩
    · exact ⟨dM_pos hc _ _, over_le h hb (by omega)⟩
def doneM (i k a b : Nat) : Bool := (decide (a < i) && decide (b < i)) || (decide (a = i) && decide (b < k)) || (decide (b = i) && decide (a < k))
theorem doneM_next {i a b : Nat} : doneM i i a b = true ∨ (a = i ∧ b = i) ↔ doneM (i + 1) 0 a b = true := by
  unfold doneM
  simp only [Bool.or_eq_true, Bool.and_eq_true, decide_eq_true_eq]
  omega
theorem doneM_step {i k a b : Nat} : doneM i (k + 1) a b = true ↔ doneM i k a b = true ∨ (a = i ∧ b = k) ∨ (a = k ∧ b = i) := by
  unfold doneM
  simp only [Bool.or_eq_true, Bool.and_eq_true, decide_eq_true_eq]
  omega
structure MatRows (cs : List Snd) (ws : List Int) (gap : Int) (i k lim : Nat) (rs : List RD) : Prop where
  len : rs.length = cs.length + 1
  none : ∀ a (ha : a < rs.length), lim ≤ a → rs[a] = ⟨.none, 0, []⟩
  rlen : ∀ a (ha : a < rs.length), a < lim → rs[a].v.length = cs.length + 1
  at' : ∀ a (ha : a < rs.length), a < lim → ∀ b, b ≤ cs.length → rs[a].v[b]? = some (if doneM i k a b = true then matE cs ws gap a b else 0)
theorem MatRows.next {cs : List Snd} {ws : List Int} {gap : Int} {i lim : Nat} {rs : List RD} (h : MatRows cs ws gap i i lim rs) : MatRows cs ws gap (i + 1) 0 lim rs :=
  ⟨h.len, h.none, h.rlen, fun a ha hl b hb => by
    rw [h.at' a ha hl b hb]
    congr 1
    by_cases e : doneM i i a b = true
    · rw [if_pos e, if_pos (doneM_next.1 (.inl e))]
    · rw [if_neg e]
      by_cases e2 : a = i ∧ b = i
      · rw [if_pos (doneM_next.1 (.inr e2))]
        obtain ⟨rfl, rfl⟩ := e2
        unfold matE; rw [if_pos rfl]
      · rw [if_neg (fun h => (doneM_next.2 h).elim e e2)]⟩
theorem MatRows.row {cs : List Snd} {ws : List Int} {gap : Int} {i : Nat} {rs : List RD} (h : MatRows cs ws gap i 0 i rs) (hi : i ≤ cs.length) (p : Option Addr) (c : Nat) : MatRows cs ws gap i 0 (i + 1) (rs.set i ⟨p, c, List.replicate (cs.length + 1) 0⟩) := by
  have hl := h.len
  refine ⟨by rw [List.length_set]; exact hl, fun a ha hlim => ?_, fun a ha hlim => ?_, fun a ha hlim b hb => ?_⟩
  · rw [List.length_set] at ha
    rw [List.getElem_set, if_neg (by omega)]; exact h.none a ha (by omega)
  · rw [List.length_set] at ha
    rw [List.getElem_set]
    split
    · exact List.length_replicate
    · exact h.rlen a ha (by omega)
  · rw [List.length_set] at ha
    rw [List.getElem_set]
    split
    · rename_i e
      subst e
      rw [List.getElem?_replicate, if_pos (by omega), if_neg]
      unfold doneM
      simp only [Bool.or_eq_true, Bool.and_eq_true, decide_eq_true_eq]
      omega
    · exact h.at' a ha (by omega) b hb
theorem MatRows.step {cs : List Snd} {ws : List Int} {gap : Int} {i k : Nat} {rs : List RD} (h : MatRows cs ws gap i k (i + 1) rs) (hi : i ≤ cs.length) (hk : k < i) (p1 p2 : Option Addr) (c1 c2 : Nat) {ri rk : RD} (hri : rs[i]? = some ri) (hrk : rs[k]? = some rk) :
    MatRows cs ws gap i (k + 1) (i + 1) ((rs.set i ⟨p1, c1, ri.v.set k (dM cs ws gap i k)⟩).set k ⟨p2, c2, rk.v.set i (dM cs ws gap i k)⟩) := by
  have hl := h.len
  obtain ⟨hi', rfl⟩ := List.getElem?_eq_some_iff.1 hri
  obtain ⟨hk', rfl⟩ := List.getElem?_eq_some_iff.1 hrk
  have hli := h.rlen i hi' (by omega)
  have hlk := h.rlen k hk' (by omega)
  have ek : matE cs ws gap k i = dM cs ws gap i k := by unfold matE; rw [if_neg (by omega), if_neg (by omega)]
  have ei : matE cs ws gap i k = dM cs ws gap i k := by unfold matE; rw [if_neg (by omega), if_pos (by omega)]
  refine ⟨by rw [List.length_set, List.length_set]; exact hl, fun a ha hlim => ?_, fun a ha hlim => ?_, fun a ha hlim b hb => ?_⟩
  · rw [List.length_set, List.length_set] at ha
    rw [List.getElem_set, if_neg (by omega), List.getElem_set, if_neg (by omega)]; exact h.none a ha (by omega)
  · rw [List.length_set, List.length_set] at ha
    rw [List.getElem_set]
    split
    · show (List.set _ _ _).length = _; rw [List.length_set]; exact hlk
    · rw [List.getElem_set]
      split
      · show (List.set _ _ _).length = _; rw [List.length_set]; exact hli
      · exact h.rlen a ha (by omega)
  · rw [List.length_set, List.length_set] at ha
    have hold := h.at' a ha hlim b hb
    have hst := doneM_step (i := i) (k := k) (a := a) (b := b)
    by_cases e1 : a = k
    · subst e1
      rw [List.getElem_set, if_pos rfl]
      show (List.set rs[a].v i _)[b]? = _
      by_cases e3 : b = i
      · subst e3
        rw [List.getElem?_set_self (by omega), if_pos (hst.2 (.inr (.inr ⟨rfl, rfl⟩))), ek]
      · rw [List.getElem?_set_ne (by omega), hold]
        congr 1
        by_cases e4 : doneM i a a b = true
        · rw [if_pos e4, if_pos (hst.2 (.inl e4))]
        · rw [if_neg e4, if_neg (fun q => by rcases hst.1 q with q | q | q; exact e4 q; omega; omega)]
    · rw [List.getElem_set, if_neg (fun q => e1 q.symm), List.getElem_set]
      by_cases e2 : a = i
      · subst e2
        rw [if_pos rfl]
        show (List.set rs[a].v k _)[b]? = _
        by_cases e3 : b = k
        · subst e3
          rw [List.getElem?_set_self (by omega), if_pos (hst.2 (.inr (.inl ⟨rfl, rfl⟩))), ei]
        · rw [List.getElem?_set_ne (by omega), hold]
          congr 1
          by_cases e4 : doneM a k a b = true
          · rw [if_pos e4, if_pos (hst.2 (.inl e4))]
          · rw [if_neg e4, if_neg (fun q => by rcases hst.1 q with q | q | q; exact e4 q; omega; omega)]
      · rw [if_neg (fun q => e2 q.symm), hold]
        congr 1
        by_cases e4 : doneM i k a b = true
        · rw [if_pos e4, if_pos (hst.2 (.inl e4))]
        · rw [if_neg e4, if_neg (fun q => by rcases hst.1 q with q | q | q; exact e4 q; omega; omega)]
end Go.Sy
namespace Go.Proofs.YtkhcfbdjmpodbaaDoor
open Go Go.Sy Go.RowKit
theorem c_idxS (p : Option Addr) (cp : Nat) (w : List Snd) (s : Snd) (hl : w.length < 2 ^ 62) (hs : s ∉ w) : RetP Tryd.prog n_slices_Index___api_Sound_api_Sound_ [slv p w.length cp, snd s] (fun R => WordAt R p w) (.int .i64 (-1)) := by
  refine Fn.of S_slices_Index___api_Sound_api_Sound_ mx [.p p, .i w.length, .i cp, .i s.1, .i s.2] rfl rfl fun c hp => .alloc fun b0 => .chk (by ((try simp only [evE, liE, lO, lU, snd]); (try simp only [cmE])); omega) ?_
  refine .loop (fun n us _ => ∃ (e : Int) (j : Nat), us = [.i e, .i j] ∧ n + j = w.length) w.length ⟨0, 0, rfl, rfl⟩ ?_
  rintro n _ m _ ⟨e, j, rfl, hnj⟩
  refine .env (by (try simp only [liE, lO, lU, snd, aN]); rfl) (.ite (fun h1 => ?_) (fun h1 => .ret rfl rfl)) <;> ((try simp only [evE, liE, lO, lU, snd] at h1); (try simp only [cmE] at h1))
  have hj : j < w.length := by omega
  have hne : w[j] ≠ s := fun e => hs (e ▸ List.getElem_mem hj)
  refine .loadW w j hj (fun g => hp.mono g.R) (.env (by (try simp only [liE, lO, lU, snd, aN]); rfl) (.no ?_ (.again rfl ⟨n - 1, by omega, e, j + 1, ?_, by omega⟩)))
  · show (bif cm .eql (s.1 : Int) (w[j].1 : Int) then cm .eql (s.2 : Int) (w[j].2 : Int) else false) = false
    rw [pick_and, Bool.and_eq_false_iff]
    have : w[j].1 ≠ s.1 ∨ w[j].2 ≠ s.2 := by
      rcases Decidable.em (w[j].1 = s.1) with h | h
      · exact .inr fun h' => hne (Prod.ext h h')
      · exact .inl h
    rcases this with h | h
    · left; simp [cm]; omega
    · right; simp [cm]; omega
  · (simp only [evE, liE, lO, lU, snd, Sh.uss, Sh.us, atAddr, map_add0, List.append_nil]); rw [add_i64 j (by omega)]
theorem c_contS (p : Option Addr) (cp : Nat) (w : List Snd) (s : Snd) (hl : w.length < 2 ^ 62) (hs : s ∉ w) : RetP Tryd.prog n_slices_Contains___api_Sound_api_Sound_ [slv p w.length cp, snd s] (fun R => WordAt R p w) (.bool false) :=
  Fn.of S_slices_Contains___api_Sound_api_Sound_ mx [.p p, .i w.length, .i cp, .i s.1, .i s.2] rfl rfl fun c hp => .alloc fun b0 => .callV (c_idxS p cp w s hl hs) (fun g => hp.mono g.R) (.env (by (try simp only [liE, lO, lU, snd, aN]); rfl) (.ret rfl rfl))
theorem c_idxN (p : Option Addr) (cp : Nat) (l : List CE) (hl : l.length < 2 ^ 62) (h : ∀ x ∈ l, x.1 ≠ 0) : RetP Tryd.prog n_slices_Index___api_Cell_api_Cell_ [slv p l.length cp, .agg #[.int .i64 0, .int .u32 0, .int .u32 0]] (fun R => Cells R p (ccells l)) (.int .i64 (-1)) := by
  refine Fn.of S_slices_Index___api_Cell_api_Cell_ mx [.p p, .i l.length, .i cp, .i 0, .i 0, .i 0] rfl rfl fun c hp => .alloc fun b0 => .chk (by ((try simp only [evE, liE, lO, lU, snd]); (try simp only [cmE])); omega) ?_
  refine .loop (fun n us _ => ∃ (e : Int) (j : Nat), us = [.i e, .i j] ∧ n + j = l.length) l.length ⟨0, 0, rfl, rfl⟩ ?_
  rintro n _ m _ ⟨e, j, rfl, hnj⟩
  refine .env (by (try simp only [liE, lO, lU, snd, aN]); rfl) (.ite (fun h1 => ?_) (fun h1 => .ret rfl rfl)) <;> ((try simp only [evE, liE, lO, lU, snd] at h1); (try simp only [cmE] at h1))
  have hj : j < l.length := by omega
  have hne := h _ (List.getElem_mem hj)
  refine .loadCE l j hj (fun g => hp.mono g.R) (.env (by (try simp only [liE, lO, lU, snd, aN]); rfl) (.no ?_ (.again rfl ⟨n - 1, by omega, e, j + 1, ?_, by omega⟩)))
  · show (bif cm .eql 0 l[j].1 then (bif cm .eql 0 (l[j].2.1 : Int) then cm .eql 0 (l[j].2.2 : Int) else false) else false) = false
    rw [show cm .eql 0 l[j].1 = false by simp [cm]; omega]; rfl
  · (simp only [evE, liE, lO, lU, snd, Sh.uss, Sh.us, atAddr, map_add0, List.append_nil]); rw [add_i64 j (by omega)]
theorem c_contN (p : Option Addr) (cp : Nat) (l : List CE) (hl : l.length < 2 ^ 62) (h : ∀ x ∈ l, x.1 ≠ 0) : RetP Tryd.prog n_slices_Contains___api_Cell_api_Cell_ [slv p l.length cp, .agg #[.int .i64 0, .int .u32 0, .int .u32 0]] (fun R => Cells R p (ccells l)) (.bool false) :=
  Fn.of S_slices_Contains___api_Cell_api_Cell_ mx [.p p, .i l.length, .i cp, .i 0, .i 0, .i 0] rfl rfl fun c hp => .alloc fun b0 => .callV (c_idxN p cp l hl h) (fun g => hp.mono g.R) (.env (by (try simp only [liE, lO, lU, snd, aN]); rfl) (.ret rfl rfl))
theorem ifeq0 (x : Int) : (if x = 0 then (0 : Int) else 0) = 0 := by split <;> rfl
set_option maxHeartbeats 4000000 in
theorem c_Matrix (p pc : Option Addr) (cp cc : Nat) (cs : List Snd) (ws : List Int) (gap : Int) (hcap : cs.length ≤ cp) (hl : cs.length < 2 ^ 40) (hC : OkC cs) (hc : checkC ws gap = 0) :
    FnM Tryd.prog n_proto_Matrix [slv p cs.length cp, costs pc ws.length cc gap] (fun R => WordAt R p cs ∧ CostsAt R pc ws ∧ TabOk R) fun v mq _ => ∃ q cq rs, v = .tuple #[slv q rs.length cq, .int .i64 (matErr cs ws gap)] ∧ (matErr cs ws gap = 0 → Tab mq 26 2 .i64 q cq rs ∧ MatRows cs ws gap (cs.length + 1) 0 (cs.length + 1) rs) := by
  obtain ⟨hw24, hg0, hg1, hws⟩ := checkC_zero hc
  refine FnM.of S_proto_Matrix mx [.p p, .i cs.length, .i cp, .p pc, .i ws.length, .i cc, .i gap] rfl rfl fun c hp => .alloc fun b0 => .chk (by ((try simp only [evE, liE, lO, lU, snd]); (try simp only [cmE])); omega) (.ite (fun h1 => .ret rfl ?_) (fun h1 => .ite (fun h2 => .ret rfl ?_) (fun h2 => .chk (by ((try simp only [evE, liE, lO, lU, snd]); (try simp only [cmE])); omega) ?_))) <;> ((try simp only [evE, liE, lO, lU, snd] at h1); (try simp only [cmE] at h1))
  · have : matErr cs ws gap = 12 := by unfold matErr; rw [if_pos (by omega)]
    rw [this]; exact ⟨none, 0, [], rfl, fun h => by cases h⟩
  · ((try simp only [evE, liE, lO, lU, snd] at h2); (try simp only [cmE] at h2))
    have : matErr cs ws gap = 5 := by unfold matErr; rw [if_neg (by omega), if_pos (by omega)]
    rw [this]; exact ⟨none, 0, [], rfl, fun h => by cases h⟩
  ((try simp only [evE, liE, lO, lU, snd] at h2); (try simp only [cmE] at h2))
  have hE : matErr cs ws gap = if overB cs ws gap = true then 7 else 0 := by unfold matErr; rw [if_neg (by omega), if_neg (by omega)]
  have hWok : Wok cs := fun s hs => Sok.of_valid (hC.valid s hs)
  refine .loop (fun n us _ => ∃ (q1 : Option Addr) (k1 c1 : Nat) (e : Int) (j : Nat), us = [.p q1, .i k1, .i c1, .i e, .i j] ∧ n + j = cs.length) cs.length ⟨none, 0, 0, 0, 0, rfl, rfl⟩ ?_
  rintro n _ m _ ⟨q1, k1, c1, e, j, rfl, hnj⟩
  refine .env (by (try simp only [liE, lO, lU, snd, aN]); rfl) (.ite (fun h3 => ?_) (fun h3 => ?_)) <;> ((try simp only [evE, liE, lO, lU, snd] at h3); (try simp only [cmE] at h3))
  · have hj : j < cs.length := by omega
    have hv := c_valid cs[j] (hWok.at hj)
    rw [hC.valid _ (List.getElem_mem hj)] at hv
    have hnot : cs[j] ∉ cs.take j := fun hm => by
      obtain ⟨i, hi, e⟩ := List.mem_iff_getElem.1 hm
      rw [List.length_take] at hi
      rw [List.getElem_take] at e
      have := (List.getElem_inj hC.nodup).1 e
      omega
    have htl : (cs.take j).length = j := by rw [List.length_take]; omega
    have hcont := c_contS p cp (cs.take j) cs[j] (by omega) hnot
    rw [htl] at hcont
    refine .loadW cs j hj (fun g => hp.1.mono g.R) (.env (by (try simp only [liE, lO, lU, snd, aN]); rfl) (.alloc fun b1 => .callV hv (fun _ => trivial) (.env (by (try simp only [liE, lO, lU, snd, aN]); rfl) (.no rfl (.chk (by ((try simp only [evE, liE, lO, lU, snd]); (try simp only [cmE])); omega) ?_)))))
    refine .callV hcont (fun g => wordAt_take (hp.1.mono g.R) j) (.env (by (try simp only [liE, lO, lU, snd, aN]); rfl) (.no rfl (.again rfl ⟨n - 1, by omega, q1, k1, c1, e, j + 1, ?_, by omega⟩))) (hargs := ?_)
    · (simp only [evE, liE, lO, lU, snd, Sh.uss, Sh.us, atAddr, map_add0, List.append_nil]); rw [add_i64 j (by omega)]
    · have e0 : ∀ ρ : Env, (IT.ifeq (.var 2) (.lit 0) (.lit 0) (.lit 0)).eval ρ = 0 := fun ρ => by simp only [IT.eval]; exact ifeq0 _
      simp only [SV.dens, SV.den, e0]; rfl
  refine .callV (c_checkCosts pc cc ws gap) (fun g => hp.2.1.mono g.R) ?_
  rw [hc]
  refine .env (by (try simp only [liE, lO, lU, snd, aN]); rfl) (.no rfl (.chk (by ((try simp only [evE, liE, lO, lU, snd]); (try simp only [cmE])); omega) ?_))
  have e1 := add_i64 cs.length (by omega)
  refine .make (z := .slice none 0 0) (bytes := 24) (cs.length + 1) Tryd.underlying75 (by kernel_rfl) rfl (by omega) (by simp [maxLen]; omega) (fun g hg hrow => ?_) (by show Value.int .i64 (ar .add .i64 (cs.length : Int) 1) = _; rw [e1]) (by show Value.int .i64 (ar .add .i64 (cs.length : Int) 1) = _; rw [e1])
  have hT : Tab (m.upd g (.cells (madeCells #[.slice none 0 0] (cs.length + 1)) 26 (0, 0))) 26 2 .i64 (some ⟨g, 0, none⟩) (cs.length + 1) (List.replicate (cs.length + 1) ⟨none, 0, []⟩) := ⟨by rw [List.length_replicate, List.map_replicate]; exact hrow, fun r hr => by rw [List.eq_of_mem_replicate hr]; exact Row.nil _ _ _, fun i j hi hj b hne hp => by simp at hp, by decide⟩
  have hR0 : MatRows cs ws gap 0 0 0 (List.replicate (cs.length + 1) ⟨none, 0, []⟩) := ⟨List.length_replicate, fun a ha _ => by rw [List.getElem_replicate], fun a ha h => by omega, fun a ha h => by omega⟩
  generalize Mem.upd _ g _ = m0 at hT ⊢
  clear hrow hg
  refine .env (by (try simp only [liE, lO, lU, snd, aN]); rfl) (.chk (by ((try simp only [evE, liE, lO, lU, snd]); (try simp only [cmE])); omega) ?_)
  refine .loop (fun n us mm => ∃ (q1 : Option Addr) (k1 c1 : Nat) (e : Int) (i : Nat) (rs : List RD), us = [.p q1, .i k1, .i c1, .i e, .i i] ∧ n + i = cs.length + 1 ∧ Tab mm 26 2 .i64 (some ⟨g, 0, none⟩) (cs.length + 1) rs ∧ MatRows cs ws gap i 0 i rs ∧ ∀ a k, a < i → k < a → dM cs ws gap a k ≤ 1073741824) (cs.length + 1) ⟨q1, k1, c1, e, 0, _, by (simp only [evE, liE, lO, lU, snd, Sh.uss, Sh.us, atAddr, map_add0, List.append_nil]) <;> rfl, rfl, hT, hR0, fun a k h => by omega⟩ ?_
  clear hT hR0 h3 hnj
  rintro n _ m _ ⟨q1, k1, c1, e, i, rs, rfl, hni, hT, hR, hle⟩
  refine .env (by (try simp only [liE, lO, lU, snd, aN]); rfl) (.ite (fun h3 => ?_) (fun h3 => .ret rfl ⟨some ⟨g, 0, none⟩, cs.length + 1, rs, ?_, fun _ => ⟨hT, ?_⟩⟩)) <;> ((try simp only [evE, liE, lO, lU, snd] at h3); (try simp only [cmE] at h3))
  · have hi : i ≤ cs.length := by omega
    have hrl := hR.len
    refine .make (z := .int .i64 0) (bytes := 8) (cs.length + 1) Tryd.underlying26 (by kernel_rfl) rfl (by omega) (by simp [maxLen]; omega) (fun g8 hg8 hrow8 => ?_) (by show Value.int .i64 (ar .add .i64 (cs.length : Int) 1) = _; rw [e1]) (by show Value.int .i64 (ar .add .i64 (cs.length : Int) 1) = _; rw [e1])
    have hnew : ∀ (k : Nat) (hk : k < rs.length) (b' : Nat), rs[k].p = some ⟨b', 0, none⟩ → (some ⟨g8, 0, none⟩ : Option Addr) ≠ some ⟨b', 0, none⟩ := fun k hk b' h1 h2 => by
      cases h2
      rcases (hT.inn _ (List.getElem_mem hk)).2 with ⟨e, _⟩ | ⟨g', cur, e, e2, _⟩
      · rw [e] at h1; cases h1
      · rw [e] at h1; cases h1; rw [hg8] at e2; cases e2
    replace hT : Tab (m.upd g8 (.cells (madeCells #[.int .i64 0] (cs.length + 1)) 2 (0, 0))) 26 2 .i64 (some ⟨g, 0, none⟩) (cs.length + 1) rs := hT.keep fun b hb => Mem.upd_other _ _ fun e => hb (e ▸ hg8)
    refine .env (by (try simp only [liE, lO, lU, snd, aN]); rfl) (.storeR i (by omega : i < rs.length) hT.out rfl rfl (by show ((cs.length + 1 : Nat) : Int) = _; rw [hrl]) (fun m2 g2 hg2 ho2 hs2 => ?_))
    obtain rfl : g = g2 := by cases hg2; rfl
    have hT2 := hT.setRow (r := ⟨some ⟨g8, 0, none⟩, cs.length + 1, List.replicate (cs.length + 1) 0⟩) (by omega : i < rs.length) rfl (by rw [show RD.s ⟨some ⟨g8, 0, none⟩, cs.length + 1, List.replicate (cs.length + 1) 0⟩ = slv (some ⟨g8, 0, none⟩) (cs.length + 1) (cs.length + 1) by simp [RD.s]]; exact ho2) hs2 (by rw [List.length_replicate, List.map_replicate]; exact hrow8) hnew
    have hR2 := hR.row hi (some ⟨g8, 0, none⟩) (cs.length + 1)
    generalize rs.set i ⟨some ⟨g8, 0, none⟩, cs.length + 1, List.replicate (cs.length + 1) 0⟩ = rs2 at hT2 hR2
    clear hT ho2 hrow8 hs2 hnew hR hrl hg8 hg2
    refine .loop (fun n us mm => ∃ (q1 : Option Addr) (k1 c1 : Nat) (e : Int) (k : Nat) (rs : List RD), us = [.p q1, .i k1, .i c1, .i e, .i k] ∧ n + k = i ∧ Tab mm 26 2 .i64 (some ⟨g, 0, none⟩) (cs.length + 1) rs ∧ MatRows cs ws gap i k (i + 1) rs ∧ ∀ k', k' < k → dM cs ws gap i k' ≤ 1073741824) i ⟨q1, k1, c1, e, 0, rs2, by (simp only [evE, liE, lO, lU, snd, Sh.uss, Sh.us, atAddr, map_add0, List.append_nil]) <;> rfl, rfl, hT2, hR2, fun k' h => by omega⟩ ?_
    clear hT2 hR2
    rintro n2 _ m3 _ ⟨q1, k1, c1, e, k, rs, rfl, hnk, hT, hR, hlk⟩
    refine .env (by (try simp only [liE, lO, lU, snd, aN]); rfl) (.ite (fun h4 => ?_) (fun h4 => .again rfl ⟨n - 1, by omega, q1, k1, c1, e, i + 1, rs, ?_, by omega, hT, ?_, ?_⟩)) <;> ((try simp only [evE, liE, lO, lU, snd] at h4); (try simp only [cmE] at h4))
    · have hk : k < i := by omega
      have hrl := hR.len
      refine .join (fun us mm => us = [.i (dM cs ws gap i k)] ∧ m3 = mm) (.ite (fun h5 => ?_) (fun h5 => ?_)) ?_
      · ((try simp only [evE, liE, lO, lU, snd] at h5); (try simp only [cmE] at h5))
        have hil : i < cs.length := by omega
        have hkl : k < cs.length := by omega
        refine .loadW cs i hil (fun g => hp.1.mono g.R) (.env (by (try simp only [liE, lO, lU, snd, aN]); rfl) (.loadW cs k hkl (fun g => hp.1.mono g.R) (.env (by (try simp only [liE, lO, lU, snd, aN]); rfl) ?_)))
        refine .callV (c_dist cs[i] cs[k] pc cc ws gap (hWok.at hil) (hWok.at hkl)) (fun g => ⟨hp.2.1.mono g.R, hp.2.2.mono g.R⟩) (.env (by (try simp only [liE, lO, lU, snd, aN]); rfl) (.again rfl ⟨?_, rfl⟩))
        unfold dM
        rw [if_pos hil, getD_at _ _ _ hil, getD_at _ _ _ hkl]
        (simp only [evE, liE, lO, lU, snd, Sh.uss, Sh.us, atAddr, map_add0, List.append_nil])
      · ((try simp only [evE, liE, lO, lU, snd] at h5); (try simp only [cmE] at h5))
        refine .again rfl ⟨?_, rfl⟩
        unfold dM
        rw [if_neg (by omega)]
        (simp only [evE, liE, lO, lU, snd, Sh.uss, Sh.us, atAddr, map_add0, List.append_nil])
      rintro _ _ _ ⟨rfl, rfl⟩
      refine .env (by (try simp only [liE, lO, lU, snd, aN]); rfl) (.ite (fun h5 => .ret rfl ?_) (fun h5 => ?_)) <;> ((try simp only [evE, liE, lO, lU, snd] at h5); (try simp only [cmE] at h5))
      · rw [hE, if_pos (overB_yes hi hk h5)]
        exact ⟨none, 0, [], rfl, fun h => by cases h⟩
      obtain ⟨ri, hri⟩ : ∃ r, rs[i]? = some r := ⟨_, List.getElem?_eq_getElem (by omega)⟩
      obtain ⟨rk, hrk⟩ : ∃ r, rs[k]? = some r := ⟨_, List.getElem?_eq_getElem (by omega)⟩
      have hli : ri.v.length = cs.length + 1 := by
        obtain ⟨h, rfl⟩ := List.getElem?_eq_some_iff.1 hri; exact hR.rlen i h (by omega)
      have hlk' : rk.v.length = cs.length + 1 := by
        obtain ⟨h, rfl⟩ := List.getElem?_eq_some_iff.1 hrk; exact hR.rlen k h (by omega)
      have hR' := hR.step hi hk ri.p rk.p ri.cap rk.cap hri hrk
      refine .loadRow hT i ri hri (.env (by (try simp only [liE, lO, lU, snd, aN]); rfl) (.loadRow hT k rk hrk (.env (by (try simp only [liE, lO, lU, snd, aN]); rfl) ?_) rfl rfl (by rw [hrl]; rfl))) rfl rfl (by rw [hrl]; rfl)
      refine .storeT hT i k ri (dM cs ws gap i k) hri (by omega) (fun m4 hT4 _ => ?_) rfl rfl rfl rfl
      refine .storeT hT4 k i rk (dM cs ws gap i k) (by rw [List.getElem?_set_ne (by omega)]; exact hrk) (by omega) (fun m5 hT5 _ => .again rfl ⟨n2 - 1, by omega, q1, k1, c1, e, k + 1, _, ?_, by omega, hT5, hR', fun k' h => ?_⟩) rfl rfl rfl rfl
      · (simp only [evE, liE, lO, lU, snd, Sh.uss, Sh.us, atAddr, map_add0, List.append_nil]); rw [add_i64 k (by omega)]
      · rcases Nat.lt_or_ge k' k with h6 | h6
        · exact hlk k' h6
        · rw [show k' = k by omega]; exact h5
    · (simp only [evE, liE, lO, lU, snd, Sh.uss, Sh.us, atAddr, map_add0, List.append_nil]); rw [add_i64 i (by omega)]
    · rw [show k = i by omega] at hR
      exact hR.next
    · intro a k' ha hk'
      rcases Nat.lt_or_ge a i with h6 | h6
      · exact hle a k' h6 hk'
      · obtain rfl : a = i := by omega
        exact hlk k' (by omega)
  · rw [hE, if_neg (by rw [overB_no fun a k ha hk => hle a k (by omega) hk]; simp), hR.len]; rfl
  · rw [show i = cs.length + 1 by omega] at hR
    exact hR
end Go.Proofs.YtkhcfbdjmpodbaaDoor
