/- Chapter 18: words that are good; an alignment that numbers choose. -/
import Derived.Test.YtialbhieaipcgaaDoorYa
import Derived.Test.YtialbhieaipcgaaDoorTh
set_option linter.unusedSimpArgs false
set_option linter.unusedVariables false
namespace Go.Sy
open Go Go.RowKit
theorem Good.leB {c : Cx} {L : List Nat} {m : Mem} (g : Good c L m) (ρ : Env) (bl : List Blk) (n : Nat) : m.le (blkMem L ρ (L.drop n) bl m) := fun b o hb => by
  rw [blkMem_not (fun hL => by have := (g.blk b (List.mem_of_mem_drop hL)).1; rw [this] at hb; cases hb)]
  exact hb
theorem sm_lt {n : Nat} {g h : Nat → Int} (e : ∀ i, i < n → g i ≤ h i) (a : Nat) (ha : a < n) (hl : g a < h a) : sm n g < sm n h := by
  induction n with
  | zero => omega
  | succ n ih =>
    simp only [sm]
    have hle : ∀ m, (∀ i, i < m → g i ≤ h i) → sm m g ≤ sm m h := fun m => by
      induction m with
      | zero => intro _; exact Int.le_refl _
      | succ m ih2 => intro hm; simp only [sm]; have := ih2 fun i hi => hm i (by omega); have := hm m (by omega); omega
    by_cases q : a = n
    · subst q
      have := hle a fun i hi => e i (by omega)
      omega
    · have := ih (fun i hi => e i (by omega)) (by omega)
      have := e n (by omega)
      omega
def goodW (most sounds : Int) (W : List (List Snd)) : Bool := decide ((W.length : Int) ≤ most) && W.all fun w => decide ((w.length : Int) ≤ sounds) && decide (checkW w = 0)
theorem goodW_of {most sounds : Int} {W : List (List Snd)} (h : goodW most sounds W = true) : (W.length : Int) ≤ most ∧ ∀ w ∈ W, (w.length : Int) ≤ sounds ∧ checkW w = 0 := by
  unfold goodW at h
  simp only [Bool.and_eq_true, decide_eq_true_eq, List.all_eq_true] at h
  exact h
/-- Is the word k in the set? -/
def bt (s : Int) (k : Nat) : Bool := decide (ar .and .i64 (ar .shr .i64 s (k : Int)) 1 = 1)
theorem bt_255 : ∀ k, k < 8 → bt 255 k = true := by decide
/-- Has the word a sound left? -/
def lfB (W : List (List Snd)) (nx : List Int) (k : Nat) : Bool := decide (labAt nx k < wl W k)
def tkB (W : List (List Snd)) (nx : List Int) (s : Int) (k : Nat) : Bool := lfB W nx k && bt s k
def colS (W : List (List Snd)) (nx : List Int) (s : Int) (k : Nat) : Int := if tkB W nx s k = true then labAt nx k else -1
def anyB (f : Nat → Bool) (k : Nat) : Bool := (List.range k).any f
theorem anyB_succ (f : Nat → Bool) (k : Nat) : anyB f (k + 1) = (anyB f k || f k) := by
  unfold anyB; rw [List.range_succ, List.any_append]; simp
theorem anyB_yes {f : Nat → Bool} {n : Nat} (h : anyB f n = true) : ∃ k, k < n ∧ f k = true := by
  obtain ⟨k, hk, hf⟩ := List.any_eq_true.1 h
  exact ⟨k, List.mem_range.1 hk, hf⟩
theorem anyB_no {f : Nat → Bool} {n : Nat} (h : anyB f n = false) {k : Nat} (hk : k < n) : f k = false := by
  cases hf : f k with
  | false => rfl
  | true => exact absurd (List.any_eq_true.2 ⟨k, List.mem_range.2 hk, hf⟩) (by unfold anyB at h; rw [h]; decide)
theorem labAt_set {l : List Int} {k j : Nat} {x : Int} (hk : k < l.length) : labAt (l.set k x) j = if k = j then x else labAt l j := by
  unfold labAt
  rw [List.getElem?_set]
  by_cases h : k = j
  · rw [if_pos h, if_pos h, if_pos hk]; rfl
  · rw [if_neg h, if_neg h]
/-- How many sounds are left. -/
def restS (W : List (List Snd)) (n : Nat) (nx : List Int) : Int := sm n fun k => wl W k - labAt nx k
/-- What the sounds taken so far and the columns are. -/
structure ChI (W : List (List Snd)) (n : Nat) (nx : List Int) (cols : List (List Int)) : Prop where
  len : nx.length = n
  le : ∀ k, k < n → 0 ≤ labAt nx k ∧ labAt nx k ≤ wl W k
  col : ∀ c ∈ cols, c.length = n ∧ ∃ x ∈ c, x ≠ -1
  row : ∀ k, k < n → rowGo 0 (rowOf cols k) = some (labAt nx k)
  cnt : (cols.length : Int) ≤ sm n (labAt nx)
theorem ChI.next {W : List (List Snd)} {n : Nat} {nx ny : List Int} {cols : List (List Int)} {s : Int} {c : List Int} (h : ChI W n nx cols) (hy : ny.length = n) (hny : ∀ k, k < n → labAt ny k = labAt nx k + if tkB W nx s k = true then 1 else 0)
    (hc : c.length = n) (hcol : ∀ k, k < n → labAt c k = colS W nx s k) (ht : anyB (tkB W nx s) n = true) : ChI W n ny (cols ++ [c]) ∧ restS W n ny < restS W n nx := by
  obtain ⟨a, ha, hta⟩ := anyB_yes ht
  have hb := h.le a ha
  refine ⟨⟨hy, fun k hk => ?_, fun d hd => ?_, fun k hk => ?_, ?_⟩, ?_⟩
  · have := h.le k hk
    rw [hny k hk]
    by_cases ht : tkB W nx s k = true
    · rw [if_pos ht]
      unfold tkB lfB at ht
      rw [Bool.and_eq_true, decide_eq_true_eq] at ht
      omega
    · rw [if_neg ht]; omega
  · rcases List.mem_append.1 hd with hd | hd
    · exact h.col d hd
    · rw [List.mem_singleton] at hd
      subst hd
      have hac : a < d.length := by omega
      refine ⟨hc, d[a], List.getElem_mem hac, ?_⟩
      rw [← labAt_get hac, hcol a ha]
      unfold colS
      rw [if_pos hta]; omega
  · have hk' := h.le k hk
    unfold rowOf
    rw [List.map_append, rowGo_append]
    have := h.row k hk
    unfold rowOf at this
    rw [this]
    show rowGo (labAt nx k) [labAt c k] = _
    rw [hcol k hk, hny k hk]
    unfold colS
    by_cases ht : tkB W nx s k = true
    · rw [if_pos ht, if_pos ht]
      simp only [rowGo]
      rw [if_neg (by omega), if_pos trivial]
    · rw [if_neg ht, if_neg ht]
      simp only [rowGo]
      rw [if_pos trivial, Int.add_zero]
  · rw [List.length_append]
    have h1 := sm_lt (n := n) (g := labAt nx) (h := labAt ny) (fun i hi => by rw [hny i hi]; split <;> omega) a ha (by rw [hny a ha, if_pos hta]; omega)
    have := h.cnt
    simp only [List.length_cons, List.length_nil]
    omega
  · exact sm_lt (fun i hi => by rw [hny i hi]; split <;> omega) a ha (by rw [hny a ha, if_pos hta]; omega)
theorem ChI.al {W : List (List Snd)} {nx : List Int} {cols : List (List Int)} (h : ChI W W.length nx cols) (hn : anyB (lfB W nx) W.length = false) : isAl W cols = true := by
  refine isAl_yes (fun i hi => ?_) fun k hk => ?_
  · obtain ⟨h1, x, hx, h2⟩ := h.col _ (List.getElem_mem hi)
    unfold colOk
    rw [Bool.and_eq_true]
    exact ⟨decide_eq_true h1, List.any_eq_true.2 ⟨x, hx, by simpa using h2⟩⟩
  · rw [h.row k hk]
    have h1 := anyB_no hn hk
    unfold lfB at h1
    rw [decide_eq_false_iff_not] at h1
    have := h.le k hk
    congr 1; omega
theorem restS_nonneg {W : List (List Snd)} {n : Nat} {nx : List Int} {cols : List (List Int)} (h : ChI W n nx cols) : 0 ≤ restS W n nx := by
  have := sm_bound (n := n) (g := fun k => wl W k - labAt nx k) (B := sm n (fun k => wl W k - labAt nx k) + 1000000000000)
  have key : ∀ m, m ≤ n → 0 ≤ sm m (fun k => wl W k - labAt nx k) := fun m => by
    induction m with
    | zero => intro _; exact Int.le_refl _
    | succ m ih =>
      intro hm
      have := h.le m (by omega)
      have := ih (by omega)
      show 0 ≤ sm m _ + (wl W m - labAt nx m)
      omega
  exact key n (Nat.le_refl _)
theorem sm_le_mul {n : Nat} {g : Nat → Int} {B : Int} (h : ∀ i, i < n → g i ≤ B) : sm n g ≤ n * B := by
  induction n with
  | zero => show (0 : Int) ≤ ((0 : Nat) : Int) * B; simp
  | succ n ih =>
    have h1 := ih fun i hi => h i (by omega)
    have h2 := h n (by omega)
    show sm n g + g n ≤ ((n + 1 : Nat) : Int) * B
    rw [Int.natCast_add, Int.add_mul]
    have : ((1 : Nat) : Int) * B = B := by simp
    omega
theorem ChI.cnt_le {W : List (List Snd)} {n : Nat} {nx : List Int} {cols : List (List Int)} (h : ChI W n nx cols) (hn : n ≤ 8) (hw : ∀ k, k < n → wl W k ≤ 32) : cols.length ≤ 256 := by
  have h1 := sm_le_mul (n := n) (g := labAt nx) (B := 32) fun k hk => Int.le_trans (h.le k hk).2 (hw k hk)
  have := h.cnt
  omega
end Go.Sy
namespace Go.Proofs.YtialbhieaipcgaaDoor
open Go Go.Sy Go.RowKit
theorem c_good (p : Option Addr) (cp : Nat) (l : List WD) (most sounds : Int) (hl : l.length < 2 ^ 63) (hok : ∀ x ∈ l, Wok x.w) (hw : ∀ x ∈ l, x.w.length < 2 ^ 63) :
    RetP Tryd.prog n_law18_good [slv p l.length cp, .int .i64 most, .int .i64 sounds] (fun R => WordsAt R p l) (.bool (goodW most sounds (l.map (·.w)))) := by
  refine Fn.of S_law18_good mx [.p p, .i l.length, .i cp, .i most, .i sounds] rfl rfl fun c hp => .chk (by ((try simp only [evE, liE, letsOf, letU, snd]); (try simp only [cmE])); omega) (.ite (fun h1 => .ret rfl ?_) (fun h1 => ?_)) <;> ((try simp only [evE, liE, letsOf, letU, snd] at h1); (try simp only [cmE] at h1))
  · unfold goodW; rw [List.length_map, decide_eq_false (by omega)]; rfl
  refine .loop (fun z us _ => ∃ (e : Bool) (j : Nat), us = [.b e, .i j] ∧ z + j = l.length ∧ ∀ x ∈ l.take j, (x.w.length : Int) ≤ sounds ∧ checkW x.w = 0) l.length ⟨false, 0, rfl, rfl, fun x hx => by cases hx⟩ ?_
  rintro z _ m _ ⟨e, j, rfl, hz, hb⟩
  refine .env (by (try simp only [liE, letsOf, letU, snd, List.append_nil]); rfl) (.chk (by ((try simp only [evE, liE, letsOf, letU, snd]); (try simp only [cmE])); omega) (.ite (fun h3 => ?_) (fun h3 => .ret rfl ?_))) <;> ((try simp only [evE, liE, letsOf, letU, snd] at h3); (try simp only [cmE] at h3))
  · have hj : j < l.length := by omega
    have hno : ∀ b : Bool, (decide ((l[j].w.length : Int) ≤ sounds) && decide (checkW l[j].w = 0)) = false → goodW most sounds (l.map (·.w)) = false := fun _ hf => by
      unfold goodW
      have : (l.map (·.w)).all (fun w => decide ((w.length : Int) ≤ sounds) && decide (checkW w = 0)) = false := by
        rw [Bool.eq_false_iff]; intro ha
        have := List.all_eq_true.1 ha l[j].w (List.mem_map_of_mem (List.getElem_mem hj))
        rw [hf] at this; cases this
      rw [this, Bool.and_false]
    refine .loadWD l j hj (fun g => hp.1.mono g.R) (.env (by (try simp only [liE, letsOf, letU, snd, List.append_nil]); rfl) (.chk (by ((try simp only [evE, liE, letsOf, letU, snd]); (try simp only [cmE])); omega) (.ite (fun h4 => .ret rfl ?_) (fun h4 => .loadWD l j hj (fun g => hp.1.mono g.R) (.env (by (try simp only [liE, letsOf, letU, snd, List.append_nil]); rfl) (.callV (c_wordCheck l[j].p l[j].cap l[j].w (hok _ (List.getElem_mem hj))) (fun g => (hp.2 _ (List.getElem_mem hj)).mono g.R) (.env (by (try simp only [liE, letsOf, letU, snd, List.append_nil]); rfl) (.ite (fun h5 => .ret rfl ?_) (fun h5 => .again rfl ⟨z - 1, by omega, e, j + 1, ?_, by omega, fun x hx => ?_⟩))))))))) <;> ((try simp only [evE, liE, letsOf, letU, snd] at h4); (try simp only [cmE] at h4))
    · rw [hno true (by rw [decide_eq_false (by omega)]; rfl)]; rfl
    · ((try simp only [evE, liE, letsOf, letU, snd] at h5); (try simp only [cmE] at h5))
      rw [hno true (by rw [decide_eq_false h5, Bool.and_false])]; rfl
    · (simp only [evE, liE, letsOf, letU, snd, Sh.uss, Sh.us, atAddr, map_add0, List.append_nil]); rw [add_i64 j (by omega)]
    · ((try simp only [evE, liE, letsOf, letU, snd] at h5); (try simp only [cmE] at h5))
      rw [List.take_succ_eq_append_getElem hj, List.mem_append, List.mem_singleton] at hx
      rcases hx with hx | rfl
      · exact hb x hx
      · exact ⟨by omega, h5⟩
  · have hj : j = l.length := by omega
    rw [hj, List.take_length] at hb
    have : goodW most sounds (l.map (·.w)) = true := by
      unfold goodW
      simp only [Bool.and_eq_true, decide_eq_true_eq, List.all_eq_true, List.length_map, List.mem_map]
      refine ⟨by omega, ?_⟩
      rintro _ ⟨x, hx, rfl⟩; exact hb x hx
    rw [this]; rfl
set_option maxHeartbeats 1000000 in
theorem c_choice (p ps : Option Addr) (cp cs : Nat) (l : List WD) (st : List Int) (hl : l.length ≤ 8) (hw : ∀ x ∈ l, x.w.length ≤ 32) (hs : st.length < 2 ^ 40) :
    FnM Tryd.prog n_law18_choice [slv p l.length cp, slv ps st.length cs] (fun R => WordsAt R p l ∧ Cells R ps (st.map (.int .u8))) fun v mq _ => ∃ q cq rs, v = slv q rs.length cq ∧ TabI mq q cq rs ∧ isAl (l.map (·.w)) (rs.map (·.l)) = true ∧ rs.length ≤ 256 := by
  have hwlen : (l.map (·.w)).length = l.length := List.length_map _
  have hwl : ∀ k, k < l.length → wl (l.map (·.w)) k ≤ 32 := fun k hk => by rw [wl_at l hk]; have := hw _ (List.getElem_mem hk); omega
  refine FnM.of S_law18_choice mx [.p p, .i l.length, .i cp, .p ps, .i st.length, .i cs] rfl rfl fun c hp => .chk (by ((try simp only [evE, liE, letsOf, letU, snd]); (try simp only [cmE])); omega) (.make (z := .int .i64 0) (bytes := 8) l.length Tryd.underlying49 int_info rfl (by omega) (by simp [maxLen]; omega) (fun gn hgn hrow => ?_))
  generalize Mem.upd _ gn _ = m0 at hrow ⊢
  rw [row_ints] at hrow
  refine .env (by (try simp only [liE, letsOf, letU, snd, List.append_nil]); rfl) (.loop (fun z us m => ∃ (q : Option Addr) (cq i : Nat) (rs : List IR) (nx : List Int), us = [.p none, .i 0, .i 0, .p q, .i rs.length, .i cq, .i i] ∧ z = (restS (l.map (·.w)) l.length nx).toNat + (st.length - i) ∧ i ≤ 2 ^ 41 ∧ i + z ≤ 2 ^ 41 ∧ ChI (l.map (·.w)) l.length nx (rs.map (·.l)) ∧ TabR m q cq rs ∧ Row m 3 1 (some ⟨gn, 0, none⟩) l.length l.length (intsL nx) ∧ ∀ r ∈ rs, r.p ≠ some ⟨gn, 0, none⟩)
    ((restS (l.map (·.w)) l.length (List.replicate l.length 0)).toNat + st.length) ⟨none, 0, 0, [], List.replicate l.length 0, rfl, by rw [Nat.sub_zero], by omega, ?_, ?_, .nil _, hrow, nofun⟩ ?_)
  · have h1 := sm_le_mul (n := l.length) (g := fun k => wl (l.map (·.w)) k - labAt (List.replicate l.length 0) k) (B := 32) fun k hk => by
      have := hwl k hk
      unfold labAt
      rw [List.getElem?_replicate, if_pos hk]
      show _ - (0 : Int) ≤ _
      omega
    unfold restS
    omega
  · refine ⟨List.length_replicate, fun k hk => ?_, nofun, fun k hk => ?_, ?_⟩
    · unfold labAt wl
      rw [List.getElem?_replicate, if_pos hk]
      exact ⟨Int.le_refl _, Int.natCast_nonneg _⟩
    · unfold labAt
      rw [List.getElem?_replicate, if_pos hk]; rfl
    · show (0 : Int) ≤ _
      have := sm_bound (n := l.length) (g := labAt (List.replicate l.length 0)) (B := 0) fun k hk => by
        unfold labAt
        rw [List.getElem?_replicate, if_pos hk]
        exact ⟨Int.le_refl _, Int.le_refl _⟩
      exact this.1
  clear hrow hgn m0
  rintro z _ m _ ⟨q, cq, i, rs, nx, rfl, rfl, hi41, hiz, hCh, hT, hN, hap⟩
  have hcnt := hCh.cnt_le hl hwl
  rw [List.length_map] at hcnt
  have hrest := restS_nonneg hCh
  refine .env (by (try simp only [liE, letsOf, letU, snd, List.append_nil]); rfl) (.join (fun us m => ∃ (q : Option Addr) (cq : Nat) (rs' : List IR) (nx' : List Int), us = [.p none, .i 0, .i 0, .p q, .i rs'.length, .i cq] ∧ (restS (l.map (·.w)) l.length nx').toNat + (st.length - (i + 1)) < (restS (l.map (·.w)) l.length nx).toNat + (st.length - i) ∧ ChI (l.map (·.w)) l.length nx' (rs'.map (·.l)) ∧ TabR m q cq rs' ∧ Row m 3 1 (some ⟨gn, 0, none⟩) l.length l.length (intsL nx') ∧ ∀ r ∈ rs', r.p ≠ some ⟨gn, 0, none⟩) (.chk (by ((try simp only [evE, liE, letsOf, letU, snd]); (try simp only [cmE])); omega) ?_) ?_)
  rotate_left
  · rintro _ m2 _ ⟨q', cq', rs', nx', rfl, hlt, h1, h2, h3, h4⟩
    refine .env (by (try simp only [liE, letsOf, letU, snd, List.append_nil]); rfl) (.again rfl ⟨_, hlt, q', cq', i + 1, rs', nx', ?_, rfl, by omega, by omega, h1, h2, h3, h4⟩)
    (simp only [evE, liE, letsOf, letU, snd, Sh.uss, Sh.us, atAddr, map_add0, List.append_nil]); rw [add_i64 i (by omega)]
  refine .join (fun us m' => ∃ s : Int, us = [.i s] ∧ (st.length ≤ i → s = 255) ∧ m = m') ?_ ?_
  · refine .ite (fun h1 => ?_) (fun h1 => .again rfl ⟨255, rfl, fun _ => rfl, rfl⟩) <;> ((try simp only [evE, liE, letsOf, letU, snd] at h1); (try simp only [cmE] at h1))
    have hi : i < st.length := by omega
    refine .elem1 (.int .u8 st[i]) (st.map (.int .u8)) i st.length rfl rfl hi (fun g => hp.2.mono g.R) (by rw [List.getElem?_map, List.getElem?_eq_getElem hi]; rfl) (.env (by (try simp only [liE, letsOf, letU, snd, List.append_nil]); rfl) (.again rfl ⟨_, rfl, fun h => by omega, rfl⟩))
  rintro _ _ _ ⟨s, rfl, hs255, rfl⟩
  refine .env (by (try simp only [liE, letsOf, letU, snd, List.append_nil]); rfl) (.chk (by ((try simp only [evE, liE, letsOf, letU, snd]); (try simp only [cmE])); omega) (.make (z := .int .i64 0) (bytes := 8) l.length Tryd.underlying49 int_info rfl (by omega) (by simp [maxLen]; omega) (fun gc hgc hrow => ?_)))
  have hle : m.le (m.upd gc (.cells (madeCells #[Value.int .i64 0] l.length) 3 (0, 0))) := fun b o hb => by
    rw [Mem.upd_other _ _ (fun e => by rw [e, hgc] at hb; cases hb)]; exact hb
  generalize Mem.upd _ gc _ = m1 at hrow hle ⊢
  rw [row_ints] at hrow
  have hN1 := Row.le hN hle
  have hgcn : gc ≠ gn := fun e => by
    rcases hN.2 with ⟨h, _⟩ | ⟨g, cur, h, hg, _⟩
    · cases h
    · cases h; rw [e, hg] at hgc; cases hgc
  refine .env (by (try simp only [liE, letsOf, letU, snd, List.append_nil]); rfl) (.loop (fun z us m2 => ∃ (k : Nat) (xs : List Int), us = [.b (anyB (lfB (l.map (·.w)) nx) k), .b (anyB (tkB (l.map (·.w)) nx s) k), .i k] ∧ z + k = l.length ∧ m.le m2 ∧ xs.length = l.length ∧ Row m2 3 1 (some ⟨gc, 0, none⟩) l.length l.length (intsL xs) ∧ ∀ j, j < k → labAt xs j = colS (l.map (·.w)) nx s j) l.length
    ⟨0, List.replicate l.length 0, rfl, rfl, hle, List.length_replicate, hrow, fun j hj => by omega⟩ ?_)
  clear hrow hle hN1 m1
  rintro z2 _ m2 _ ⟨k, xs, rfl, hz2, hle, hxl, hR, hxs⟩
  have hN2 := Row.le hN hle
  refine .env (by (try simp only [liE, letsOf, letU, snd, List.append_nil]); rfl) (.chk (by ((try simp only [evE, liE, letsOf, letU, snd]); (try simp only [cmE])); omega) (.ite (fun h1 => ?_) (fun h1 => ?_))) <;> ((try simp only [evE, liE, letsOf, letU, snd] at h1); (try simp only [cmE] at h1))
  · have hk : k < l.length := by omega
    have hnxl : k < nx.length := by rw [hCh.len]; exact hk
    have hstep : ∀ {m m3 : Mem} {g : Nat}, m.le m2 → (∀ b, b ≠ gc → m3 b = m2 b) → m gc = none → m.le m3 := fun h hb hg b o hbo => by
      rw [hb b (fun e => by rw [e, hg] at hbo; cases hbo)]; exact h b o hbo
    refine .storeR k hk hR rfl rfl rfl fun m3 g3 hg3 hR3 hs3 => ?_
    cases hg3
    replace hR3 : Row m3 3 1 (some ⟨gc, 0, none⟩) l.length l.length ((intsL xs).set k (.int .i64 (-1))) := hR3
    rw [intsL_set] at hR3
    have hle3 : m.le m3 := fun b o hbo => by rw [hs3 b (fun e => by rw [e, hgc] at hbo; cases hbo)]; exact hle b o hbo
    have hN3 := Row.le hN hle3
    refine .elem1 (.int .i64 (labAt nx k)) (intsL nx) k l.length rfl rfl hk (fun g => hN3.reads g) (intsL_at nx k hnxl) (.env (by (try simp only [liE, letsOf, letU, snd, List.append_nil]); rfl) (.loadWD l k hk (fun g => hp.1.1.mono g.R) (.env (by (try simp only [liE, letsOf, letU, snd, List.append_nil]); rfl) (.chk (by ((try simp only [evE, liE, letsOf, letU, snd]); (try simp only [cmE])); omega) ?_))))
    have hwk := wl_at l hk
    refine .join (fun us m4 => us = [.b (anyB (lfB (l.map (·.w)) nx) (k + 1)), .b (anyB (tkB (l.map (·.w)) nx s) (k + 1))] ∧ m.le m4 ∧ Row m4 3 1 (some ⟨gc, 0, none⟩) l.length l.length (intsL (xs.set k (colS (l.map (·.w)) nx s k)))) ?_ ?_
    · rw [anyB_succ, anyB_succ]
      refine .ite (fun h2 => .chk (by ((try simp only [evE, liE, letsOf, letU, snd]); (try simp only [cmE])); omega) ?_) (fun h2 => .again rfl ⟨?_, hle3, ?_⟩) <;> ((try simp only [evE, liE, letsOf, letU, snd] at h2); (try simp only [cmE] at h2))
      · have hlf : lfB (l.map (·.w)) nx k = true := decide_eq_true (by rw [hwk]; omega)
        have htk : tkB (l.map (·.w)) nx s k = bt s k := by unfold tkB; rw [hlf, Bool.true_and]
        refine .join (fun us m4 => us = [.b (anyB (tkB (l.map (·.w)) nx s) k || tkB (l.map (·.w)) nx s k)] ∧ m.le m4 ∧ Row m4 3 1 (some ⟨gc, 0, none⟩) l.length l.length (intsL (xs.set k (colS (l.map (·.w)) nx s k)))) (.ite (fun h3 => ?_) (fun h3 => .again rfl ⟨?_, hle3, ?_⟩)) ?_
        · have hb : bt s k = true := h3
          refine .elem1 (.int .i64 (labAt nx k)) (intsL nx) k l.length rfl rfl hk (fun g => hN3.reads g) (intsL_at nx k hnxl) (.env (by (try simp only [liE, letsOf, letU, snd, List.append_nil]); rfl) (.storeR k hk hR3 rfl rfl rfl fun m4 g4 hg4 hR4 hs4 => ?_))
          cases hg4
          replace hR4 : Row m4 3 1 (some ⟨gc, 0, none⟩) l.length l.length ((intsL (xs.set k (-1))).set k (.int .i64 (labAt nx k))) := hR4
          rw [intsL_set, List.set_set] at hR4
          refine .again rfl ⟨?_, fun b o hbo => by rw [hs4 b (fun e => by rw [e, hgc] at hbo; cases hbo)]; exact hle3 b o hbo, ?_⟩
          · rw [htk, hb, Bool.or_true]; rfl
          · unfold colS; rw [htk, hb, if_pos rfl]; exact hR4
        · have hb : bt s k = false := h3
          rw [htk, hb, Bool.or_false]; rfl
        · have hb : bt s k = false := h3
          unfold colS; rw [htk, hb, if_neg (by decide)]; exact hR3
        · rintro _ m4 _ ⟨rfl, h5, h6⟩
          refine .env (by (try simp only [liE, letsOf, letU, snd, List.append_nil]); rfl) (.again rfl ⟨?_, h5, h6⟩)
          rw [hlf, Bool.or_true]; rfl
      · have hlf : lfB (l.map (·.w)) nx k = false := decide_eq_false (by rw [hwk]; omega)
        have htk : tkB (l.map (·.w)) nx s k = false := by unfold tkB; rw [hlf, Bool.false_and]
        rw [hlf, htk, Bool.or_false, Bool.or_false]; rfl
      · have hlf : lfB (l.map (·.w)) nx k = false := decide_eq_false (by rw [hwk]; omega)
        have htk : tkB (l.map (·.w)) nx s k = false := by unfold tkB; rw [hlf, Bool.false_and]
        unfold colS; rw [htk, if_neg (by decide)]; exact hR3
    · rintro _ m4 _ ⟨rfl, h5, h6⟩
      refine .env (by (try simp only [liE, letsOf, letU, snd, List.append_nil]); rfl) (.again rfl ⟨z2 - 1, by omega, k + 1, xs.set k (colS (l.map (·.w)) nx s k), ?_, by omega, h5, by rw [List.length_set]; exact hxl, h6, fun j hj => ?_⟩)
      · (simp only [evE, liE, letsOf, letU, snd, Sh.uss, Sh.us, atAddr, map_add0, List.append_nil]); rw [add_i64 k (by omega)]
      · rw [labAt_set (by omega)]
        by_cases e : k = j
        · rw [if_pos e, e]
        · rw [if_neg e]; exact hxs j (by omega)
  · obtain rfl : k = l.length := by omega
    refine .ite (fun h2 => .ret rfl ⟨q, cq, rs, rfl, (hT.le hle).tab, ?_, hcnt⟩) (fun h2 => .ite (fun h3 => .again rfl ⟨q, cq, rs, nx, by (simp only [evE, liE, letsOf, letU, snd, Sh.uss, Sh.us, atAddr, map_add0, List.append_nil]), ?_, hCh, hT.le hle, hN2, hap⟩) (fun h3 => ?_)) <;> ((try simp only [evE, liE, letsOf, letU, snd] at h2); (try simp only [cmE] at h2))
    · refine ChI.al (nx := nx) (by rw [hwlen]; exact hCh) (by rw [hwlen]; exact h2)
    · ((try simp only [evE, liE, letsOf, letU, snd] at h3); (try simp only [cmE] at h3))
      have hi : i < st.length := by
        rcases Nat.lt_or_ge i st.length with h | h
        · exact h
        · rw [hs255 h] at h3
          obtain ⟨a, ha, hla⟩ := anyB_yes h2
          have := anyB_no h3 ha
          unfold tkB at this
          rw [hla, bt_255 a (by omega)] at this
          cases this
      omega
    · ((try simp only [evE, liE, letsOf, letU, snd] at h3); (try simp only [cmE] at h3))
      refine .loop (fun z us m3 => ∃ (k : Nat) (ny : List Int), us = [.i k] ∧ z + k = l.length ∧ ny.length = l.length ∧ (∀ b, b ≠ gn → m3 b = m2 b) ∧ Row m3 3 1 (some ⟨gn, 0, none⟩) l.length l.length (intsL ny) ∧ ∀ j, j < l.length → labAt ny j = labAt nx j + if j < k ∧ tkB (l.map (·.w)) nx s j = true then 1 else 0) l.length
        ⟨0, nx, rfl, rfl, hCh.len, fun _ _ => rfl, hN2, fun j _ => by rw [if_neg (by omega), Int.add_zero]⟩ ?_
      rintro z3 _ m3 _ ⟨k, ny, rfl, hz3, hnyl, hb3, hN3, hny⟩
      have hR3 : Row m3 3 1 (some ⟨gc, 0, none⟩) l.length l.length (intsL xs) := hR.keep fun b hb _ => by cases hb; exact hb3 gc hgcn
      refine .env (by (try simp only [liE, letsOf, letU, snd, List.append_nil]); rfl) (.chk (by ((try simp only [evE, liE, letsOf, letU, snd]); (try simp only [cmE])); omega) (.ite (fun h4 => ?_) (fun h4 => ?_))) <;> ((try simp only [evE, liE, letsOf, letU, snd] at h4); (try simp only [cmE] at h4))
      · have hk : k < l.length := by omega
        have hnk := hCh.le k hk
        refine .elem1 (.int .i64 (labAt xs k)) (intsL xs) k l.length rfl rfl hk (fun g => hR3.reads g) (intsL_at xs k (by omega)) (.env (by (try simp only [liE, letsOf, letU, snd, List.append_nil]); rfl) ?_)
        have hxk := hxs k hk
        refine .join (fun us m4 => us = [] ∧ ∃ ny' : List Int, ny'.length = l.length ∧ (∀ b, b ≠ gn → m4 b = m2 b) ∧ Row m4 3 1 (some ⟨gn, 0, none⟩) l.length l.length (intsL ny') ∧ ∀ j, j < l.length → labAt ny' j = labAt nx j + if j < k + 1 ∧ tkB (l.map (·.w)) nx s j = true then 1 else 0) (.ite (fun h5 => ?_) (fun h5 => .again rfl ⟨rfl, ny, hnyl, hb3, hN3, fun j hj => ?_⟩)) ?_
        · ((try simp only [evE, liE, letsOf, letU, snd] at h5); (try simp only [cmE] at h5))
          have ht : tkB (l.map (·.w)) nx s k = true := by
            by_cases h : tkB (l.map (·.w)) nx s k = true
            · exact h
            · rw [hxk] at h5; unfold colS at h5; rw [if_neg h] at h5; omega
          have hnk2 : labAt ny k = labAt nx k := by rw [hny k hk, if_neg (by omega), Int.add_zero]
          refine .elem1 (.int .i64 (labAt ny k)) (intsL ny) k l.length rfl rfl hk (fun g => hN3.reads g) (intsL_at ny k (by omega)) (.env (by (try simp only [liE, letsOf, letU, snd, List.append_nil]); rfl) (.storeR k hk hN3 rfl rfl rfl fun m4 g4 hg4 hR4 hs4 => ?_))
          cases hg4
          replace hR4 : Row m4 3 1 (some ⟨gn, 0, none⟩) l.length l.length ((intsL ny).set k (.int .i64 (ar .add .i64 (labAt ny k) 1))) := hR4
          have hwk := hwl k hk
          rw [intsL_set, addI (by omega) (by omega)] at hR4
          refine .again rfl ⟨rfl, ny.set k (labAt ny k + 1), by rw [List.length_set]; exact hnyl, fun b hb => by rw [hs4 b hb, hb3 b hb], hR4, fun j hj => ?_⟩
          rw [labAt_set (by omega)]
          by_cases e : k = j
          · subst e
            rw [if_pos rfl, hnk2, if_pos ⟨by omega, ht⟩]
          · rw [if_neg e, hny j hj]
            congr 1
            by_cases hjk : j < k ∧ tkB (l.map (·.w)) nx s j = true
            · rw [if_pos hjk, if_pos ⟨by omega, hjk.2⟩]
            · rw [if_neg hjk, if_neg (fun h => hjk ⟨by omega, h.2⟩)]
        · ((try simp only [evE, liE, letsOf, letU, snd] at h5); (try simp only [cmE] at h5))
          have ht : ¬ tkB (l.map (·.w)) nx s k = true := fun h => by
            rw [hxk] at h5; unfold colS at h5; rw [if_pos h] at h5; omega
          rw [hny j hj]
          congr 1
          by_cases hjk : j < k ∧ tkB (l.map (·.w)) nx s j = true
          · rw [if_pos hjk, if_pos ⟨by omega, hjk.2⟩]
          · rw [if_neg hjk, if_neg (fun h => hjk ⟨by
              rcases Nat.lt_or_ge j k with h' | h'
              · exact h'
              · obtain rfl : j = k := by omega
                exact absurd h.2 ht, h.2⟩)]
        · rintro _ m4 _ ⟨rfl, ny', a1, a2, a3, a4⟩
          refine .env (by (try simp only [liE, letsOf, letU, snd, List.append_nil]); rfl) (.again rfl ⟨z3 - 1, by omega, k + 1, ny', ?_, by omega, a1, a2, a3, a4⟩)
          (simp only [evE, liE, letsOf, letU, snd, Sh.uss, Sh.us, atAddr, map_add0, List.append_nil]); rw [add_i64 k (by omega)]
      · obtain rfl : k = l.length := by omega
        have hny' : ∀ j, j < l.length → labAt ny j = labAt nx j + if tkB (l.map (·.w)) nx s j = true then 1 else 0 := fun j hj => by
          rw [hny j hj]
          congr 1
          by_cases h : tkB (l.map (·.w)) nx s j = true
          · rw [if_pos h, if_pos ⟨hj, h⟩]
          · rw [if_neg h, if_neg (fun h' => h h'.2)]
        obtain ⟨hC2, hlt⟩ := hCh.next hnyl hny' hxl hxs h3
        have hr2 := restS_nonneg hC2
        have hT3 : TabR m3 q cq rs := by
          have hT2 := hT.le hle
          refine ⟨hT2.out.keep fun b hb _ => hb3 b fun e => Row.apart hT2.out hN2 (by decide) b hb (by rw [e]), fun r hr => ⟨fun hl => ((hT2.rows r hr).row hl).keep fun b hb _ => hb3 b fun e => hap r hr (by rw [hb, e]), (hT2.rows r hr).nil, (hT2.rows r hr).le⟩⟩
        refine .alloc' fun b0 _ hb0 _ => .append (q := q) (cap := cq) (n := rs.length) (qx := some ⟨b0, 0, none⟩) (kx := 1) (capx := 1) (news := [slv (some ⟨gc, 0, none⟩) l.length l.length]) elT hT3.out (fun gd => gd.cells (j := 0) rfl rfl rfl) rfl (by simp [slv, Value.oneCell']) (fun h => by cases h) (by simp [maxLen]; omega) (by omega) (fun q' cap' m' hr' hk' hq' => .againL rfl fun gd => ⟨q', cap', rs ++ [⟨some ⟨gc, 0, none⟩, l.length, xs⟩], ny, ?_, by omega, ?_, ?_, ?_, ?_⟩)
        · (simp only [evE, liE, letsOf, letU, snd, Sh.uss, Sh.us, atAddr, map_add0, List.append_nil]); rw [List.length_append]; rfl
        · rw [List.map_append]; exact hC2
        · have hT4 : TabR m' q' cap' (rs ++ [⟨some ⟨gc, 0, none⟩, l.length, xs⟩]) := hT3.push (r := ⟨some ⟨gc, 0, none⟩, l.length, xs⟩) (RowI.of (by rw [hxl]; exact hR3)) (by show Row _ _ _ _ _ _ (rs.map IR.v ++ [slv (some ⟨gc, 0, none⟩) xs.length l.length]); rw [hxl]; exact hr') hk'
          exact hT4.le (gd.leB _ _ 0)
        · exact Row.le (hN3.keepA hT3.out (by decide) hk') (gd.leB _ _ 0)
        · intro r hr
          rcases List.mem_append.1 hr with hr | hr
          · exact hap r hr
          · rw [List.mem_singleton] at hr; subst hr
            intro e; cases e; exact hgcn rfl
end Go.Proofs.YtialbhieaipcgaaDoor
