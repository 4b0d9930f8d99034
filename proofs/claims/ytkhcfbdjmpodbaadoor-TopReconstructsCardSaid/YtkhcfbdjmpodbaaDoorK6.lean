/- Layer 20: the columns of an entry. -/
import Derived.Test.YtkhcfbdjmpodbaaDoorK5
set_option linter.unusedSimpArgs false
set_option linter.unusedVariables false
namespace Go.Sy
open Go Go.RowKit Go.Proofs.YtkhcfbdjmpodbaaDoor
def hasB (l : List FD) (i : Nat) : Bool := (l[i]?.map FD.has).getD false
def rankF (l : List FD) : Nat → Nat
  | 0 => 0
  | j + 1 => rankF l j + if hasB l j = true then 1 else 0
def knownI (l : List FD) : Nat → List Int
  | 0 => []
  | j + 1 => if hasB l j = true then knownI l j ++ [(j : Int)] else knownI l j
def wordsL (l : List FD) : Nat → List WD
  | 0 => []
  | j + 1 => match l[j]? with
    | some f => if f.has = true then wordsL l j ++ [f.w] else wordsL l j
    | none => wordsL l j
theorem hasB_at {l : List FD} {i : Nat} (h : i < l.length) : hasB l i = l[i].has := by unfold hasB; rw [List.getElem?_eq_getElem h]; rfl
theorem knownI_len (l : List FD) (j : Nat) : (knownI l j).length = rankF l j := by
  induction j with
  | zero => rfl
  | succ j ih =>
    unfold knownI rankF
    split
    · rw [List.length_append, ih]; rfl
    · rw [ih]; rfl
theorem wordsL_succ {l : List FD} {j : Nat} (h : j < l.length) : wordsL l (j + 1) = if l[j].has = true then wordsL l j ++ [l[j].w] else wordsL l j := by
  show (match l[j]? with | some f => if f.has = true then wordsL l j ++ [f.w] else wordsL l j | none => wordsL l j) = _
  rw [List.getElem?_eq_getElem h]
theorem wordsL_len {l : List FD} {j : Nat} (h : j ≤ l.length) : (wordsL l j).length = rankF l j := by
  induction j with
  | zero => rfl
  | succ j ih =>
    rw [wordsL_succ (by omega)]
    show _ = rankF l j + if hasB l j = true then 1 else 0
    rw [hasB_at (by omega)]
    split
    · rw [List.length_append, ih (by omega)]; rfl
    · rw [ih (by omega)]; rfl
theorem rankF_mono (l : List FD) {i j : Nat} (h : i ≤ j) : rankF l i ≤ rankF l j := by
  induction j with
  | zero => rw [Nat.le_zero.1 h]; exact Nat.le_refl _
  | succ j ih =>
    rcases Nat.lt_or_ge i (j + 1) with h2 | h2
    · have := ih (by omega)
      show rankF l i ≤ rankF l j + _
      omega
    · rw [show i = j + 1 by omega]; exact Nat.le_refl _
theorem rankF_le (l : List FD) (j : Nat) : rankF l j ≤ j := by
  induction j with
  | zero => exact Nat.le_refl _
  | succ j ih => unfold rankF; split <;> omega
theorem rankF_inj {l : List FD} {i j : Nat} (hi : hasB l i = true) (hj : hasB l j = true) (h : rankF l i = rankF l j) : i = j := by
  have key : ∀ a b, hasB l a = true → a < b → rankF l a < rankF l b := fun a b ha hab => by
    have h1 : rankF l (a + 1) = rankF l a + 1 := by show _ + _ = _; rw [if_pos ha]
    have h2 := rankF_mono l (show a + 1 ≤ b by omega)
    omega
  rcases Nat.lt_trichotomy i j with h1 | h1 | h1
  · have := key i j hi h1; omega
  · exact h1
  · have := key j i hj h1; omega
theorem knownI_at {l : List FD} {n k : Nat} (h : k < rankF l n) : ∃ i, i < n ∧ hasB l i = true ∧ rankF l i = k ∧ (knownI l n)[k]? = some (i : Int) := by
  induction n with
  | zero => exact absurd h (Nat.not_lt_zero _)
  | succ n ih =>
    have hl := knownI_len l n
    rcases Nat.lt_or_ge k (rankF l n) with h2 | h2
    · obtain ⟨i, h3, h4, h5, h6⟩ := ih h2
      refine ⟨i, by omega, h4, h5, ?_⟩
      unfold knownI
      split
      · rw [List.getElem?_append_left (by omega)]; exact h6
      · exact h6
    · unfold rankF at h
      by_cases hb : hasB l n = true
      · rw [if_pos hb] at h
        refine ⟨n, by omega, hb, by omega, ?_⟩
        unfold knownI
        rw [if_pos hb, List.getElem?_append_right (by omega), hl, show k - rankF l n = 0 by omega]; rfl
      · rw [if_neg hb] at h; omega
theorem wordsL_mem {l : List FD} {j : Nat} {x : WD} (h : x ∈ wordsL l j) : ∃ f ∈ l, f.has = true ∧ f.w = x := by
  induction j with
  | zero => cases h
  | succ j ih =>
    rcases Nat.lt_or_ge j l.length with hj | hj
    · rw [wordsL_succ hj] at h
      split at h
      · rename_i hh
        rcases List.mem_append.1 h with h | h
        · exact ih h
        · rw [List.mem_singleton] at h; subst h
          exact ⟨l[j], List.getElem_mem hj, hh, rfl⟩
      · exact ih h
    · have : wordsL l (j + 1) = wordsL l j := by
        show (match l[j]? with | some f => if f.has = true then wordsL l j ++ [f.w] else wordsL l j | none => wordsL l j) = _
        rw [List.getElem?_eq_none hj]
      rw [this] at h; exact ih h
theorem wordsL_at {l : List FD} {n i : Nat} (hn : n ≤ l.length) (hi : i < n) (hb : hasB l i = true) : (wordsL l n)[rankF l i]? = some (l[i]'(by omega)).w := by
  induction n with
  | zero => omega
  | succ n ih =>
    have hl := wordsL_len (l := l) (j := n) (by omega)
    rw [wordsL_succ (by omega)]
    rcases Nat.lt_or_ge i n with h | h
    · have := ih (by omega) h
      have hlt := (List.getElem?_eq_some_iff.1 this).1
      split
      · rw [List.getElem?_append_left hlt]; exact this
      · exact this
    · have e : i = n := by omega
      subst e
      rw [hasB_at (by omega)] at hb
      rw [if_pos hb, List.getElem?_append_right (by omega), hl, Nat.sub_self]; rfl
def entC (l : List FD) (W : List (List Snd)) (col : List Int) (k : Nat) : List CE := (List.range l.length).map fun i => if (hasB l i && decide (rankF l i < k)) = true then cellE (W.getD (rankF l i) []) (labAt col (rankF l i)) else (0, (0, 0))
def entryC (l : List FD) (cols : List (List Int)) : List (List CE) := cols.map fun col => entC l ((wordsL l l.length).map (·.w)) col (rankF l l.length)
theorem entC_len (l : List FD) (W : List (List Snd)) (col : List Int) (k : Nat) : (entC l W col k).length = l.length := by unfold entC; rw [List.length_map, List.length_range]
theorem entC_zero (l : List FD) (W : List (List Snd)) (col : List Int) : entC l W col 0 = List.replicate l.length (0, (0, 0)) := by
  unfold entC
  refine List.eq_replicate_iff.2 ⟨by rw [List.length_map, List.length_range], fun x hx => ?_⟩
  obtain ⟨i, _, rfl⟩ := List.mem_map.1 hx
  simp
theorem entC_step {l : List FD} {W : List (List Snd)} {col : List Int} {k i : Nat} (hi : i < l.length) (hb : hasB l i = true) (hr : rankF l i = k) : (entC l W col k).set i (cellE (W.getD k []) (labAt col k)) = entC l W col (k + 1) := by
  apply List.ext_getElem?
  intro j
  rw [List.getElem?_set, entC_len]
  unfold entC
  rw [List.getElem?_map, List.getElem?_map]
  rcases Nat.lt_or_ge j l.length with hj | hj
  · rw [List.getElem?_range hj]
    by_cases e : i = j
    · subst e
      rw [if_pos rfl, if_pos hi, Option.map_some, if_pos (by rw [hb, hr]; simp), hr]
    · rw [if_neg e, Option.map_some, Option.map_some]
      congr 1
      by_cases hbj : hasB l j = true
      · have : rankF l j ≠ k := fun h => e (rankF_inj hb hbj (by rw [hr, h]))
        rw [hbj, show decide (rankF l j < k + 1) = decide (rankF l j < k) from decide_eq_decide.2 (by omega)]
      · rw [show hasB l j = false by simpa using hbj]; simp
  · rw [if_neg (by omega), List.getElem?_eq_none (by rw [List.length_range]; exact hj)]; rfl
end Go.Sy
namespace Go.Proofs.YtkhcfbdjmpodbaaDoor
open Go Go.Sy Go.RowKit
theorem elW : El Tryd.prog 57 37 1 24 := El.of (by kernel_rfl)
theorem cell_info : (Tryd.prog.info? 43).map (fun i => (i.zero, i.size, i.bytes)) = some (some (.agg #[.int .i64 0, .int .u32 0, .int .u32 0]), 3, 16) := by kernel_rfl
set_option maxHeartbeats 4000000 in
theorem c_corrCells (gl : Value) (p pc : Option Addr) (cp cc : Nat) (l : List FD) (rs : List IR) (hg : gl.oneCell' = true) (hl : l.length ≤ 64) (hbl : ∀ f ∈ l, f.has = false → f.w.w = []) (hwl : ∀ f ∈ l, f.w.w.length < 2 ^ 45) (hok : ∀ f ∈ l, Wok f.w.w) (hr : rs.length ≤ 1048576) (hrl : ∀ r ∈ rs, r.l.length < 2 ^ 62) :
    FnM Tryd.prog n_corr_Cells [.agg #[gl, slv p l.length cp], slv pc rs.length cc] (fun R => FormsAt R p l ∧ RowsAt R pc rs) fun v mq _ => ∃ q cq ts e, v = .tuple #[slv q ts.length cq, .int .i64 e] ∧ (e = 0 → checkA ((wordsL l l.length).map (·.w)) (rs.map (·.l)) = 0 ∧ ts.map (·.l) = entryC l (rs.map (·.l)) ∧ TabC mq q cq ts) := by
  refine FnM.of S_corr_Cells mx [.v gl, .p p, .i l.length, .i cp, .p pc, .i rs.length, .i cc] (by simp [Sh.eats, Sh.eat, eatS, eatV, hg]) rfl fun c hp => .alloc fun b0 => .chk (by ((try simp only [evE, liE, lO, lU, snd]); (try simp only [cmE])); omega) (.no (by ((try simp only [evE, liE, lO, lU, snd]); (try simp only [cmE])); omega) (.chk (by ((try simp only [evE, liE, lO, lU, snd]); (try simp only [cmE])); omega) ?_))
  refine .loop (fun n us mm => ∃ (q0 : Option Addr) (k0 c0 : Nat) (e : Int) (qw : Option Addr) (cw : Nat) (qi : Option Addr) (ci j : Nat), us = [.p q0, .i k0, .i c0, .i e, .p qw, .i (wordsL l j).length, .i cw, .p qi, .i (knownI l j).length, .i ci, .i j] ∧ n + j = l.length ∧ Row mm 37 1 qw cw (wordsL l j).length ((wordsL l j).map WD.v) ∧ Row mm 3 1 qi ci (knownI l j).length (intsL (knownI l j))) l.length
    ⟨none, 0, 0, 0, none, 0, none, 0, 0, by (simp only [evE, liE, lO, lU, snd, Sh.uss, Sh.us, atAddr, map_add0, List.append_nil]) <;> rfl, rfl, Row.nil .., Row.nil ..⟩ ?_
  rintro n _ m _ ⟨q0, k0, c0, e, qw, cw, qi, ci, j, rfl, hnj, hW, hI⟩
  refine .env (by (try simp only [liE, lO, lU, snd, aN]); rfl) (.ite (fun h1 => ?_) (fun h1 => ?_)) <;> ((try simp only [evE, liE, lO, lU, snd] at h1); (try simp only [cmE] at h1))
  · have hj : j < l.length := by omega
    have hws := wordsL_succ hj
    have hks : knownI l (j + 1) = if l[j].has = true then knownI l j ++ [(j : Int)] else knownI l j := by rw [← hasB_at hj]; rfl
    have hwlen := wordsL_len (l := l) (j := j) (by omega)
    have hklen := knownI_len l j
    have hrk := rankF_le l j
    refine .loadFD l j hj (fun g => hp.1.1.mono g.R) (.env (by (try simp only [liE, lO, lU, snd, aN]); rfl) (.alloc fun b1 => ?_))
    refine .join (fun us mm => ∃ (q0 : Option Addr) (k0 c0 : Nat) (e : Int) (qw : Option Addr) (cw : Nat) (qi : Option Addr) (ci : Nat), us = [.p q0, .i k0, .i c0, .i e, .p qw, .i (wordsL l (j + 1)).length, .i cw, .p qi, .i (knownI l (j + 1)).length, .i ci] ∧ Row mm 37 1 qw cw (wordsL l (j + 1)).length ((wordsL l (j + 1)).map WD.v) ∧ Row mm 3 1 qi ci (knownI l (j + 1)).length (intsL (knownI l (j + 1)))) (.ite (fun h2 => ?_) (fun h2 => ?_)) ?_
    · replace h2 : l[j].has = true := h2
      rw [if_pos h2] at hws hks
      rw [hws, hks]
      refine .alloc fun b2 => .append (n := (wordsL l j).length) (kx := 1) (qx := some ⟨b2, 0, none⟩) (capx := 1) (news := [l[j].w.v]) elW hW (fun g => g.cells (j := 2) rfl rfl rfl) rfl (by simp [WD.v, slv, Value.oneCell']) (fun h => by cases h) (by simp [maxLen]; omega) (by omega) (fun q3 k3 m3 hr3 hk3 hq3 => .env (by (try simp only [liE, lO, lU, snd, aN]); rfl) ?_)
      have hI3 : Row m3 3 1 qi ci (knownI l j).length (intsL (knownI l j)) := hI.keepA hW (by decide) hk3
      refine .alloc fun b3 => .append (n := (knownI l j).length) (kx := 1) (qx := some ⟨b3, 0, none⟩) (capx := 1) (news := [.int .i64 j]) elN hI3 (fun g => g.cells (j := 3) rfl rfl rfl) rfl (by simp [Value.oneCell']) (fun h => by cases h) (by simp [maxLen]; omega) (by omega) (fun q4 k4 m4 hr4 hk4 hq4 => .again rfl ⟨q0, k0, c0, e, q3, k3, q4, k4, ?_, ?_, ?_⟩)
      · (simp only [evE, liE, lO, lU, snd, Sh.uss, Sh.us, atAddr, map_add0, List.append_nil]); rw [List.length_append, List.length_append]; rfl
      · rw [List.length_append, List.map_append]; exact Row.keepA hr3 hI3 (by decide) hk4
      · rw [List.length_append, show intsL (knownI l j ++ [(j : Int)]) = intsL (knownI l j) ++ [.int .i64 j] from List.map_append]; exact hr4
    · replace h2 : l[j].has = false := h2
      have hz := hbl _ (List.getElem_mem hj) h2
      rw [if_neg (by rw [h2]; simp)] at hws hks
      rw [hws, hks]
      refine .chk (by ((try simp only [evE, liE, lO, lU, snd]); (try simp only [cmE])); omega) (.no ?_ (.again rfl ⟨q0, k0, c0, e, qw, cw, qi, ci, by (simp only [evE, liE, lO, lU, snd, Sh.uss, Sh.us, atAddr, map_add0, List.append_nil]), hW, hI⟩))
      show cm .gtr (l[j].w.w.length : Int) 0 = false
      rw [hz]; rfl
    rintro _ m' _ ⟨q5, k5, c5, e5, qw, cw, qi, ci, rfl, hW, hI⟩
    refine .env (by (try simp only [liE, lO, lU, snd, aN]); rfl) (.again rfl ⟨n - 1, by omega, q5, k5, c5, e5, qw, cw, qi, ci, j + 1, ?_, by omega, hW, hI⟩)
    (simp only [evE, liE, lO, lU, snd, Sh.uss, Sh.us, atAddr, map_add0, List.append_nil]); rw [add_i64 j (by omega)]
  obtain rfl : j = l.length := by omega
  have hwlen := wordsL_len (l := l) (j := l.length) (Nat.le_refl _)
  have hklen := knownI_len l l.length
  have hrk := rankF_le l l.length
  have hokW : ∀ x ∈ wordsL l l.length, Wok x.w := fun x hx => by
    obtain ⟨f, hf, _, rfl⟩ := wordsL_mem hx; exact hok f hf
  have hCe := c_Cells qw pc cw cc (wordsL l l.length) rs (by omega) hr hokW hrl
  refine .callE hCe (fun g => ⟨⟨hW.reads g, fun x hx => ?_⟩, hp.2.mono g.R⟩) ?_
  · obtain ⟨f, hf, _, rfl⟩ := wordsL_mem hx
    exact (hp.1.2 f hf).mono g.R
  rintro v mq m1 hle1 hle2 ⟨q1, c1, t1, rfl, ht1, hT1⟩
  replace hT1 := hT1.le hle2
  replace hI := Row.le hI hle1
  obtain ⟨ec, hec⟩ : ∃ e, e = (cellsA ((wordsL l l.length).map (·.w)) (rs.map (·.l))).2 := ⟨_, rfl⟩
  rw [← hec]
  refine ⟨[.p q1, .i t1.length, .i c1, .i ec], uOk_of rfl, (tab_fresh _ _ _ _ _ _).symm, .env (by (try simp only [liE, lO, lU, snd, aN]); rfl) (.ite (fun h2 => .ret rfl ⟨none, 0, [], _, rfl, fun h => absurd h ?_⟩) (fun h2 => .chk (by ((try simp only [evE, liE, lO, lU, snd]); (try simp only [cmE])); omega) ?_))⟩ <;> ((try simp only [evE, liE, lO, lU, snd] at h2); (try simp only [cmE] at h2))
  · exact h2
  rw [hec] at h2
  have hcA : checkA ((wordsL l l.length).map (·.w)) (rs.map (·.l)) = 0 := by
    unfold cellsA at h2
    split at h2
    · rename_i h; exact absurd h2 h
    · rename_i h; exact Decidable.not_not.1 h
  have hct : (cellsA ((wordsL l l.length).map (·.w)) (rs.map (·.l))).1 = (rs.map (·.l)).map (colC ((wordsL l l.length).map (·.w))) := by unfold cellsA; rw [if_neg (by simp [hcA])]
  rw [hct] at ht1
  generalize hWd : (wordsL l l.length).map (·.w) = W at *
  have hWlen : W.length = rankF l l.length := by rw [← hWd, List.length_map]; exact hwlen
  have ht1l : t1.length = rs.length := by
    have := congrArg List.length ht1
    rwa [List.length_map, List.length_map, List.length_map] at this
  have hent : entryC l (rs.map (·.l)) = (rs.map (·.l)).map fun col => entC l W col (rankF l l.length) := by unfold entryC; rw [hWd]
  rw [hent]
  refine .loop (fun n us mm => ∃ (q : Option Addr) (cq j : Nat) (ts : List CR), us = [.p q, .i j, .i cq, .i j] ∧ n + j = t1.length ∧ ts.length = j ∧ ts.map (·.l) = ((rs.map (·.l)).take j).map (fun col => entC l W col (rankF l l.length)) ∧ TabC mm q cq ts ∧ m1.le mm ∧ NewQ m1 q) t1.length ⟨none, 0, 0, [], rfl, rfl, rfl, rfl, .nil _, Mem.le.refl _, nofun⟩ ?_
  rintro n2 _ m2 _ ⟨q, cq, j, ts, rfl, hn2, htl, hts, hT, hle3, hnew⟩
  refine .env (by (try simp only [liE, lO, lU, snd, aN]); rfl) (.ite (fun h3 => ?_) (fun h3 => .ret rfl ⟨q, cq, ts, 0, by rw [htl]; rfl, fun _ => ⟨hcA, ?_, hT⟩⟩)) <;> ((try simp only [evE, liE, lO, lU, snd] at h3); (try simp only [cmE] at h3))
  · have hj : j < t1.length := by omega
    have hjr : j < (rs.map (·.l)).length := by rw [List.length_map]; omega
    have hcl := colC_len W (rs.map (·.l))[j]
    have hrow : t1[j].l = colC W (rs.map (·.l))[j] := by
      have := congrArg (fun x => x[j]?) ht1
      simp only [List.getElem?_map, List.getElem?_eq_getElem hj, Option.map_some] at this
      rw [← List.getElem?_map, List.getElem?_eq_getElem hjr] at this
      simpa using this
    have htk : (rs.map (·.l)).take (j + 1) = (rs.map (·.l)).take j ++ [(rs.map (·.l))[j]] := List.take_succ_eq_append_getElem hjr
    generalize (rs.map (·.l))[j] = col at hcl hrow htk
    refine .loadSl (t1.map CR.v) j t1.length t1[j].p t1[j].l.length t1[j].cap hj (by rw [List.getElem?_map, List.getElem?_eq_getElem hj]; rfl) (fun g => ((hT1.le hle3).reads g).1) (.env (by (try simp only [liE, lO, lU, snd, aN]); rfl) (.chk (by ((try simp only [evE, liE, lO, lU, snd]); (try simp only [cmE])); omega) ?_))
    refine .makeN (t := 38) (z := _) l.length (ccells (List.replicate l.length (0, (0, 0)))) (by kernel_rfl) cell_info (made_cells _) (by omega) (by simp [maxLen]; omega) (fun g3 hg3 hrow3 => ?_)
    rw [← entC_zero l W col] at hrow3
    have hle4 : m2.le (m2.upd g3 (.cells (madeCells (Value.agg #[.int .i64 0, .int .u32 0, .int .u32 0]).cells (l.length * 3)) 43 (0, 0))) := fun b o hb => by
      rw [Mem.upd_other _ _ (fun e => by rw [e, hg3] at hb; cases hb)]; exact hb
    refine .env (by (try simp only [liE, lO, lU, snd, aN]); rfl) (.chk (by ((try simp only [evE, liE, lO, lU, snd]); (try simp only [cmE])); omega) ?_)
    refine .loop (fun n us mm => ∃ k : Nat, us = [.i k] ∧ n + k = (knownI l l.length).length ∧ Row mm 43 3 (some ⟨g3, 0, none⟩) l.length l.length (ccells (entC l W col k)) ∧ m2.le mm) (knownI l l.length).length ⟨0, rfl, rfl, hrow3, hle4⟩ ?_
    clear hle4 hrow3
    rintro n3 _ m3 _ ⟨k, rfl, hnk, hrow3, hle4⟩
    refine .env (by (try simp only [liE, lO, lU, snd, aN]); rfl) (.ite (fun h4 => ?_) (fun h4 => ?_)) <;> ((try simp only [evE, liE, lO, lU, snd] at h4); (try simp only [cmE] at h4))
    · have hk : k < rankF l l.length := by omega
      obtain ⟨i, hi, hbi, hri, hki⟩ := knownI_at hk
      have hkt : k < t1[j].l.length := by rw [hrow, hcl]; omega
      have hce : t1[j].l[k] = cellE (W.getD k []) (labAt col k) := by
        have : (t1[j].l)[k]? = (colC W col)[k]? := by rw [hrow]
        rw [List.getElem?_eq_getElem hkt, List.getElem?_eq_getElem (by rw [hcl]; omega), colC_at W col (by omega)] at this
        exact Option.some.inj this
      have hI3 : Row m3 3 1 qi ci (knownI l l.length).length (intsL (knownI l l.length)) := Row.le hI (hle3.trans hle4)
      have hT3 := hT1.le (hle3.trans hle4)
      refine .elem1 (.int .i64 i) (intsL (knownI l l.length)) k (knownI l l.length).length rfl rfl (by omega) (fun g => hI3.reads g) (by unfold intsL; rw [List.getElem?_map, hki]; rfl) (.env (by (try simp only [liE, lO, lU, snd, aN]); rfl) ?_)
      refine .loadCE t1[j].l k hkt (fun g => (hT3.reads g).2 _ (List.getElem_mem hj)) ?_
      rw [hce]
      have hst := entC_step (W := W) (col := col) hi hbi hri
      generalize cellE (W.getD k []) (labAt col k) = y at hst ⊢
      refine .env (by (try simp only [liE, lO, lU, snd, aN]); rfl) (.storeCE i y (by rw [entC_len]; exact hi) (w := entC l W col k) (by rw [entC_len]; exact hrow3) rfl rfl rfl (by rw [entC_len]; rfl) (fun m4 g4 hg4 hr4 hs4 => .again rfl ⟨n3 - 1, by omega, k + 1, ?_, by omega, ?_, fun b o hb => ?_⟩))
      · (simp only [evE, liE, lO, lU, snd, Sh.uss, Sh.us, atAddr, map_add0, List.append_nil]); rw [add_i64 k (by omega)]
      · rw [entC_len, hst] at hr4; exact hr4
      · cases hg4
        rw [hs4 b (fun e => by rw [e, hg3] at hb; cases hb)]
        exact hle4 b o hb
    · have hk : k = rankF l l.length := by omega
      subst hk
      refine .alloc fun b4 => .append (n := j) (kx := 1) (qx := some ⟨b4, 0, none⟩) (capx := 1) (news := [slv (some ⟨g3, 0, none⟩) l.length l.length]) elCC (by rw [← htl]; exact (hT.le hle4).out) (fun g => g.cells (j := 1) rfl rfl rfl) rfl (by simp [slv, Value.oneCell']) (fun h => by cases h) (by simp [maxLen]; omega) (by omega) (fun q5 k5 m5 hr5 hk5 hq5 => .again rfl ⟨n2 - 1, by omega, q5, k5, j + 1, ts ++ [⟨some ⟨g3, 0, none⟩, l.length, entC l W col (rankF l l.length)⟩], ?_, by omega, by rw [List.length_append, htl]; rfl, ?_, ?_, ?_, ?_⟩)
      · (simp only [evE, liE, lO, lU, snd, Sh.uss, Sh.us, atAddr, map_add0, List.append_nil]); rw [add_i64 j (by omega)]
      · rw [htk, List.map_append, List.map_append, hts]; rfl
      · refine (hT.le hle4).push (r := ⟨some ⟨g3, 0, none⟩, l.length, entC l W col (rankF l l.length)⟩) ?_ ?_ (by rw [htl]; exact hk5)
        · show Row _ _ _ _ _ (entC l W col (rankF l l.length)).length _; rw [entC_len]; exact hrow3
        · rw [htl]
          show Row _ _ _ _ _ _ (ts.map CR.v ++ [slv (some ⟨g3, 0, none⟩) (entC l W col (rankF l l.length)).length l.length])
          rw [entC_len]; exact hr5
      · exact keep_new (hle3.trans hle4) hnew hk5
      · exact hnew.next (hle3.trans hle4) hq5
  · rw [hts, List.take_of_length_le (by rw [List.length_map]; omega)]
end Go.Proofs.YtkhcfbdjmpodbaaDoor
