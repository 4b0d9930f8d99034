/- Chapter 18: the cells of columns and rows. -/
import Derived.Test.YtialbhieaipcgaaDoorYa
set_option linter.unusedSimpArgs false
set_option linter.unusedVariables false
namespace Go.Sy
open Go Go.RowKit
abbrev CE := Int × Snd
def c3 (x : CE) : List Value := [.int .i64 x.1, .int .u32 x.2.1, .int .u32 x.2.2]
def ccells (l : List CE) : List Value := l.flatMap c3
theorem ccells_snoc (l : List CE) (x : CE) : ccells (l ++ [x]) = ccells l ++ c3 x := by unfold ccells; rw [List.flatMap_append]; simp
theorem ccells_cons (x : CE) (l : List CE) : ccells (x :: l) = c3 x ++ ccells l := rfl
theorem ccells_len (l : List CE) : (ccells l).length = l.length * 3 := by
  induction l with
  | nil => rfl
  | cons x l ih => rw [ccells_cons, List.length_append, ih, List.length_cons]; show 3 + _ = _; omega
theorem ccells_at (l : List CE) {j : Nat} (hj : j < l.length) (d : Nat) (hd : d < 3) : (ccells l)[j * 3 + d]? = (c3 l[j])[d]? := by
  induction l generalizing j with
  | nil => simp at hj
  | cons x l ih =>
    rw [ccells_cons]
    cases j with
    | zero => rw [Nat.zero_mul, Nat.zero_add, List.getElem?_append_left (by show d < 3; exact hd)]; rfl
    | succ j =>
      rw [List.getElem?_append_right (by show 3 ≤ _; omega), show (j + 1) * 3 + d - (c3 x).length = j * 3 + d by show (j + 1) * 3 + d - 3 = _; omega, ih (by simpa using hj)]
      rfl
/-- What a word has in a column. -/
def cellE (w : List Snd) (x : Int) : CE := if x = -1 then (1, (0, 0)) else (2, w.getD x.toNat (0, 0))
structure CR where
  p : Option Addr
  cap : Nat
  l : List CE
def CR.v (r : CR) : Value := slv r.p r.l.length r.cap
def rowC (W : List (List Snd)) (cols : List (List Int)) (k : Nat) : List CE := cols.map fun col => cellE (W.getD k []) (labAt col k)
theorem rowC_len (W : List (List Snd)) (cols : List (List Int)) (k : Nat) : (rowC W cols k).length = cols.length := List.length_map _
theorem rowC_take (W : List (List Snd)) {cols : List (List Int)} {j : Nat} (hj : j < cols.length) (k : Nat) : rowC W (cols.take (j + 1)) k = rowC W (cols.take j) k ++ [cellE (W.getD k []) (labAt cols[j] k)] := by
  unfold rowC; rw [List.take_succ_eq_append_getElem hj, List.map_append]; rfl
def rowCA (W : List (List Snd)) (cols : List (List Int)) (k : Int) : List CE × Int := if checkA W cols ≠ 0 then ([], checkA W cols) else if k < 0 ∨ (W.length : Int) ≤ k then ([], 3) else (rowC W cols k.toNat, 0)
theorem Good.leB {c : Cx} {L : List Nat} {m : Mem} (g : Good c L m) (ρ : Env) (bl : List Blk) (n : Nat) : m.le (blkMem L ρ (L.drop n) bl m) := fun b o hb => by
  rw [blkMem_not (fun hL => by have := (g.blk b (List.mem_of_mem_drop hL)).1; rw [this] at hb; cases hb)]
  exact hb
end Go.Sy
namespace Go.Proofs.YtialbhieaipcgaaDoor
open Go Go.Sy Go.RowKit
theorem elC : El Tryd.prog 55 67 3 16 := El.of (by kernel_rfl)
/-- Rows of cells, of which more are appended. -/
structure TabC (m : Mem) (q : Option Addr) (cq : Nat) (rs : List CR) : Prop where
  out : Row m 55 1 q cq rs.length (rs.map CR.v)
  rows : ∀ r ∈ rs, Row m 67 3 r.p r.cap r.l.length (ccells r.l)
theorem TabC.nil (m : Mem) : TabC m none 0 [] := ⟨Row.nil m _ 1, fun _ h => by cases h⟩
theorem TabC.le {m m' : Mem} {q : Option Addr} {cq : Nat} {rs : List CR} (h : TabC m q cq rs) (hle : m.le m') : TabC m' q cq rs := ⟨Row.le h.out hle, fun r hr => Row.le (h.rows r hr) hle⟩
theorem TabC.push {m m' : Mem} {q q' : Option Addr} {cq cq' : Nat} {rs : List CR} {r : CR} (h : TabC m q cq rs) (hr : Row m 67 3 r.p r.cap r.l.length (ccells r.l)) (ho : Row m' 55 1 q' cq' (rs.length + 1) (rs.map CR.v ++ [r.v])) (hk : ∀ b, ((∃ o, q = some ⟨b, o, none⟩) → cq < rs.length + 1) → m b ≠ none → m' b = m b) : TabC m' q' cq' (rs ++ [r]) :=
  ⟨by rw [List.length_append, List.map_append]; exact ho, fun x hx => by
    rcases List.mem_append.1 hx with hx | hx
    · exact (h.rows x hx).keepA h.out (by decide) hk
    · rw [List.mem_singleton] at hx; subst hx; exact hr.keepA h.out (by decide) hk⟩
/-- Rows of cells, read. -/
def CellsAt (R : Mv) (q : Option Addr) (rs : List CR) : Prop := Cells R q (rs.map CR.v) ∧ ∀ r ∈ rs, Cells R r.p (ccells r.l)
theorem TabC.reads {m : Mem} {q : Option Addr} {cq : Nat} {rs : List CR} (h : TabC m q cq rs) {c : Cx} {L : List Nat} {ρ : Env} {blks : List Blk} (g : Go.Sy.Good c L m) : CellsAt (vw c L ρ blks m) q rs := ⟨h.out.reads g, fun r hr => (h.rows r hr).reads g⟩
theorem c_cell (p : Option Addr) (cap : Nat) (w : List Snd) (x : Int) (hx : x = -1 ∨ (0 ≤ x ∧ x < w.length)) : RetP Tryd.prog n_multi_cell [slv p w.length cap, .int .i64 x] (fun R => WordAt R p w) (.agg #[.int .i64 (cellE w x).1, .int .u32 (cellE w x).2.1, .int .u32 (cellE w x).2.2]) := by
  refine Fn.of S_multi_cell mx [.p p, .i w.length, .i cap, .i x] rfl rfl fun c hp => .alloc fun b0 => .ite (fun h1 => .ret rfl ?_) (fun h1 => ?_) <;> ((try simp only [evE, liE, letsOf, letU, snd] at h1); (try simp only [cmE] at h1))
  · unfold cellE; rw [if_pos h1]; rfl
  · obtain ⟨k, rfl⟩ : ∃ k : Nat, x = k := ⟨x.toNat, by omega⟩
    have hk : k < w.length := by omega
    refine .loadW w k hk (fun g => hp.mono g.R) (.env (by (try simp only [liE, letsOf, letU, snd, List.append_nil]); rfl) (.ret rfl ?_))
    unfold cellE
    rw [if_neg h1, Int.toNat_natCast, getD_at _ _ _ hk]; rfl
theorem c3_len (x : CE) : (c3 x).length = 1 * 3 := rfl
theorem c3_one (x : CE) : ∀ u ∈ c3 x, u.oneCell' = true := by
  intro u hu
  simp only [c3, List.mem_cons, List.not_mem_nil, or_false] at hu
  rcases hu with rfl | rfl | rfl <;> rfl
theorem c_Row (p pc : Option Addr) (cp cc : Nat) (l : List WD) (rs : List IR) (k : Int) (hl : l.length < 2 ^ 62) (hr : rs.length ≤ 1048576) (hok : ∀ x ∈ l, Wok x.w) (hrl : ∀ r ∈ rs, r.l.length < 2 ^ 62) :
    FnM Tryd.prog n_multi_Row [slv p l.length cp, slv pc rs.length cc, .int .i64 k] (fun R => WordsAt R p l ∧ RowsAt R pc rs) fun v mq _ => ∃ q cq, v = .tuple #[slv q (rowCA (l.map (·.w)) (rs.map (·.l)) k).1.length cq, .int .i64 (rowCA (l.map (·.w)) (rs.map (·.l)) k).2] ∧ Row mq 67 3 q cq (rowCA (l.map (·.w)) (rs.map (·.l)) k).1.length (ccells (rowCA (l.map (·.w)) (rs.map (·.l)) k).1) := by
  have hclen : (rs.map (·.l)).length = rs.length := List.length_map _
  have hwlen : (l.map (·.w)).length = l.length := List.length_map _
  have kN := c_named p pc cp cc l rs k hl (by omega) hok hrl
  have hA : rowCA (l.map (·.w)) (rs.map (·.l)) k = if checkA (l.map (·.w)) (rs.map (·.l)) ≠ 0 then ([], checkA (l.map (·.w)) (rs.map (·.l))) else if k < 0 ∨ (l.length : Int) ≤ k then ([], 3) else (rowC (l.map (·.w)) (rs.map (·.l)) k.toNat, 0) := by unfold rowCA; rw [hwlen]
  have hz : (if checkA (l.map (·.w)) (rs.map (·.l)) ≠ 0 then checkA (l.map (·.w)) (rs.map (·.l)) else if k < 0 ∨ (l.length : Int) ≤ k then 3 else 0) = (rowCA (l.map (·.w)) (rs.map (·.l)) k).2 := by
    rw [hA]; split
    · rfl
    · split <;> rfl
  rw [hz] at kN
  refine FnM.of S_multi_Row mx [.p p, .i l.length, .i cp, .p pc, .i rs.length, .i cc, .i k] rfl rfl fun c hp => .callV kN (fun g => ⟨hp.1.mono g.R, hp.2.mono g.R⟩) (.env (by (try simp only [liE, letsOf, letU, snd, List.append_nil]); rfl) (.ite (fun h1 => .ret rfl ?_) (fun h1 => .chk (by ((try simp only [evE, liE, letsOf, letU, snd]); (try simp only [cmE])); omega) ?_))) <;> ((try simp only [evE, liE, letsOf, letU, snd] at h1); (try simp only [cmE] at h1))
  · have : (rowCA (l.map (·.w)) (rs.map (·.l)) k).1 = [] := by
      rw [hA] at h1 ⊢; split
      · rfl
      · split
        · rfl
        · rename_i h2 h3; rw [if_neg h2, if_neg h3] at h1; exact absurd rfl h1
    rw [this]; exact ⟨none, 0, rfl, Row.nil ..⟩
  rw [hA] at h1
  have h2 : checkA (l.map (·.w)) (rs.map (·.l)) = 0 := by
    by_cases h : checkA (l.map (·.w)) (rs.map (·.l)) ≠ 0
    · rw [if_pos h] at h1; exact h1
    · exact Decidable.not_not.1 h
  rw [if_neg (by simp [h2])] at h1
  have h3 : ¬ (k < 0 ∨ (l.length : Int) ≤ k) := fun h => by rw [if_pos h] at h1; exact absurd h1 (by decide)
  rw [if_neg (by simp [h2]), if_neg h3] at hA
  rw [hA]
  clear kN hz hA h1
  obtain ⟨k, rfl⟩ : ∃ k' : Nat, k = k' := ⟨k.toNat, by omega⟩
  rw [Int.toNat_natCast]
  have hk : k < l.length := by omega
  obtain ⟨_, _, hal⟩ := checkA_zero h2
  have hent := isAl_ent hal
  dsimp only
  refine .loop (fun z us m => ∃ (q : Option Addr) (cq j : Nat), j ≤ rs.length ∧ z = rs.length - j ∧ us = [.p q, .i j, .i cq, .i j] ∧ Row m 67 3 q cq j (ccells (rowC (l.map (·.w)) ((rs.map (·.l)).take j) k))) rs.length ⟨none, 0, 0, Nat.zero_le _, rfl, rfl, Row.nil ..⟩ ?_
  rintro z _ m _ ⟨q, cq, j, hj, rfl, rfl, hR⟩
  refine .env (by (try simp only [liE, letsOf, letU, snd, List.append_nil]); rfl) (.ite (fun h4 => ?_) (fun h4 => .ret rfl ?_)) <;> ((try simp only [evE, liE, letsOf, letU, snd] at h4); (try simp only [cmE] at h4))
  · have hj : j < rs.length := by omega
    obtain ⟨hrl1, hre⟩ := hent rs[j].l (List.mem_map_of_mem (List.getElem_mem hj))
    rw [hwlen] at hrl1
    have hx := hre k (by omega)
    rw [wl_at l hk] at hx
    refine .loadSl (rs.map IR.v) j rs.length rs[j].p rs[j].l.length rs[j].cap hj (row_at rs j hj) (fun g => hp.2.1.mono g.R) (.env (by (try simp only [liE, letsOf, letU, snd, List.append_nil]); rfl) (.loadWD l k hk (fun g => hp.1.1.mono g.R) (.env (by (try simp only [liE, letsOf, letU, snd, List.append_nil]); rfl) (.elem1 (.int .i64 (labAt rs[j].l k)) (intsL rs[j].l) k rs[j].l.length rfl rfl (by omega) (fun g => (hp.2.2 _ (List.getElem_mem hj)).mono g.R) (intsL_at rs[j].l k (by omega)) (.env (by (try simp only [liE, letsOf, letU, snd, List.append_nil]); rfl) (.callV (c_cell l[k].p l[k].cap l[k].w (labAt rs[j].l k) hx) (fun g => (hp.1.2 _ (List.getElem_mem hk)).mono g.R) ?_))))))
    refine .env (by (try simp only [liE, letsOf, letU, snd, List.append_nil]); rfl) ?_
    have hst := rowC_take (l.map (·.w)) (cols := rs.map (·.l)) (j := j) (by rw [hclen]; exact hj) k
    rw [List.getElem_map, getD_w l k hk] at hst
    generalize cellE l[k].w (labAt rs[j].l k) = x at hst ⊢
    refine .alloc' fun b0 _ hb0 _ => .append (q := q) (cap := cq) (n := j) (qx := some ⟨b0, 0, none⟩) (kx := 1) (capx := 1) (news := c3 x) elC hR (fun gd => gd.cells (j := 0) rfl rfl rfl) (c3_len x) (c3_one x) (fun h => by cases h) (by simp [maxLen]; omega) (by omega) (fun q' cap' m' hr' hk' hq' => .againL rfl fun gd => ⟨rs.length - (j + 1), by omega, q', cap', j + 1, by omega, rfl, ?_, ?_⟩)
    · (simp only [evE, liE, letsOf, letU, snd, Sh.uss, Sh.us, atAddr, map_add0, List.append_nil]); rw [add_i64 j (by omega)]
    · rw [hst, ccells_snoc]
      exact Row.le hr' (gd.leB _ _ 0)
  · obtain rfl : j = rs.length := by omega
    rw [List.take_of_length_le (by rw [hclen]; omega)] at hR
    refine ⟨q, cq, ?_, ?_⟩
    · rw [rowC_len, hclen]; rfl
    · rw [rowC_len, hclen]; exact hR
end Go.Proofs.YtialbhieaipcgaaDoor
