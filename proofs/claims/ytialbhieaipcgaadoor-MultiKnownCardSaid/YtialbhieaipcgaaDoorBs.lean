/- Chapter 18: no alignment is cheaper than the one chosen; plain law. -/
import Derived.Test.YtialbhieaipcgaaDoorBq
import Derived.Test.YtialbhieaipcgaaDoorBr
set_option linter.unusedSimpArgs false
set_option linter.unusedVariables false
/- Chapter 18: no alignment is cheaper than the one chosen; plain law. -/
namespace Go.Sy
open Go Go.RowKit
theorem labAt_ext {a b : List Int} (hl : a.length = b.length) (h : ∀ i, i < a.length → labAt a i = labAt b i) : a = b := by
  apply List.ext_getElem hl
  intro i h1 h2
  have := h i h1
  rwa [labAt_get h1, labAt_get h2] at this
theorem sm_front (n : Nat) (g : Nat → Int) : sm (n + 1) g = g 0 + sm n fun i => g (i + 1) := by
  induction n with
  | zero => show sm 0 g + g 0 = g 0 + sm 0 _; show (0 : Int) + g 0 = g 0 + 0; omega
  | succ n ih =>
    show sm (n + 1) g + g (n + 1) = g 0 + (sm n (fun i => g (i + 1)) + g (n + 1))
    rw [ih]; omega
theorem costE_cons (ws : List Int) (gap : Int) (W : List (List Snd)) (col : List Int) (cols : List (List Int)) : costE ws gap W (col :: cols) = columnE ws gap W col + costE ws gap W cols := by
  unfold costE
  rw [List.length_cons, sm_front]
  rfl
/-- Columns that go on from a point to the end. -/
def FromX (W : List (List Snd)) (p : P3) (cols : List (List Int)) : Prop := (∀ col ∈ cols, col.length = W.length ∧ ∃ x ∈ col, x ≠ -1) ∧ ∀ k, k < W.length → rowGo (at3 p k : Nat) (rowOf cols k) = some (wl W k)
theorem at3_p0 (k : Nat) : at3 p0 k = 0 := by
  match k with
  | 0 => rfl
  | 1 => rfl
  | _ + 2 => rfl
theorem FromX.of {W : List (List Snd)} {cols : List (List Int)} (h : isAl W cols = true) : FromX W p0 cols := by
  obtain ⟨h1, h2⟩ := isAl_of h
  exact ⟨h1, fun k hk => by rw [at3_p0]; exact h2 k hk⟩
theorem bits3 : ∀ a b c : Bool, bX ((if a then 4 else 0) + (if b then 2 else 0) + (if c then 1 else 0)) 0 = a ∧ bX ((if a then 4 else 0) + (if b then 2 else 0) + (if c then 1 else 0)) 1 = b ∧ bX ((if a then 4 else 0) + (if b then 2 else 0) + (if c then 1 else 0)) 2 = c ∧ (if a then 4 else 0) + (if b then 2 else 0) + (if c then 1 else 0) ≤ 7 := by decide
def hasC (n : Nat) (col : List Int) (k : Nat) : Bool := decide (k < n) && (labAt col k != -1)
/-- The set of the words that a column takes. -/
def setC (n : Nat) (col : List Int) : Nat := (if hasC n col 0 then 4 else 0) + (if hasC n col 1 then 2 else 0) + (if hasC n col 2 then 1 else 0)
theorem setC_bit (n : Nat) (col : List Int) {k : Nat} (hk : k < 3) : bX (setC n col) k = hasC n col k := by
  have h := bits3 (hasC n col 0) (hasC n col 1) (hasC n col 2)
  match k, hk with
  | 0, _ => exact h.1
  | 1, _ => exact h.2.1
  | 2, _ => exact h.2.2.1
theorem hasC_iff {n : Nat} {col : List Int} {k : Nat} : hasC n col k = true ↔ k < n ∧ labAt col k ≠ -1 := by
  unfold hasC; rw [Bool.and_eq_true, decide_eq_true_eq, bne_iff_ne]
theorem at3_nxt (p : P3) (s : Nat) {k : Nat} (hk : k < 3) : at3 (nxtX p s) k = at3 p k + (bX s k).toNat := by
  match k, hk with
  | 0, _ => rfl
  | 1, _ => rfl
  | 2, _ => rfl
theorem zero_bX : ∀ k, k < 3 → bX 0 k = false := by decide
/-- What the first column does. -/
theorem FromX.cons {W : List (List Snd)} {p : P3} {col : List Int} {cols : List (List Int)} (h3 : W.length ≤ 3) (hp : leX p (endX W)) (h : FromX W p (col :: cols)) :
    col = colX W.length p (setC W.length col) ∧ 0 < setC W.length col ∧ okX (endX W) p (setC W.length col) = true ∧ FromX W (nxtX p (setC W.length col)) cols := by
  obtain ⟨h1, h2⟩ := h
  obtain ⟨hl, x, hx, hne⟩ := h1 col (List.mem_cons_self ..)
  have hrow : ∀ k, k < W.length → (labAt col k = -1 ∧ rowGo (at3 p k : Nat) (rowOf cols k) = some (wl W k)) ∨ (labAt col k = (at3 p k : Nat) ∧ rowGo ((at3 p k : Nat) + 1) (rowOf cols k) = some (wl W k)) := fun k hk => by
    have := h2 k hk
    unfold rowOf at this
    rw [List.map_cons] at this
    simp only [rowGo] at this
    split at this
    · rename_i e; exact .inl ⟨e, this⟩
    · split at this
      · rename_i e; exact .inr ⟨e, this⟩
      · cases this
  have hbit : ∀ k, k < 3 → (bX (setC W.length col) k = true ↔ k < W.length ∧ labAt col k ≠ -1) := fun k hk => by rw [setC_bit _ _ hk]; exact hasC_iff
  refine ⟨?_, ?_, ?_, ?_⟩
  · refine labAt_ext (by rw [hl, colX_len]) fun i hi => ?_
    rw [hl] at hi
    rw [colX_at hi]
    by_cases hb : bX (setC W.length col) i = true
    · rw [if_pos hb]
      rcases hrow i hi with h | h
      · exact absurd h.1 ((hbit i (by omega)).1 hb).2
      · exact h.1
    · rw [if_neg hb]
      rcases hrow i hi with h | h
      · exact h.1
      · exact absurd ((hbit i (by omega)).2 ⟨hi, by rw [h.1]; omega⟩) hb
  · rcases Nat.eq_zero_or_pos (setC W.length col) with h0 | h0
    · obtain ⟨i, hi, rfl⟩ := List.mem_iff_getElem.1 hx
      have hi3 : i < W.length := by rw [← hl]; exact hi
      have := (hbit i (by omega)).2 ⟨hi3, by rw [labAt_get hi]; exact hne⟩
      rw [h0, zero_bX i (by omega)] at this
      cases this
    · exact h0
  · refine okX_at.2 fun k hk hb => ?_
    obtain ⟨hkn, hkne⟩ := (hbit k hk).1 hb
    rw [endX_at W hk]
    rcases hrow k hkn with h | h
    · exact absurd h.1 hkne
    · have := rowGo_bound h.2
      rw [wl_getD] at this
      omega
  · refine ⟨fun c hc => h1 c (List.mem_cons_of_mem _ hc), fun k hk => ?_⟩
    rw [at3_nxt _ _ (by omega)]
    by_cases hb : bX (setC W.length col) k = true
    · rw [hb]
      rcases hrow k hk with h | h
      · exact absurd h.1 ((hbit k (by omega)).1 hb).2
      · rw [← h.2]; rfl
    · rw [Bool.not_eq_true] at hb
      rw [hb]
      rcases hrow k hk with h | h
      · exact h.2
      · have := (hbit k (by omega)).2 ⟨hk, by rw [h.1]; omega⟩
        rw [hb] at this; cases this
end Go.Sy
/- Chapter 18: columns with a word more are an alignment, and cost least; plain law. -/
namespace Go.Sy
open Go Go.RowKit
theorem newS_ins' (n k : Nat) (x : Int) (h : k ≤ n) : newS (n + 1) k x = insS (List.replicate n (-1)) k x := (Go.Proofs.YtialbhieaipcgaaDoor.newS_ins _ _ _ h).symm
/-- The place of a word among the others. -/
def offW (p r : Nat) : Nat := if r < p then r else r - 1
theorem lookS_at {cols : List (List Int)} {n p i : Nat} {j : Int} (hp : p ≤ n) (hl : ∀ x ∈ cols, x.length = n) {w r : Nat} (hi : w = 1 ∨ w = 2 → i < cols.length) (hw : w = 1 ∨ w = 2 ∨ w = 3) (hr : r < n + 1) :
    labAt (lookS cols n p i j w) r = if r = p then (if w = 2 then -1 else j) else if w = 3 then -1 else labAt (cols.getD i []) (offW p r) := by
  have hx : ∀ h : i < cols.length, (cols.getD i []).length = n := fun h => by rw [getD_at _ _ _ h]; exact hl _ (List.getElem_mem h)
  have hin : ∀ (l : List Int) (x : Int), p ≤ l.length → labAt (insS l p x) r = if r = p then x else labAt l (offW p r) := fun l x hpl => by
    rw [insS_at l x hpl]
    unfold offW
    by_cases h1 : r < p
    · rw [if_pos h1, if_neg (by omega), if_pos h1]
    · rw [if_neg h1, if_neg h1]
  unfold lookS
  rcases hw with rfl | rfl | rfl
  · rw [if_pos (by decide), hin _ _ (by rw [hx (hi (.inl rfl))]; exact hp)]
    by_cases h : r = p <;> simp [h]
  · rw [if_neg (by decide), if_pos (by decide), hin _ _ (by rw [hx (hi (.inr rfl))]; exact hp)]
    by_cases h : r = p <;> simp [h]
  · rw [if_neg (by decide), if_neg (by decide), newS_ins' _ _ _ hp, hin _ _ (by rw [List.length_replicate]; exact hp)]
    by_cases h : r = p
    · simp [h]
    · rw [if_neg h, if_neg h, if_pos rfl]
      unfold labAt
      have : offW p r < n := by unfold offW; split <;> omega
      rw [List.getElem?_replicate, if_pos this]; rfl
theorem drop_cons {cols : List (List Int)} {i : Nat} (h : i < cols.length) : cols.drop i = cols.getD i [] :: cols.drop (i + 1) := by
  rw [getD_at _ _ _ h]; exact List.drop_eq_getElem_cons h
section
variable {cost : List Int → Int} {cols : List (List Int)} {n p wn : Nat}
/-- The rows of the columns with a word more. -/
theorem outI_rows (hc : ∀ w i j, 0 ≤ cI cost cols n p w i j) (hp : p ≤ n) (hl : ∀ x ∈ cols, x.length = n) : ∀ k i j, i ≤ cols.length → j ≤ wn → cols.length - i + (wn - j) ≤ k →
    rowGo j (rowOf (outI (cI cost cols n p) cols.length wn (fun w i j => lookS cols n p i j w) k i j) p) = some (wn : Int) ∧
    ∀ r, r < n + 1 → r ≠ p → ∀ x, rowGo x (rowOf (outI (cI cost cols n p) cols.length wn (fun w i j => lookS cols n p i j w) k i j) r) = rowGo x (rowOf (cols.drop i) (offW p r)) := by
  intro k
  induction k with
  | zero =>
    intro i j hi hj hk
    obtain rfl : i = cols.length := by omega
    obtain rfl : j = wn := by omega
    rw [outI_end, List.drop_length]
    exact ⟨rfl, fun r hr hne x => rfl⟩
  | succ k ih =>
    intro i j hi hj hk
    by_cases hne : i = cols.length ∧ j = wn
    · obtain ⟨rfl, rfl⟩ := hne
      rw [outI_end, List.drop_length]
      exact ⟨rfl, fun r hr hne x => rfl⟩
    · rw [outI_go _ _ _ _ hne]
      have ho := way_open hc hi hj hne
      obtain ⟨o1, o2⟩ := open_lt ho
      have hg := @after_grows i j (wayI (cI cost cols n p) cols.length wn i j)
      generalize wayI (cI cost cols n p) cols.length wn i j = w at *
      obtain ⟨hw, h1, h2⟩ := ho
      obtain ⟨ih1, ih2⟩ := ih (afterS i j w).1 (afterS i j w).2 h1 h2 (by omega)
      have hla := fun r (hr : r < n + 1) => lookS_at (j := (j : Int)) hp hl o1 hw hr
      refine ⟨?_, fun r hr hne x => ?_⟩
      · have e := hla p (by omega)
        rw [if_pos rfl] at e
        unfold rowOf at ih1 ⊢
        rw [List.map_cons]
        rcases hw with rfl | rfl | rfl
        · rw [if_neg (by decide)] at e
          rw [e]
          simp only [rowGo]
          rw [if_neg (by omega), if_pos trivial]
          exact ih1
        · rw [if_pos rfl] at e
          rw [e]
          simp only [rowGo]
          rw [if_pos trivial]
          exact ih1
        · rw [if_neg (by decide)] at e
          rw [e]
          simp only [rowGo]
          rw [if_neg (by omega), if_pos trivial]
          exact ih1
      · have ih2 := ih2 r hr hne
        have e := hla r hr
        rw [if_neg hne] at e
        unfold rowOf at ih2 ⊢
        rw [List.map_cons]
        rcases hw with rfl | rfl | rfl
        · rw [if_neg (by decide)] at e
          rw [e, drop_cons (o1 (.inl rfl)), List.map_cons]
          simp only [rowGo]
          split
          · exact ih2 x
          · split
            · exact ih2 _
            · rfl
        · rw [if_neg (by decide)] at e
          rw [e, drop_cons (o1 (.inr rfl)), List.map_cons]
          simp only [rowGo]
          split
          · exact ih2 x
          · split
            · exact ih2 _
            · rfl
        · rw [if_pos rfl] at e
          rw [e]
          simp only [rowGo]
          exact ih2 x
end
theorem wl_erase (W : List (List Snd)) {p r : Nat} (hp : r ≠ p) : wl (W.eraseIdx p) (offW p r) = wl W r := by
  unfold wl offW
  rw [List.getElem?_eraseIdx]
  by_cases h : r < p
  · rw [if_pos h, if_pos h]
  · rw [if_neg h, if_neg (by omega), show r - 1 + 1 = r by omega]
/-- Columns of the other words with a word more are an alignment. -/
theorem insE_al {cost : List Int → Int} {cols : List (List Int)} {W : List (List Snd)} {n p : Nat} (hW : W.length = n + 1) (hp : p ≤ n) (hc : ∀ w i j, 0 ≤ cI cost cols n p w i j) (h : isAl (W.eraseIdx p) cols = true) : isAl W (insE cost cols n p (W.getD p []).length) = true := by
  obtain ⟨h1, h2⟩ := isAl_of h
  have hWe : (W.eraseIdx p).length = n := by rw [List.length_eraseIdx, if_pos (by omega)]; omega
  rw [hWe] at h1 h2
  have hl : ∀ x ∈ cols, x.length = n := fun x hx => (h1 x hx).1
  have hrows := outI_rows (wn := (W.getD p []).length) hc hp hl (cols.length + (W.getD p []).length) 0 0 (Nat.zero_le _) (Nat.zero_le _) (by omega)
  refine isAl_yes (fun i hi => ?_) fun k hk => ?_
  · refine outI_mem hc (p := fun x => colOk W.length x = true) (fun w i j ho => ?_) _ _ _ (Nat.zero_le _) (Nat.zero_le _) _ (List.getElem_mem hi)
    have o1 := (open_lt ho).1
    have hlen := lookS_len' (j := (j : Int)) hp hl o1
    unfold colOk
    rw [Bool.and_eq_true]
    refine ⟨decide_eq_true (by rw [hlen, hW]), List.any_eq_true.2 ?_⟩
    have hla := fun r (hr : r < n + 1) => lookS_at (j := (j : Int)) hp hl o1 ho.1 hr
    have key : ∀ r, r < n + 1 → labAt (lookS cols n p i j w) r ≠ -1 → ∃ x ∈ lookS cols n p i j w, (x != -1) = true := fun r hr hne => by
      have hr' : r < (lookS cols n p i j w).length := by rw [hlen]; exact hr
      exact ⟨_, List.getElem_mem hr', by rw [labAt_get hr'] at hne; simpa using hne⟩
    rcases ho.1 with rfl | rfl | rfl
    · refine key p (by omega) ?_
      rw [hla p (by omega), if_pos rfl, if_neg (by decide)]; omega
    · have hi := o1 (.inr rfl)
      obtain ⟨_, x, hx, hne⟩ := h1 (cols.getD i []) (by rw [getD_at _ _ _ hi]; exact List.getElem_mem hi)
      obtain ⟨d, hd, rfl⟩ := List.mem_iff_getElem.1 hx
      have hdn : d < n := by rw [← hl (cols.getD i []) (by rw [getD_at _ _ _ hi]; exact List.getElem_mem hi)]; exact hd
      have hof : offW p (if d < p then d else d + 1) = d := by
        unfold offW
        by_cases h : d < p
        · rw [if_pos h, if_pos h]
        · rw [if_neg h, if_neg (by omega)]; omega
      have hrp : (if d < p then d else d + 1) ≠ p := by split <;> omega
      have hrn : (if d < p then d else d + 1) < n + 1 := by split <;> omega
      refine key _ hrn ?_
      rw [hla _ hrn, if_neg hrp, if_neg (by decide), hof, labAt_get hd]
      exact hne
    · refine key p (by omega) ?_
      rw [hla p (by omega), if_pos rfl, if_neg (by decide)]; omega
  · rw [hW] at hk
    by_cases hkp : k = p
    · subst hkp
      rw [wl_getD]
      exact hrows.1
    · rw [← wl_erase W hkp]
      have := hrows.2 k hk hkp 0
      rw [List.drop_zero] at this
      unfold insE
      rw [this]
      exact h2 _ (by unfold offW; split <;> omega)
end Go.Sy
/- Chapter 18: of two words, the cheapest alignment is the second added to the first; plain law. -/
namespace Go.Sy
open Go Go.RowKit
section
variable {c : Nat → Nat → Nat → Int} {cx : P3 → Nat → Int} {m n : Nat}
end
end Go.Sy
/- Chapter 18: the examples hold. -/
namespace Go.Sy
open Go Go.RowKit
theorem tab_fresh (ρ : Env) (L : List Nat) (q : Option Addr) (n cap : Nat) (e : Int) : ((Sh.tup [.sl, .int .i64]).fresh ρ.length).1.den L (ρ ++ [.p q, .i n, .i cap, .i e]) = .tuple #[slv q n cap, .int .i64 e] := by
  have e1 := sl_at ρ L q n cap [.i e]
  have e2 := getElem_env ρ [.p q, .i n, .i cap, .i e] 3
  simp only [Sh.fresh, Sh.freshs, SV.den, SV.dens, IT.eval, Env.int] at e1 e2 ⊢
  rw [e1, show ρ.length + 1 + 2 = ρ.length + 3 by omega, e2]
  rfl
theorem ext_fresh (ρ : Env) (L : List Nat) (q : Option Addr) (n cap : Nat) (x e : Int) : ((Sh.tup [.sl, .int .i64, .int .i64]).fresh ρ.length).1.den L (ρ ++ [.p q, .i n, .i cap, .i x, .i e]) = .tuple #[slv q n cap, .int .i64 x, .int .i64 e] := by
  have e1 := sl_at ρ L q n cap [.i x, .i e]
  have e2 := getElem_env ρ [.p q, .i n, .i cap, .i x, .i e] 3
  have e3 := getElem_env ρ [.p q, .i n, .i cap, .i x, .i e] 4
  simp only [Sh.fresh, Sh.freshs, SV.den, SV.dens, IT.eval, Env.int] at e1 e2 e3 ⊢
  rw [e1, show ρ.length + 1 + 2 = ρ.length + 3 by omega, e2, show ρ.length + 3 + 1 = ρ.length + 4 by omega, e3]
  rfl
theorem DenM.envL {P : Program} {R : Value → HW → Prop} {Dn : Nat → List U → HW → Prop} {t : Tree} {L L' : List Nat} {ρ : Env} {c : Cx} {m : Mem} {A : List (List U → HW → Prop)} (h : L = L') (hk : DenM P R Dn t L' ρ c m A) : DenM P R Dn t L ρ c m A := h ▸ hk
def exW2 : List (List Snd) := [[(1, 2), (2, 1)], [(2, 1)]]
def exW3 : List (List Snd) := [[(1, 2), (2, 1), (0, 0)], [(2, 1), (0, 0)], [(1, 2), (0, 0)]]
theorem okW {l : List WD} (W : List (List Snd)) (h : l.map (·.w) = W) (hW : (W.all fun w => w.all fun s => decide (s.1 < 4294967296) && decide (s.2 < 4294967296)) = true) : ∀ x ∈ l, Wok x.w := fun x hx s hs => by
  have h1 := List.all_eq_true.1 hW x.w (by rw [← h]; exact List.mem_map_of_mem hx)
  have h2 := List.all_eq_true.1 h1 s hs
  rw [Bool.and_eq_true, decide_eq_true_eq, decide_eq_true_eq] at h2
  exact h2
end Go.Sy
namespace Go.Proofs.YtialbhieaipcgaaDoor
open Go Go.Sy Go.RowKit
/-- What the laws need of the program's variables. -/
def VarsOk (R : Mv) : Prop := TabOk R ∧ StepsOk R
theorem VarsOk.mono {R S : Mv} (h : VarsOk R) (hle : R.le S) : VarsOk S := ⟨h.1.mono hle, h.2.mono hle⟩
theorem c_p : Ret Tryd.prog n_law18_p [] (.agg #[.int .u32 1, .int .u32 2]) := Fn.of S_law18_p mx [] rfl rfl fun c _ => .alloc fun b0 => .ret rfl rfl
theorem c_a : Ret Tryd.prog n_law18_a [] (.agg #[.int .u32 2, .int .u32 1]) := Fn.of S_law18_a mx [] rfl rfl fun c _ => .alloc fun b0 => .ret rfl rfl
theorem c_t : Ret Tryd.prog n_law18_t [] (.agg #[.int .u32 0, .int .u32 0]) := Fn.of S_law18_t mx [] rfl rfl fun c _ => .alloc fun b0 => .ret rfl rfl
theorem c_costs18 : FnM Tryd.prog n_law18_costs [] (fun _ => True) fun v mq _ => ∃ b, v = costs (some ⟨b, 0, none⟩) 2 2 1 ∧ CostsAt mq.mv (some ⟨b, 0, none⟩) [1, 1] :=
  FnM.of S_law18_costs mx [] rfl rfl fun c _ => .alloc fun b0 => .alloc fun b1 => .retL rfl fun g => ⟨b1, rfl, Mem.mv_cells (e := 2) ((blkMem_at (j := 1) g.nd rfl (show _ = some _ from rfl)).trans rfl)⟩
theorem w_exact : exactA [1, 1] 1 [[(1, 2), (2, 1)], [(2, 1)]] = ([[0, -1], [1, 0]], 1, 0) := by kernel_rfl
theorem w_score : scoreM [1, 1] 1 [[(1, 2), (2, 1)], [(2, 1)]] [[0, 0], [1, -1]] = (3, 0) := by kernel_rfl
theorem w_prog : progA [1, 1] 1 [[(1, 2), (2, 1), (0, 0)], [(2, 1), (0, 0)], [(1, 2), (0, 0)]] = ([[0, -1, 0], [1, 0, -1], [2, 1, 1]], 0) := by kernel_rfl
theorem w_without : withoutE [[(1, 2), (2, 1)], [(2, 1)]] [[0, -1], [1, 0]] 0 = ([[0]], 0) := by kernel_rfl
/-- A table that answers what is said. -/
theorem same_yes (p q : Option Addr) (cp cq : Nat) (rs ss : List IR) (ls : List (List Int)) (h1 : rs.map (·.l) = ls) (h2 : ss.map (·.l) = ls) (hn : ls.length < 2 ^ 40) (hl : ∀ x ∈ ls, x.length < 2 ^ 40) :
    RetP Tryd.prog n_ref18_Same [slv p ls.length cp, slv q ls.length cq] (fun R => RowsAt R p rs ∧ RowsAt R q ss) (.bool true) := by
  have e1 := congrArg List.length h1
  have e2 := congrArg List.length h2
  rw [List.length_map] at e1 e2
  have := c_refSame p q cp cq rs ss (by omega) (by omega) (fun r hr => by have := hl r.l (by rw [← h1]; exact List.mem_map_of_mem hr); omega) (fun r hr => by have := hl r.l (by rw [← h2]; exact List.mem_map_of_mem hr); omega)
  rw [h1, h2, decide_eq_true rfl, e1, e2] at this
  exact this
set_option maxHeartbeats 2000000 in
theorem c_works : RetP Tryd.prog n_law18_works [] VarsOk (.bool true) := by
  refine Fn.of S_law18_works mx [] rfl rfl fun c hV => ?_
  refine .callV c_p (fun _ => trivial) ?_
  refine .env (by (try simp only [liE, letsOf, letU, snd, List.append_nil]); rfl) (.callV c_a (fun _ => trivial) ?_)
  refine .env (by (try simp only [liE, letsOf, letU, snd, List.append_nil]); rfl) (.alloc fun b0 => .callV c_a (fun _ => trivial) ?_)
  refine .env (by (try simp only [liE, letsOf, letU, snd, List.append_nil]); rfl) (.alloc fun b1 => .alloc fun b2 => .envL (by simp only [List.nil_append, List.cons_append]; rfl) <| .callE c_costs18 (fun _ => trivial) ?_)
  rintro v mq m1 hle1 hq1 ⟨d1, rfl, hC1⟩
  refine ⟨[.p (some ⟨d1, 0, none⟩), .i (2 : Nat), .i (2 : Nat), .i 1], uOk_of rfl, rfl, .env (by (try simp only [liE, letsOf, letU, snd, List.append_nil]); rfl) ?_⟩
  have hC1 := hC1.mono hq1.mv
  have kX := c_Exact (some ⟨b2, 0, none⟩) (some ⟨d1, 0, none⟩) 2 2 [⟨some ⟨b0, 0, none⟩, 2, [(1, 2), (2, 1)]⟩, ⟨some ⟨b1, 0, none⟩, 1, [(2, 1)]⟩] [1, 1] 1 (by simp) (okW exW2 rfl (by decide))
  simp only [List.map_cons, List.map_nil] at kX
  rw [w_exact] at kX
  refine .callE kX (fun g => ⟨⟨g.cells (j := 2) rfl rfl rfl, by
    intro x hx; simp only [List.mem_cons, List.not_mem_nil, or_false] at hx; rcases hx with rfl | rfl
    · exact g.cells (j := 0) rfl rfl rfl
    · exact g.cells (j := 1) rfl rfl rfl⟩, hC1.mono g.mv, hV.1.mono g.R⟩) ?_
  clear kX
  rintro v mq2 m2 hle2 hq2 ⟨q1, k1, t1, rfl, ht1, hT1⟩
  have hn1 := congrArg List.length ht1
  rw [List.length_map] at hn1
  replace hn1 : t1.length = 2 := hn1
  rw [hn1]
  refine ⟨[.p q1, .i (2 : Nat), .i k1, .i 1, .i 0], uOk_of rfl, (ext_fresh _ _ _ _ _ _ _).symm, .env (by (try simp only [liE, letsOf, letU, snd, List.append_nil]); rfl) ?_⟩
  have hT1 := hT1.le' hq2
  clear hle1 hq1 hC1 hle2 hq2
  refine .alloc fun b3 => .alloc fun b4 => .alloc fun b5 => .alloc fun b6 => .envL (by simp only [List.nil_append, List.cons_append]; rfl) <| .callE c_costs18 (fun _ => trivial) ?_
  rintro v mq m3 hle3 hq3 ⟨d2, rfl, hC2⟩
  refine ⟨[.p (some ⟨d2, 0, none⟩), .i (2 : Nat), .i (2 : Nat), .i 1], uOk_of rfl, rfl, .env (by (try simp only [liE, letsOf, letU, snd, List.append_nil]); rfl) ?_⟩
  have hC2 := hC2.mono hq3.mv
  have kS := c_Score (some ⟨b3, 0, none⟩) (some ⟨b6, 0, none⟩) (some ⟨d2, 0, none⟩) 2 2 2 [⟨some ⟨b0, 0, none⟩, 2, [(1, 2), (2, 1)]⟩, ⟨some ⟨b1, 0, none⟩, 1, [(2, 1)]⟩] [⟨some ⟨b4, 0, none⟩, 2, [0, 0]⟩, ⟨some ⟨b5, 0, none⟩, 2, [1, -1]⟩] [1, 1] 1 (by simp) (okW exW2 rfl (by decide)) (by simp) (by simp) (by simp)
  simp only [List.map_cons, List.map_nil] at kS
  rw [w_score] at kS
  refine .callV kS (fun g => ⟨⟨g.cells (j := 3) rfl rfl rfl, by
    intro x hx; simp only [List.mem_cons, List.not_mem_nil, or_false] at hx; rcases hx with rfl | rfl
    · exact g.cells (j := 0) rfl rfl rfl
    · exact g.cells (j := 1) rfl rfl rfl⟩, ⟨g.cells (j := 6) rfl rfl rfl, by
    intro x hx; simp only [List.mem_cons, List.not_mem_nil, or_false] at hx; rcases hx with rfl | rfl
    · exact g.cells (j := 4) rfl rfl rfl
    · exact g.cells (j := 5) rfl rfl rfl⟩, hC2.mono g.mv, hV.1.mono g.R⟩) (.env (by (try simp only [liE, letsOf, letU, snd, List.append_nil]); rfl) ?_)
  clear kS
  have hT1 := hT1.le' hle3
  clear hle3 hq3 hC2
  refine .callV c_p (fun _ => trivial) ?_
  refine .env (by (try simp only [liE, letsOf, letU, snd, List.append_nil]); rfl) (.callV c_a (fun _ => trivial) ?_)
  refine .env (by (try simp only [liE, letsOf, letU, snd, List.append_nil]); rfl) (.callV c_t (fun _ => trivial) ?_)
  refine .env (by (try simp only [liE, letsOf, letU, snd, List.append_nil]); rfl) (.alloc fun b7 => .callV c_a (fun _ => trivial) ?_)
  refine .env (by (try simp only [liE, letsOf, letU, snd, List.append_nil]); rfl) (.callV c_t (fun _ => trivial) ?_)
  refine .env (by (try simp only [liE, letsOf, letU, snd, List.append_nil]); rfl) (.alloc fun b8 => .callV c_p (fun _ => trivial) ?_)
  refine .env (by (try simp only [liE, letsOf, letU, snd, List.append_nil]); rfl) (.callV c_t (fun _ => trivial) ?_)
  refine .env (by (try simp only [liE, letsOf, letU, snd, List.append_nil]); rfl) (.alloc fun b9 => .alloc fun b10 => .envL (by simp only [List.nil_append, List.cons_append]; rfl) <| .callE c_costs18 (fun _ => trivial) ?_)
  rintro v mq m4 hle4 hq4 ⟨d3, rfl, hC3⟩
  refine ⟨[.p (some ⟨d3, 0, none⟩), .i (2 : Nat), .i (2 : Nat), .i 1], uOk_of rfl, rfl, .env (by (try simp only [liE, letsOf, letU, snd, List.append_nil]); rfl) ?_⟩
  have hC3 := hC3.mono hq4.mv
  have kP := c_Progressive (some ⟨b10, 0, none⟩) (some ⟨d3, 0, none⟩) 3 2 [⟨some ⟨b7, 0, none⟩, 3, [(1, 2), (2, 1), (0, 0)]⟩, ⟨some ⟨b8, 0, none⟩, 2, [(2, 1), (0, 0)]⟩, ⟨some ⟨b9, 0, none⟩, 2, [(1, 2), (0, 0)]⟩] [1, 1] 1 (by simp) (by simp) (okW exW3 rfl (by decide))
  simp only [List.map_cons, List.map_nil] at kP
  rw [w_prog] at kP
  refine .callE kP (fun g => ⟨⟨g.cells (j := 10) rfl rfl rfl, by
    intro x hx; simp only [List.mem_cons, List.not_mem_nil, or_false] at hx; rcases hx with rfl | rfl | rfl
    · exact g.cells (j := 7) rfl rfl rfl
    · exact g.cells (j := 8) rfl rfl rfl
    · exact g.cells (j := 9) rfl rfl rfl⟩, hC3.mono g.mv, hV.1.mono g.R, hV.2.mono g.R⟩) ?_
  clear kP
  rintro v mq5 m5 hle5 hq5 ⟨q2, k2, t2, rfl, ht2, hT2⟩
  have hn2 := congrArg List.length ht2
  rw [List.length_map] at hn2
  replace hn2 : t2.length = 3 := hn2
  rw [hn2]
  refine ⟨[.p q2, .i (3 : Nat), .i k2, .i 0], uOk_of rfl, (tab_fresh _ _ _ _ _ _).symm, .env (by (try simp only [liE, letsOf, letU, snd, List.append_nil]); rfl) ?_⟩
  have hT2 := hT2.le' hq5
  have hT1 := (hT1.le' hle4).le' hle5
  clear hle4 hq4 hC3 hle5 hq5
  refine .alloc fun b11 => .alloc fun b12 => .alloc fun b13 => .alloc fun b14 => .envL (by simp only [List.nil_append, List.cons_append]; rfl) ?_
  have kW := c_Without (some ⟨b11, 0, none⟩) (some ⟨b14, 0, none⟩) 2 2 [⟨some ⟨b0, 0, none⟩, 2, [(1, 2), (2, 1)]⟩, ⟨some ⟨b1, 0, none⟩, 1, [(2, 1)]⟩] [⟨some ⟨b12, 0, none⟩, 2, [0, -1]⟩, ⟨some ⟨b13, 0, none⟩, 2, [1, 0]⟩] 0 (by simp) (by simp) (okW exW2 rfl (by decide)) (by
    intro r hr; simp only [List.mem_cons, List.not_mem_nil, or_false] at hr; rcases hr with rfl | rfl
    · exact ⟨Nat.le_refl _, fun h => (by cases h), by show (2 : Nat) < 2 ^ 40; omega⟩
    · exact ⟨Nat.le_refl _, fun h => (by cases h), by show (2 : Nat) < 2 ^ 40; omega⟩)
  simp only [List.map_cons, List.map_nil] at kW
  rw [w_without] at kW
  refine .callE kW (fun g => ⟨⟨g.cells (j := 11) rfl rfl rfl, by
    intro x hx; simp only [List.mem_cons, List.not_mem_nil, or_false] at hx; rcases hx with rfl | rfl
    · exact g.cells (j := 0) rfl rfl rfl
    · exact g.cells (j := 1) rfl rfl rfl⟩, ⟨g.cells (j := 14) rfl rfl rfl, by
    intro x hx; simp only [List.mem_cons, List.not_mem_nil, or_false] at hx; rcases hx with rfl | rfl
    · exact g.cells (j := 12) rfl rfl rfl
    · exact g.cells (j := 13) rfl rfl rfl⟩⟩) ?_
  clear kW
  rintro v mq6 m6 hle6 hq6 ⟨q3, k3, t3, rfl, ht3, hT3⟩
  have hn3 := congrArg List.length ht3
  rw [List.length_map] at hn3
  replace hn3 : t3.length = 1 := hn3
  rw [hn3]
  refine ⟨[.p q3, .i (1 : Nat), .i k3, .i 0], uOk_of rfl, (tab_fresh _ _ _ _ _ _).symm, .env (by (try simp only [liE, letsOf, letU, snd, List.append_nil]); rfl) ?_⟩
  have hT3 := hT3.le' hq6
  have hT2 := hT2.le' hle6
  have hT1 := hT1.le' hle6
  clear hle6 hq6
  refine .yes rfl (.alloc fun b15 => .alloc fun b16 => .alloc fun b17 => .envL (by simp only [List.nil_append, List.cons_append]; rfl) ?_)
  refine .callV (same_yes q1 (some ⟨b17, 0, none⟩) k1 2 t1 [⟨some ⟨b15, 0, none⟩, 2, [0, -1]⟩, ⟨some ⟨b16, 0, none⟩, 2, [1, 0]⟩] _ ht1 rfl (by simp) (by simp)) (fun g => ⟨hT1.reads g, ⟨g.cells (j := 17) rfl rfl rfl, by
    intro x hx; simp only [List.mem_cons, List.not_mem_nil, or_false] at hx; rcases hx with rfl | rfl
    · exact g.cells (j := 15) rfl rfl rfl
    · exact g.cells (j := 16) rfl rfl rfl⟩⟩) (.env (by (try simp only [liE, letsOf, letU, snd, List.append_nil]); rfl) (.yes rfl (.alloc fun b18 => .alloc fun b19 => .alloc fun b20 => .alloc fun b21 => .envL (by simp only [List.nil_append, List.cons_append]; rfl) ?_)))
  refine .callV (same_yes q2 (some ⟨b21, 0, none⟩) k2 3 t2 [⟨some ⟨b18, 0, none⟩, 3, [0, -1, 0]⟩, ⟨some ⟨b19, 0, none⟩, 3, [1, 0, -1]⟩, ⟨some ⟨b20, 0, none⟩, 3, [2, 1, 1]⟩] _ ht2 rfl (by simp) (by simp)) (fun g => ⟨hT2.reads g, ⟨g.cells (j := 21) rfl rfl rfl, by
    intro x hx; simp only [List.mem_cons, List.not_mem_nil, or_false] at hx; rcases hx with rfl | rfl | rfl
    · exact g.cells (j := 18) rfl rfl rfl
    · exact g.cells (j := 19) rfl rfl rfl
    · exact g.cells (j := 20) rfl rfl rfl⟩⟩) (.env (by (try simp only [liE, letsOf, letU, snd, List.append_nil]); rfl) (.yes rfl (.alloc fun b22 => .alloc fun b23 => .envL (by simp only [List.nil_append, List.cons_append]; rfl) ?_)))
  refine .callV (same_yes q3 (some ⟨b23, 0, none⟩) k3 1 t3 [⟨some ⟨b22, 0, none⟩, 1, [0]⟩] _ ht3 rfl (by simp) (by simp)) (fun g => ⟨hT3.reads g, ⟨g.cells (j := 23) rfl rfl rfl, by
    intro x hx; simp only [List.mem_cons, List.not_mem_nil, or_false] at hx; subst hx
    exact g.cells (j := 22) rfl rfl rfl⟩⟩) (.env (by (try simp only [liE, letsOf, letU, snd, List.append_nil]); rfl) (.ret rfl rfl))
end Go.Proofs.YtialbhieaipcgaaDoor
