/- Plain facts: words that are all the same. -/
import Derived.Test.YtkhcfbdjmpodbaaDoorK8
set_option linter.unusedSimpArgs false
set_option linter.unusedVariables false
namespace Go.Sy
open Go Go.RowKit Go.Proofs.YtkhcfbdjmpodbaaDoor
def diagC (m k : Nat) : List (List Int) := (List.range m).map fun (i : Nat) => List.replicate k (i : Int)
theorem diagC_len (m k : Nat) : (diagC m k).length = m := by unfold diagC; rw [List.length_map, List.length_range]
theorem diagC_mem {m k : Nat} {x : List Int} (h : x ∈ diagC m k) : ∃ i, i < m ∧ x = List.replicate k (i : Int) := by
  obtain ⟨i, hi, rfl⟩ := List.mem_map.1 h
  exact ⟨i, List.mem_range.1 hi, rfl⟩
theorem diagC_at {m k i : Nat} (h : i < m) : (diagC m k).getD i [] = List.replicate k (i : Int) := by
  unfold diagC
  rw [List.getD_eq_getElem?_getD, List.getElem?_map, List.getElem?_range h]; rfl
section
variable {c : Nat → Nat → Nat → Int} {m : Nat}
theorem AI_le1 {n i j : Nat} (hi : i < m) (hj : j < n) : AI c m n i j ≤ c 1 i j + AI c m n (i + 1) (j + 1) := by
  unfold AI
  obtain ⟨r, hr⟩ : ∃ r, m - i = r + 1 := ⟨m - i - 1, by omega⟩
  obtain ⟨s, hs⟩ : ∃ s, n - j = s + 1 := ⟨n - j - 1, by omega⟩
  rw [hr, hs, show m - (i + 1) = r by omega, show n - (j + 1) = s by omega]
  show liR c m n r (LI c m n r) (s + 1) ≤ _
  unfold liR
  rw [show m - (r + 1) = i by omega, show n - (s + 1) = j by omega]
  omega
theorem diag_zero (hc : ∀ w i j, 0 ≤ c w i j) (h0 : ∀ i, i < m → c 1 i i = 0) : ∀ d i, m - i = d → i ≤ m → AI c m m i i = 0
  | 0, i, hd, hi => by rw [show i = m by omega]; exact AI_end ..
  | d + 1, i, hd, hi => by
    have ih := diag_zero hc h0 d (i + 1) (by omega) (by omega)
    have h1 := AI_le1 (c := c) (m := m) (n := m) (i := i) (j := i) (by omega) (by omega)
    rw [ih, h0 i (by omega)] at h1
    have h2 := LI_nonneg hc m m (m - i) (m - i)
    change 0 ≤ AI c m m i i at h2
    omega
theorem diag_way (hc : ∀ w i j, 0 ≤ c w i j) (h0 : ∀ i, i < m → c 1 i i = 0) {i : Nat} (hi : i < m) : wayI c m m i i = 1 := by
  unfold wayI
  rw [if_pos]
  unfold candI
  have a1 : afterS i i ((1 : Nat) : Int) = (i + 1, i + 1) := rfl
  rw [a1, if_pos ⟨by omega, by omega⟩, diag_zero hc h0 _ (i + 1) rfl (by omega), diag_zero hc h0 _ i rfl (by omega), h0 i hi]
  rfl
theorem diag_out (hc : ∀ w i j, 0 ≤ c w i j) (h0 : ∀ i, i < m → c 1 i i = 0) (col : Nat → Nat → Nat → List Int) : ∀ d i fuel, m - i = d → i ≤ m → d ≤ fuel → outI c m m col fuel i i = (List.range d).map fun e => col 1 (i + e) (i + e)
  | 0, i, fuel, hd, hi, _ => by
    rw [show i = m by omega]
    cases fuel with
    | zero => rfl
    | succ f => unfold outI; rw [if_pos ⟨rfl, rfl⟩]; rfl
  | d + 1, i, 0, hd, hi, hf => by omega
  | d + 1, i, fuel + 1, hd, hi, hf => by
    have ih := diag_out hc h0 col d (i + 1) fuel (by omega) (by omega) (by omega)
    unfold outI
    rw [if_neg (by omega), diag_way hc h0 (by omega)]
    have a1 : afterS i i ((1 : Nat) : Int) = (i + 1, i + 1) := rfl
    rw [a1, ih, List.range_succ_eq_map, List.map_cons, List.map_map]
    congr 1
    apply List.map_congr_left
    intro e _
    show col 1 (i + 1 + e) (i + 1 + e) = col 1 (i + (e + 1)) (i + (e + 1))
    rw [show i + 1 + e = i + (e + 1) by omega]
theorem first_out (n : Nat) (col : Nat → Nat → Nat → List Int) : ∀ d j fuel, n - j = d → j ≤ n → d ≤ fuel → outI c 0 n col fuel 0 j = (List.range d).map fun e => col 3 0 (j + e)
  | 0, j, fuel, hd, hj, _ => by
    rw [show j = n by omega]
    cases fuel with
    | zero => rfl
    | succ f => unfold outI; rw [if_pos ⟨rfl, rfl⟩]; rfl
  | d + 1, j, 0, hd, hj, hf => by omega
  | d + 1, j, fuel + 1, hd, hj, hf => by
    have ih := first_out n col d (j + 1) fuel (by omega) (by omega) (by omega)
    have hw : wayI c 0 n 0 j = 3 := by
      unfold wayI candI
      have a1 : afterS 0 j ((1 : Nat) : Int) = (1, j + 1) := rfl
      have a2 : afterS 0 j ((2 : Nat) : Int) = (1, j) := rfl
      rw [a1, a2, if_neg (show ¬ ((1, j + 1).1 ≤ 0 ∧ (1, j + 1).2 ≤ n) by simp), if_neg (show ¬ ((1, j).1 ≤ 0 ∧ (1, j).2 ≤ n) by simp)]
      simp
    unfold outI
    rw [if_neg (by omega), hw]
    have a3 : afterS 0 j ((3 : Nat) : Int) = (0, j + 1) := rfl
    rw [a3, ih, List.range_succ_eq_map, List.map_cons, List.map_map]
    congr 1
    apply List.map_congr_left
    intro e _
    show col 3 0 (j + 1 + e) = col 3 0 (j + (e + 1))
    rw [show j + 1 + e = j + (e + 1) by omega]
end
theorem sumW_zero (ws : List Int) : sumW 0 ws = 0 := by
  induction ws with
  | nil => rfl
  | cons w ws ih => unfold sumW; rw [ih]; simp
theorem distC_same (s : Snd) (ws : List Int) (gap : Int) : (distC s s ws gap).1 = 0 := by
  unfold distC
  split
  · rfl
  · split
    · rfl
    · show sumW (diffS s s) ws = 0
      have : diffS s s = 0 := by unfold diffS; split <;> simp
      rw [this, sumW_zero]
theorem column_same {ws : List Int} {gap : Int} {W : List (List Snd)} {w0 : List Snd} {k i : Nat} (hW : ∀ a, a < k → W.getD a [] = w0) : columnE ws gap W (List.replicate k (i : Int)) = 0 := by
  unfold columnE
  rw [List.length_replicate]
  refine sm_zero fun a ha => sm_zero fun b hb => ?_
  unfold colF
  rw [hW a ha, hW b (by omega)]
  have e : ∀ x, x < k → labAt (List.replicate k (i : Int)) x = i := fun x hx => by unfold labAt; rw [List.getElem?_replicate, if_pos hx]; rfl
  rw [e a ha, e b (by omega)]
  unfold pr18
  rw [if_neg (by omega), if_neg (by omega)]
  exact distC_same ..
theorem insS_rep (k : Nat) (x : Int) : insS (List.replicate k x) k x = List.replicate (k + 1) x := by
  unfold insS
  rw [List.take_of_length_le (by simp), List.drop_of_length_le (by simp), List.append_nil, List.replicate_succ']
theorem progE_same {ws : List Int} {gap : Int} (hc : checkC ws gap = 0) {W : List (List Snd)} {w0 : List Snd} (hW : ∀ a, a < W.length → W.getD a [] = w0) : ∀ k, k + 1 ≤ W.length → k + 1 ≤ 8 → progE ws gap W (k + 1) = diagC w0.length (k + 1)
  | 0, hk, _ => by
    show insE (columnE ws gap W) [] 0 0 (W.getD 0 []).length = _
    rw [hW 0 (by omega)]
    unfold insE
    rw [show ([] : List (List Int)).length = 0 from rfl, first_out _ _ w0.length 0 (0 + w0.length) (by omega) (by omega) (by omega)]
    unfold diagC
    apply List.map_congr_left
    intro e _
    show lookS [] 0 0 0 ((0 + e : Nat) : Int) ((3 : Nat) : Int) = _
    rw [Nat.zero_add]
    rfl
  | k + 1, hk, h8 => by
    have ih := progE_same hc hW k (by omega) (by omega)
    show insE (columnE ws gap W) (progE ws gap W (k + 1)) (k + 1) (k + 1) (W.getD (k + 1) []).length = _
    rw [ih, hW (k + 1) (by omega)]
    unfold insE
    rw [diagC_len]
    have hlk : ∀ i, i < w0.length → lookS (diagC w0.length (k + 1)) (k + 1) (k + 1) i (i : Int) ((1 : Nat) : Int) = List.replicate (k + 1 + 1) (i : Int) := fun i hi => by
      show insS ((diagC w0.length (k + 1)).getD i []) (k + 1) (i : Int) = _
      rw [diagC_at hi, insS_rep]
    have hnn : ∀ w i j, 0 ≤ cI (columnE ws gap W) (diagC w0.length (k + 1)) (k + 1) (k + 1) w i j := fun w i j => cI_nonneg hc W (by omega) (fun x hx => by obtain ⟨i, _, rfl⟩ := diagC_mem hx; exact List.length_replicate) _ _ _ _
    have h0 : ∀ i, i < w0.length → cI (columnE ws gap W) (diagC w0.length (k + 1)) (k + 1) (k + 1) 1 i i = 0 := fun i hi => by
      unfold cI
      rw [hlk i hi]
      exact column_same fun a ha => hW a (by omega)
    rw [diag_out hnn h0 _ w0.length 0 (w0.length + w0.length) (by omega) (by omega) (by omega)]
    unfold diagC
    apply List.map_congr_left
    intro e he
    rw [Nat.zero_add]
    exact hlk e (List.mem_range.1 he)
theorem distC_far {x y : Snd} {ws : List Int} {gap : Int} (hc : checkC ws gap = 0) (hx : valid x = true) (hy : valid y = true) (hne : x ≠ y) (h24 : ws.length = 24) (hpos : ∀ w ∈ ws, 0 < w) : 0 < (distC x y ws gap).1 := by
  unfold distC
  rw [if_neg (by simp [hx, hy]), if_neg (by simp [hc])]
  show 0 < sumW (diffS x y) ws
  have h1 := (valid_iff x).1 hx
  have h2 := (valid_iff y).1 hy
  have hd : diffS x y = (x.1 ^^^ y.1) ||| (x.2 ^^^ y.2) := by unfold diffS; rw [hx, hy]; rfl
  obtain ⟨i, hi⟩ : ∃ i, ((x.1 ^^^ y.1) ||| (x.2 ^^^ y.2)).testBit i = true := by
    refine Classical.byContradiction fun hn => hne ?_
    have hall : ∀ i, ((x.1 ^^^ y.1) ||| (x.2 ^^^ y.2)).testBit i = false := fun i => by
      cases h : ((x.1 ^^^ y.1) ||| (x.2 ^^^ y.2)).testBit i with
      | false => rfl
      | true => exact absurd ⟨i, h⟩ hn
    refine Snd.ext (fun g => ?_) (fun g => ?_) <;>
    · have := hall g
      simp only [Nat.testBit_or, Nat.testBit_xor, Bool.or_eq_false_iff, bne_eq_false_iff_eq] at this
      first | exact this.1 | exact this.2
  have hlt : i < 24 := by
    rcases Nat.lt_or_ge i 24 with h | h
    · exact h
    · simp [Nat.testBit_or, Nat.testBit_xor, bit_big h1.2.1 h, bit_big h1.2.2 h, bit_big h2.2.1 h, bit_big h2.2.2 h] at hi
  have hil : i < ws.length := by omega
  have := sumW_bit (diffS x y) ws (fun w hw => Int.le_of_lt (hpos w hw)) i (by rw [hd]; exact hi) ws[i] (List.getElem?_eq_getElem hil)
  have := hpos _ (List.getElem_mem hil)
  omega
theorem matE_far {cs : List Snd} {ws : List Int} {gap : Int} (hc : checkC ws gap = 0) (hC : OkC cs) (hgap : 0 < gap) (h24 : ws.length = 24) (hpos : ∀ w ∈ ws, 0 < w) {a b : Nat} (ha : a ≤ cs.length) (hb : b ≤ cs.length) (hne : a ≠ b) : matE cs ws gap a b ≠ 0 := by
  have key : ∀ i k, i ≤ cs.length → k < i → 0 < dM cs ws gap i k := fun i k hi hk => by
    unfold dM
    split
    · rename_i hlt
      rw [getD_at _ _ _ hlt, getD_at _ _ _ (show k < cs.length by omega)]
      refine distC_far hc (hC.valid _ (List.getElem_mem _)) (hC.valid _ (List.getElem_mem _)) (fun e => ?_) h24 hpos
      have := (List.getElem_inj hC.nodup).1 e
      omega
    · exact hgap
  unfold matE
  rw [if_neg hne]
  split
  · have := key a b ha (by omega); omega
  · have := key b a hb (by omega); omega
theorem best_same {t : List ND} {cs : List Snd} {ws : List Int} {gap : Int} {col : List CE} {s0 : Nat} (hE : treeE t = 0) (hc : checkC ws gap = 0) (hC : OkC cs) (hme : matErr cs ws gap = 0) (hgap : 0 < gap) (h24 : ws.length = 24) (hpos : ∀ w ∈ ws, 0 < w) (hl : col.length = (leavesL t).length)
    (hs : s0 < cs.length) (hall : ∀ y ∈ col, y = (0, (0, 0)) ∨ y = (2, cs[s0])) (hone : (2, cs[s0]) ∈ col) : bestN cs t (matM cs ws gap) col = 0 ∧ bestCE cs t (matM cs ws gap) col = (2, cs[s0]) := by
  obtain ⟨hN, _, _⟩ := treeE_ok hE
  have h11 : cs.length ≤ 11 ∧ overB cs ws gap = false := by
    unfold matErr at hme
    split at hme
    · cases hme
    · split at hme
      · cases hme
      · split at hme
        · cases hme
        · rename_i h1 _ h3
          exact ⟨by omega, by simpa using h3⟩
  have hrl : ∀ r ∈ matM cs ws gap, r.l.length = cs.length + 1 := fun r hr => by
    obtain ⟨a, _, rfl⟩ := List.mem_map.1 hr
    show (List.map _ _).length = _
    rw [List.length_map, List.length_range]
  have hM : OkM (matM cs ws gap) := by
    refine ⟨by rw [matM_len]; omega, by rw [matM_len]; omega, fun r hr => by rw [matM_len]; exact hrl r hr, fun r hr x hx => ?_⟩
    obtain ⟨a, ha, rfl⟩ := List.mem_map.1 hr
    obtain ⟨b, hb, rfl⟩ := List.mem_map.1 hx
    exact matE_bound hc h11.2 (by have := List.mem_range.1 ha; omega) (by have := List.mem_range.1 hb; omega)
  have hst2 : stateE cs (2, cs[s0]) = s0 := stateE_snd hC.nodup hs rfl rfl
  have hst0 : stateE cs (0, (0, 0)) = -1 := rfl
  have hk : ∀ y ∈ col, knownCE cs y := fun y hy => by
    rcases hall y hy with rfl | rfl
    · exact ⟨.inl ⟨rfl, rfl⟩, fun h => by cases h⟩
    · have hv := hC.valid _ (List.getElem_mem hs)
      exact ⟨.inr (.inr ⟨rfl, hv, Sok.of_valid hv⟩), fun _ => List.getElem_mem hs⟩
  have hS := states_ok hl hk
  have hlab : ∀ i, i < col.length → labAt (col.map (stateE cs)) i = -1 ∨ labAt (col.map (stateE cs)) i = s0 := fun i hi => by
    have : labAt (col.map (stateE cs)) i = stateE cs col[i] := by unfold labAt; rw [List.getElem?_map, List.getElem?_eq_getElem hi]; rfl
    rw [this]
    rcases hall _ (List.getElem_mem hi) with e | e
    · left; rw [e]; exact hst0
    · right; rw [e]; exact hst2
  obtain ⟨j, hj, hje⟩ := List.mem_iff_getElem.1 hone
  have hjs : labAt (col.map (stateE cs)) j = s0 := by
    have : labAt (col.map (stateE cs)) j = stateE cs col[j] := by unfold labAt; rw [List.getElem?_map, List.getElem?_eq_getElem hj]; rfl
    rw [this, hje, hst2]
  obtain ⟨w, hw, hwt⟩ := leavesL_mem (List.getElem_mem (l := leavesL t) (show j < (leavesL t).length by omega))
  have hK := matM_len cs ws gap
  obtain ⟨r1, r2⟩ := sank_same (N := t.length) (K := (matM cs ws gap).length) (par := parN t) (M := mAt (matM cs ws gap)) (init := initT (leavesL t) (col.map (stateE cs)) (leavesL t).length) hN (parN_lt hE) (fun v s => initT_or ..) (fun s b => (hM.mAt s b).1)
    (fun s => by
      by_cases e : s < cs.length + 1
      · rw [matM_at (by omega) (by omega)]; unfold matE; rw [if_pos rfl]
      · exact mAt_big hK hrl (by omega)) (fun s b h1 h2 hne => by rw [matM_at (by omega) (by omega)]; exact matE_far hc hC hgap h24 hpos (by omega) (by omega) hne) (s0 := s0) (w := w) (by omega) (fun v _ => by
      unfold initT
      rw [if_neg]
      unfold blockB
      rw [List.any_eq_true]
      rintro ⟨i, hi, h2⟩
      rw [List.mem_range] at hi
      unfold oneB at h2
      simp only [Bool.and_eq_true, decide_eq_true_eq] at h2
      rcases hlab i (by omega) with e | e
      · exact h2.2.1 e
      · exact h2.2.2 e) hwt (fun s hne => by
      unfold initT
      rw [if_pos]
      unfold blockB
      refine List.any_eq_true.2 ⟨j, List.mem_range.2 (by omega), ?_⟩
      unfold oneB
      rw [labAt_get (l := leavesL t) (by omega), hw, hjs]
      simp only [Bool.and_eq_true, decide_eq_true_eq]
      exact ⟨trivial, by omega, by omega⟩)
  change tabT t (matM cs ws gap) (col.map (stateE cs)) (t.length - 1) 0 s0 = some 0 at r1
  have hroot : rootO t (matM cs ws gap) (col.map (stateE cs)) = some 0 := by
    obtain ⟨x, h1, h2⟩ := leastO_le (f := tabT t (matM cs ws gap) (col.map (stateE cs)) (t.length - 1) 0) (n := (matM cs ws gap).length) (b := s0) (by omega) r1
    obtain ⟨b, hb, h3⟩ := leastO_at h1
    have : x = 0 := by
      by_cases e : b = s0
      · subst e; rw [r1] at h3; cases h3; rfl
      · have := r2 b x hb e h3; omega
    subst this; exact h1
  have hleast : leastT t (matM cs ws gap) (col.map (stateE cs)) = 0 := by unfold leastT; rw [hroot]; rfl
  have hS' : OkS t (matM cs ws gap).length (col.map (stateE cs)) := by rw [hK]; exact hS
  have hpos' := rootsT_pos hE hM hS'
  obtain ⟨s, hse, hsl, hso⟩ := rootsT_mem (List.getElem_mem (l := rootsT t (matM cs ws gap) (col.map (stateE cs))) hpos')
  have hss : s = s0 := by
    refine Decidable.byContradiction fun e => ?_
    rw [hleast] at hso
    cases hT : tabT t (matM cs ws gap) (col.map (stateE cs)) (t.length - 1) 0 s with
    | none => rw [hT] at hso; cases hso
    | some x =>
      rw [hT] at hso
      have := r2 s x hsl e hT
      simp only [oI] at hso
      omega
  have hkn : knownL col = true := List.any_eq_true.2 ⟨_, hone, rfl⟩
  unfold bestN bestCE
  rw [if_pos hkn, if_pos hkn]
  refine ⟨hleast, ?_⟩
  unfold rootCE
  rw [labAt_get hpos', hse, Int.toNat_natCast, hss]
  unfold cellOf
  rw [if_pos hs, getD_at _ _ _ hs]
theorem wordN_zero {cs : List Snd} {t : List ND} {rm : List IR} : ∀ {cols : List (List CE)}, (∀ col ∈ cols, bestN cs t rm col = 0) → wordN cs t rm cols = 0
  | [], _ => rfl
  | l :: r, h => by
    show bestN cs t rm l + wordN cs t rm r = 0
    rw [h l (.head _), wordN_zero fun x hx => h x (.tail _ hx)]; rfl
theorem wordS_map {cs : List Snd} {t : List ND} {rm : List IR} {m : Nat} {f : Nat → List CE} {w : Nat → Snd} (h : ∀ i, i < m → bestCE cs t rm (f i) = (2, w i)) : wordS cs t rm ((List.range m).map f) = (List.range m).map w := by
  unfold wordS
  rw [List.map_map]
  have e : (List.range m).map (bestCE cs t rm ∘ f) = (List.range m).map fun i => ((2 : Int), w i) := List.map_congr_left fun i hi => h i (List.mem_range.1 hi)
  rw [e, List.filter_eq_self.2 (fun y hy => by obtain ⟨i, _, rfl⟩ := List.mem_map.1 hy; simp), List.map_map]
  rfl
theorem same_word {l : List FD} {ws : List Int} {gap : Int} {cols : List (List CE)} {t : List ND} {w0 : List Snd} (h : AlOk l ws gap cols) (hE : treeE t = 0) (hl : l.length = (leavesL t).length) (hme : matErr (candsE cols) ws gap = 0) (hgap : 0 < gap) (h24 : ws.length = 24) (hpos : ∀ w ∈ ws, 0 < w) (hsame : ∀ f ∈ l, f.has = true → f.w.w = w0) (hsome : ∃ f ∈ l, f.has = true) :
    wordN (candsE cols) t (matM (candsE cols) ws gap) cols = 0 ∧ wordS (candsE cols) t (matM (candsE cols) ws gap) cols = w0 := by
  have hCo := h.cols
  have hC := candsE_ok hCo
  have h5 := h.five
  have hrk := rankF_le l l.length
  have hWl := wordsW_len l
  have hW : ∀ a, a < (wordsW l).length → (wordsW l).getD a [] = w0 := fun a ha => by
    rw [getD_at _ _ _ ha]
    obtain ⟨f, hf, hh, e⟩ := wordsW_mem (List.getElem_mem ha)
    rw [← e]; exact hsame f hf hh
  obtain ⟨f, hf, hfh⟩ := hsome
  obtain ⟨i0, hi0, rfl⟩ := List.mem_iff_getElem.1 hf
  have hb0 : hasB l i0 = true := by rw [hasB_at hi0]; exact hfh
  have hr0 := rank_lt hi0 hb0
  obtain ⟨K, hK⟩ : ∃ K, (wordsW l).length = K + 1 := ⟨(wordsW l).length - 1, by omega⟩
  have hP : progE ws gap (wordsW l) (wordsW l).length = diagC w0.length (wordsW l).length := by
    rw [hK]
    exact progE_same h.costs hW K (by omega) (by omega)
  have hcells := h.cells
  rw [hP] at hcells
  have hcols : cols = (List.range w0.length).map fun (i : Nat) => entC l (wordsW l) (List.replicate (wordsW l).length (i : Int)) (rankF l l.length) := by
    rw [hcells]
    unfold entryC diagC
    rw [List.map_map]
    rfl
  have hcell : ∀ i (hi : i < w0.length) j, j < l.length → (entC l (wordsW l) (List.replicate (wordsW l).length (i : Int)) (rankF l l.length))[j]? = some (if hasB l j = true then (2, w0[i]) else (0, (0, 0))) := fun i hi j hj => by
    rw [entC_at hj]
    congr 1
    by_cases hb : hasB l j = true
    · rw [if_pos hb, if_pos hb]
      have hrj := rank_lt hj hb
      rw [hW _ (by omega)]
      have : labAt (List.replicate (wordsW l).length (i : Int)) (rankF l j) = i := by unfold labAt; rw [List.getElem?_replicate, if_pos (by omega)]; rfl
      rw [this]
      unfold cellE
      rw [if_neg (by omega), Int.toNat_natCast, getD_at _ _ _ hi]
    · rw [if_neg hb, if_neg hb]
  have key : ∀ i (hi : i < w0.length), bestN (candsE cols) t (matM (candsE cols) ws gap) (entC l (wordsW l) (List.replicate (wordsW l).length (i : Int)) (rankF l l.length)) = 0 ∧ bestCE (candsE cols) t (matM (candsE cols) ws gap) (entC l (wordsW l) (List.replicate (wordsW l).length (i : Int)) (rankF l l.length)) = (2, w0[i]) := fun i hi => by
    have hmem : entC l (wordsW l) (List.replicate (wordsW l).length (i : Int)) (rankF l l.length) ∈ cols := by
      rw [hcols]; exact List.mem_map.2 ⟨i, List.mem_range.2 hi, rfl⟩
    have hone : ((2 : Int), w0[i]) ∈ entC l (wordsW l) (List.replicate (wordsW l).length (i : Int)) (rankF l l.length) := by
      have := hcell i hi i0 hi0
      rw [if_pos hb0] at this
      exact List.mem_of_getElem? this
    have hin := (candsE_known hCo _ hmem _ hone).2 rfl
    obtain ⟨s0, hs0, hse⟩ := List.mem_iff_getElem.1 hin
    have hse' : (candsE cols)[s0] = w0[i] := hse
    rw [← hse'] at hone ⊢
    refine best_same hE h.costs hC hme hgap h24 hpos (by rw [entC_len]; exact hl) hs0 (fun y hy => ?_) hone
    obtain ⟨j, hj⟩ := List.mem_iff_getElem?.1 hy
    have hjl : j < l.length := by
      have := (List.getElem?_eq_some_iff.1 hj).1
      rwa [entC_len] at this
    rw [hcell i hi j hjl] at hj
    cases hj
    split
    · right; rw [hse']
    · left; rfl
  constructor
  · refine wordN_zero fun col hcm => ?_
    rw [hcols] at hcm
    obtain ⟨i, hi, rfl⟩ := List.mem_map.1 hcm
    exact (key i (List.mem_range.1 hi)).1
  · have hw := wordS_map (cs := candsE cols) (t := t) (rm := matM (candsE cols) ws gap) (m := w0.length) (f := fun (i : Nat) => entC l (wordsW l) (List.replicate (wordsW l).length (i : Int)) (rankF l l.length)) (w := fun i => w0.getD i (0, 0)) fun i hi => by rw [getD_at _ _ _ hi]; exact (key i hi).2
    rw [← hcols] at hw
    rw [hw]
    apply List.ext_getElem?
    intro i
    rw [List.getElem?_map]
    rcases Nat.lt_or_ge i w0.length with hi | hi
    · rw [List.getElem?_range hi, Option.map_some, getD_at _ _ _ hi, List.getElem?_eq_getElem hi]
    · rw [List.getElem?_eq_none (by rw [List.length_range]; exact hi), List.getElem?_eq_none hi]; rfl
end Go.Sy
