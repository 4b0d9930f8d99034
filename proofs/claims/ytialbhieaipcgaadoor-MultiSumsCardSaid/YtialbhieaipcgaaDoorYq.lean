/- Chapter 18: the cost is the sum of those of all two words; plain law. -/
import Derived.Test.YtialbhieaipcgaaDoorYj
set_option linter.unusedSimpArgs false
set_option linter.unusedVariables false
namespace Go.Sy
open Go Go.RowKit
/-- What two words cost in columns. -/
def pairC (ws : List Int) (gap : Int) (W : List (List Snd)) : List (List Int) → Nat → Nat → Int
  | [], _, _ => 0
  | c :: cols, a, b => colF ws gap W c a b + pairC ws gap W cols a b
def pairS (ws : List Int) (gap : Int) (W : List (List Snd)) (cols : List (List Int)) (a b : Nat) : Int := if a < b then pairC ws gap W cols a b else 0
theorem costE_pairs (ws : List Int) (gap : Int) (W : List (List Snd)) {n : Nat} : ∀ (cols : List (List Int)), (∀ c ∈ cols, c.length = n) → costE ws gap W cols = sm n fun a => sm n fun b => pairS ws gap W cols a b
  | [], _ => by
    rw [costE_nil]
    refine (sm_zero fun a _ => sm_zero fun b _ => ?_).symm
    unfold pairS pairC; split <;> rfl
  | c :: cols, h => by
    have ih := costE_pairs ws gap W cols fun d hd => h d (List.mem_cons_of_mem _ hd)
    rw [costE_cons, ih, columnE_ref, h c (List.mem_cons_self ..), ← sm_add]
    refine sm_congr fun a _ => ?_
    rw [← sm_add]
    refine sm_congr fun b _ => ?_
    unfold pairS
    by_cases hab : a < b
    · rw [if_pos hab, if_pos hab, if_pos hab]; rfl
    · rw [if_neg hab, if_neg hab, if_neg hab]; rfl
theorem pairC_nn {ws : List Int} {gap : Int} (hc : checkC ws gap = 0) (W : List (List Snd)) : ∀ (cols : List (List Int)) (a b : Nat), 0 ≤ pairC ws gap W cols a b
  | [], _, _ => Int.le_refl _
  | c :: cols, a, b => by
    have h1 := pairC_nn hc W cols a b
    have h2 := (pr18_bound hc (W.getD a []) (W.getD b []) (labAt c a) (labAt c b)).1
    show 0 ≤ pr18 _ _ _ _ _ _ + _
    omega
/-- The place of a word that is left. -/
def upW (j a : Nat) : Nat := if a < j then a else a + 1
theorem getD_erase (W : List (List Snd)) (j a : Nat) : (W.eraseIdx j).getD a [] = W.getD (upW j a) [] := by
  unfold upW
  rw [List.getD_eq_getElem?_getD, List.getD_eq_getElem?_getD, List.getElem?_eraseIdx]
  by_cases h : a < j
  · rw [if_pos h, if_pos h]
  · rw [if_neg h, if_neg h]
theorem pairC_without (ws : List Int) (gap : Int) (W : List (List Snd)) {n j : Nat} (hj : j < n) {a b : Nat} (ha : a < n - 1) (hb : b < n - 1) : ∀ (cols : List (List Int)), (∀ c ∈ cols, c.length = n) → pairC ws gap (W.eraseIdx j) (withoutS cols j) a b = pairC ws gap W cols (upW j a) (upW j b)
  | [], _ => rfl
  | c :: cols, h => by
    have ih := pairC_without ws gap W hj ha hb cols fun d hd => h d (List.mem_cons_of_mem _ hd)
    have hcl := h c (List.mem_cons_self ..)
    have hw : withoutS (c :: cols) j = if hasS (c.eraseIdx j) = true then c.eraseIdx j :: withoutS cols j else withoutS cols j := by
      unfold withoutS
      rw [List.map_cons, List.filter_cons]
    have hF : colF ws gap (W.eraseIdx j) (c.eraseIdx j) a b = colF ws gap W c (upW j a) (upW j b) := by
      unfold colF
      rw [getD_erase, getD_erase, labAt_erase, labAt_erase]; rfl
    rw [hw]
    show _ = colF ws gap W c (upW j a) (upW j b) + _
    by_cases hs : hasS (c.eraseIdx j) = true
    · rw [if_pos hs]
      show colF ws gap (W.eraseIdx j) (c.eraseIdx j) a b + _ = _
      rw [hF, ih]
    · rw [if_neg hs, ih, ← hF]
      have hel : (c.eraseIdx j).length = n - 1 := by rw [List.length_eraseIdx, if_pos (by omega)]; omega
      have hm : ∀ r, r < n - 1 → labAt (c.eraseIdx j) r = -1 := fun r hr => by
        have hrl : r < (c.eraseIdx j).length := by omega
        rw [labAt_get hrl]
        have h1 : hasS (c.eraseIdx j) = false := by simpa using hs
        unfold hasS at h1
        by_cases h2 : (c.eraseIdx j)[r] = -1
        · exact h2
        · rw [Bool.eq_false_iff] at h1
          exact absurd (List.any_eq_true.2 ⟨_, List.getElem_mem hrl, by simpa using h2⟩) h1
      unfold colF
      rw [hm a ha, hm b hb]
      have : pr18 ws gap ((W.eraseIdx j).getD a []) ((W.eraseIdx j).getD b []) (-1) (-1) = 0 := by unfold pr18; rw [if_pos (by decide)]
      rw [this]; omega
/-- Where the words i and k are when those behind J are gone. -/
def pos1 (J i : Nat) : Nat := if i < J then i else J
def pos2 (J i k : Nat) : Nat := if k < J then k else if i < J then J else J + 1
/-- Two words out of others, with columns. -/
structure LeftW (ws : List Int) (gap : Int) (W : List (List Snd)) (i k : Nat) (P : Int) (J : Nat) (V : List (List Snd)) (cols : List (List Int)) : Prop where
  len : V.length = J + (if i < J then 0 else 1) + (if k < J then 0 else 1)
  al : isAl V cols = true
  low : ∀ t, t < J → V[t]? = W[t]?
  cost : pairC ws gap V cols (pos1 J i) (pos2 J i k) = P
  ok : ∀ v ∈ V, v ∈ W
theorem LeftW.skip {ws : List Int} {gap : Int} {W V : List (List Snd)} {i k j : Nat} {P : Int} {cols : List (List Int)} (hik : i < k) (h : LeftW ws gap W i k P (j + 1) V cols) (hj : j = i ∨ j = k) : LeftW ws gap W i k P j V cols := by
  refine ⟨?_, h.al, fun t ht => h.low t (by omega), ?_, h.ok⟩
  · rw [h.len]
    rcases hj with rfl | rfl
    · rw [if_pos (by omega), if_neg (by omega), if_neg (by omega), if_neg (by omega)]
    · rw [if_pos (by omega), if_pos (by omega), if_pos (by omega), if_neg (by omega)]
  · rw [← h.cost]
    congr 1
    · unfold pos1
      rcases hj with rfl | rfl
      · rw [if_neg (by omega), if_pos (by omega)]
      · rw [if_pos (by omega), if_pos (by omega)]
    · unfold pos2
      rcases hj with rfl | rfl
      · rw [if_neg (by omega), if_neg (by omega), if_neg (by omega), if_pos (by omega)]
      · rw [if_neg (by omega), if_pos (by omega), if_pos (by omega)]
theorem LeftW.drop {ws : List Int} {gap : Int} {W V : List (List Snd)} {i k j : Nat} {P : Int} {cols : List (List Int)} (hik : i < k) (h : LeftW ws gap W i k P (j + 1) V cols) (h1 : j ≠ i) (h2 : j ≠ k) : LeftW ws gap W i k P j (V.eraseIdx j) (withoutS cols j) := by
  have hjV : j < V.length := by rw [h.len]; omega
  have hcl : ∀ c ∈ cols, c.length = V.length := fun c hc => ((isAl_of h.al).1 c hc).1
  have hlen : (V.eraseIdx j).length = V.length - 1 := by rw [List.length_eraseIdx, if_pos hjV]
  have hVl := h.len
  refine ⟨?_, without_al hjV h.al, fun t ht => ?_, ?_, fun v hv => h.ok v (List.mem_of_mem_eraseIdx hv)⟩
  · rw [hlen, hVl]
    by_cases a : i < j
    · rw [if_pos (by omega), if_pos a]
      by_cases b : k < j
      · rw [if_pos (by omega), if_pos b]; omega
      · rw [if_neg (by omega), if_neg b]; omega
    · rw [if_neg (by omega), if_neg a, if_neg (by omega), if_neg (by omega)]; omega
  · rw [List.getElem?_eraseIdx, if_pos ht]; exact h.low t (by omega)
  · have e1 : upW j (pos1 j i) = pos1 (j + 1) i := by
      unfold upW pos1
      by_cases a : i < j
      · rw [if_pos a, if_pos a, if_pos (by omega)]
      · rw [if_neg a, if_neg (by omega), if_neg (by omega)]
    have e2 : upW j (pos2 j i k) = pos2 (j + 1) i k := by
      unfold upW pos2
      by_cases b : k < j
      · rw [if_pos b, if_pos b, if_pos (by omega)]
      · rw [if_neg b, if_neg (by omega : ¬ k < j + 1)]
        by_cases a : i < j
        · rw [if_pos a, if_neg (by omega), if_pos (by omega)]
        · rw [if_neg a, if_neg (by omega), if_neg (by omega)]
    have hp1 : pos1 j i < V.length - 1 := by
      unfold pos1
      by_cases a : i < j
      · rw [if_pos a]; rw [if_pos (by omega)] at hVl
        by_cases b : k < j + 1
        · omega
        · rw [if_neg b] at hVl; omega
      · rw [if_neg a]; rw [if_neg (by omega), if_neg (by omega)] at hVl; omega
    have hp2 : pos2 j i k < V.length - 1 := by
      unfold pos2
      by_cases b : k < j
      · rw [if_pos b]; omega
      · rw [if_neg b]
        by_cases a : i < j
        · rw [if_pos a]; rw [if_pos (by omega), if_neg (by omega)] at hVl; omega
        · rw [if_neg a]; rw [if_neg (by omega), if_neg (by omega)] at hVl; omega
    rw [pairC_without ws gap V hjV hp1 hp2 cols hcl, e1, e2]
    exact h.cost
theorem LeftW.start {ws : List Int} {gap : Int} {W : List (List Snd)} {i k : Nat} {cols : List (List Int)} (hik : i < k) (hk : k < W.length) (hal : isAl W cols = true) : LeftW ws gap W i k (pairC ws gap W cols i k) W.length W cols :=
  ⟨by rw [if_pos (by omega), if_pos hk]; rfl, hal, fun _ _ => rfl, by unfold pos1 pos2; rw [if_pos (by omega), if_pos hk], fun _ h => h⟩
theorem LeftW.final {ws : List Int} {gap : Int} {W V : List (List Snd)} {i k : Nat} {P : Int} {cols : List (List Int)} (h : LeftW ws gap W i k P 0 V cols) : costE ws gap V cols = P := by
  have hV : V.length = 2 := h.len
  rw [costE_pairs ws gap V cols fun c hc => by have := ((isAl_of h.al).1 c hc).1; rw [hV] at this; exact this]
  have := h.cost
  rw [show pos1 0 i = 0 from rfl, show pos2 0 i k = 1 from rfl] at this
  rw [← this]
  show (0 + (0 + pairS ws gap V cols 0 0 + pairS ws gap V cols 0 1)) + (0 + pairS ws gap V cols 1 0 + pairS ws gap V cols 1 1) = _
  unfold pairS
  rw [if_neg (by decide), if_pos (by decide), if_neg (by decide), if_neg (by decide)]
  omega
end Go.Sy
