/- Chapter 18: the cheapest alignment of up to three words; plain law. -/
import Derived.Test.YtialbhieaipcgaaDoorBp
import Derived.Test.YtialbhieaipcgaaDoorTg
set_option linter.unusedSimpArgs false
set_option linter.unusedVariables false
/- Chapter 18: the cheapest alignment of up to three words; plain law. -/
namespace Go.Sy
open Go Go.RowKit
abbrev P3 := Nat × Nat × Nat
/-- Is the word k in the set? Word 0 is the highest of three bits. -/
def bX (s k : Nat) : Bool := s.testBit (2 - k)
def okX (e p : P3) (s : Nat) : Bool := (!bX s 0 || p.1 != e.1) && (!bX s 1 || p.2.1 != e.2.1) && (!bX s 2 || p.2.2 != e.2.2)
def nxtX (p : P3) (s : Nat) : P3 := (p.1 + (bX s 0).toNat, p.2.1 + (bX s 1).toNat, p.2.2 + (bX s 2).toNat)
def leX (p e : P3) : Prop := p.1 ≤ e.1 ∧ p.2.1 ≤ e.2.1 ∧ p.2.2 ≤ e.2.2
def remX (e p : P3) : Nat := (e.1 - p.1) + (e.2.1 - p.2.1) + (e.2.2 - p.2.2)
theorem bX_some : ∀ s, s ≤ 7 → 0 < s → bX s 0 = true ∨ bX s 1 = true ∨ bX s 2 = true := by decide
theorem okX_iff {e p : P3} {s : Nat} : okX e p s = true ↔ (bX s 0 = true → p.1 ≠ e.1) ∧ (bX s 1 = true → p.2.1 ≠ e.2.1) ∧ (bX s 2 = true → p.2.2 ≠ e.2.2) := by
  unfold okX
  cases bX s 0 <;> cases bX s 1 <;> cases bX s 2 <;> simp [and_assoc]
theorem nxt_le {e p : P3} {s : Nat} (h : leX p e) (ho : okX e p s = true) : leX (nxtX p s) e := by
  obtain ⟨h1, h2, h3⟩ := h
  obtain ⟨o1, o2, o3⟩ := okX_iff.1 ho
  unfold nxtX leX
  revert o1 o2 o3
  cases bX s 0 <;> cases bX s 1 <;> cases bX s 2 <;> simp <;> omega
theorem nxt_rem {e p : P3} {s : Nat} (h : leX p e) (ho : okX e p s = true) (h0 : 0 < s) (h7 : s ≤ 7) : remX e (nxtX p s) < remX e p := by
  obtain ⟨h1, h2, h3⟩ := h
  obtain ⟨o1, o2, o3⟩ := okX_iff.1 ho
  have hb := bX_some s h7 h0
  unfold nxtX remX
  revert o1 o2 o3 hb
  cases bX s 0 <;> cases bX s 1 <;> cases bX s 2 <;> simp <;> omega
theorem rem_zero {e p : P3} (h : leX p e) (h0 : remX e p = 0) : p = e := by
  obtain ⟨h1, h2, h3⟩ := h
  unfold remX at h0
  obtain ⟨a, b, d⟩ := p
  obtain ⟨a', b', d'⟩ := e
  simp only [Prod.mk.injEq] at *
  omega
/-- The least so far over the sets 7, 6, .. -/
def pickF (f : Nat → Option Int) : Nat → Int × Nat
  | 0 => (-1, 0)
  | k + 1 => stepP (pickF f k) (7 - k) (f (7 - k))
theorem pickF_congr {f g : Nat → Option Int} (h : ∀ s, 0 < s → s ≤ 7 → f s = g s) : ∀ k, k ≤ 7 → pickF f k = pickF g k
  | 0, _ => rfl
  | k + 1, hk => by unfold pickF; rw [pickF_congr h k (by omega), h (7 - k) (by omega) (by omega)]
structure Best (f : Nat → Option Int) (k : Nat) (x : Int × Nat) : Prop where
  lo : 7 - k < x.2
  hi : x.2 ≤ 7
  pos : 0 ≤ x.1
  is : f x.2 = some x.1
  least : ∀ w s, 7 - k < w → w ≤ 7 → f w = some s → x.1 ≤ s ∧ (x.2 < w → x.1 < s)
theorem pickF_best {f : Nat → Option Int} (hn : ∀ w s, f w = some s → 0 ≤ s) : ∀ k, k ≤ 7 → (pickF f k = (-1, 0) ∧ ∀ w, 7 - k < w → w ≤ 7 → f w = none) ∨ Best f k (pickF f k)
  | 0, _ => .inl ⟨rfl, fun w h1 h2 => by omega⟩
  | k + 1, hk => by
    have e : pickF f (k + 1) = stepP (pickF f k) (7 - k) (f (7 - k)) := rfl
    rw [e]
    cases hf : f (7 - k) with
    | none =>
      show (pickF f k = (-1, 0) ∧ _) ∨ Best f (k + 1) (pickF f k)
      rcases pickF_best hn k (by omega) with ⟨h1, h2⟩ | h
      · refine .inl ⟨h1, fun w a b => ?_⟩
        by_cases hw : w = 7 - k
        · rw [hw]; exact hf
        · exact h2 w (by omega) b
      · refine .inr ⟨by have := h.lo; omega, h.hi, h.pos, h.is, fun w s a b hs => ?_⟩
        by_cases hw : w = 7 - k
        · rw [hw, hf] at hs; cases hs
        · exact h.least w s (by omega) b hs
    | some v =>
      have hv := hn _ _ hf
      rcases pickF_best hn k (by omega) with ⟨h1, h2⟩ | h
      · have e2 : stepP (pickF f k) (7 - k) (some v) = (v, 7 - k) := by rw [h1]; show (if (-1 : Int) < 0 ∨ v < -1 then (v, 7 - k) else (-1, 0)) = _; rw [if_pos (.inl (by decide))]
        rw [e2]
        refine .inr ⟨by show 7 - (k + 1) < 7 - k; omega, by show 7 - k ≤ 7; omega, hv, hf, fun w s a b hs => ?_⟩
        by_cases hw : w = 7 - k
        · subst hw; rw [hf] at hs; cases hs
          exact ⟨Int.le_refl _, fun h => absurd h (Nat.lt_irrefl _)⟩
        · rw [h2 w (by omega) b] at hs; cases hs
      · have hp := h.pos
        have hlo := h.lo
        by_cases hlt : v < (pickF f k).1
        · have e2 : stepP (pickF f k) (7 - k) (some v) = (v, 7 - k) := if_pos (.inr hlt)
          rw [e2]
          refine .inr ⟨by show 7 - (k + 1) < 7 - k; omega, by show 7 - k ≤ 7; omega, hv, hf, fun w s a b hs => ?_⟩
          show v ≤ s ∧ (7 - k < w → v < s)
          by_cases hw : w = 7 - k
          · subst hw; rw [hf] at hs; cases hs
            exact ⟨Int.le_refl _, fun h => absurd h (Nat.lt_irrefl _)⟩
          · have := (h.least w s (by omega) b hs).1
            exact ⟨by omega, fun _ => by omega⟩
        · have e2 : stepP (pickF f k) (7 - k) (some v) = pickF f k := if_neg (by omega)
          rw [e2]
          refine .inr ⟨by omega, h.hi, hp, h.is, fun w s a b hs => ?_⟩
          by_cases hw : w = 7 - k
          · subst hw; rw [hf] at hs; cases hs
            exact ⟨by omega, fun h => by omega⟩
          · exact h.least w s (by omega) b hs
def candX (c : P3 → Nat → Int) (e : P3) (E : P3 → Int) (p : P3) (s : Nat) : Option Int := if okX e p s = true then some (c p s + E (nxtX p s)) else none
def EXf (c : P3 → Nat → Int) (e : P3) : Nat → P3 → Int
  | 0, _ => 0
  | f + 1, p => if p = e then 0 else (pickF (candX c e (EXf c e f) p) 7).1
/-- The least cost from a point on. -/
def EX (c : P3 → Nat → Int) (e p : P3) : Int := EXf c e (remX e p) p
theorem EXf_end (c : P3 → Nat → Int) (e : P3) (f : Nat) : EXf c e f e = 0 := by
  cases f with
  | zero => rfl
  | succ f => exact if_pos rfl
theorem EXf_indep (c : P3 → Nat → Int) (e : P3) : ∀ f p, leX p e → remX e p ≤ f → EXf c e f p = EX c e p := by
  intro f
  induction f using Nat.strongRecOn with
  | _ f ih =>
    intro p hp hr
    unfold EX
    by_cases hpe : p = e
    · rw [hpe, EXf_end, EXf_end]
    · obtain ⟨r, hr'⟩ : ∃ r, remX e p = r + 1 := ⟨remX e p - 1, by have := mt (rem_zero hp) hpe; omega⟩
      obtain ⟨g, hg⟩ : ∃ g, f = g + 1 := ⟨f - 1, by omega⟩
      rw [hr']
      subst hg
      show (if p = e then 0 else (pickF (candX c e (EXf c e g) p) 7).1) = if p = e then 0 else (pickF (candX c e (EXf c e r) p) 7).1
      rw [if_neg hpe, if_neg hpe, pickF_congr (fun s h0 h7 => ?_) 7 (Nat.le_refl 7)]
      unfold candX
      by_cases ho : okX e p s = true
      · rw [if_pos ho, if_pos ho]
        have h1 := nxt_rem hp ho h0 h7
        have h2 := nxt_le hp ho
        rw [ih g (by omega) _ h2 (by omega), ih r (by omega) _ h2 (by omega)]
      · rw [if_neg ho, if_neg ho]
theorem EX_end (c : P3 → Nat → Int) (e : P3) : EX c e e = 0 := EXf_end ..
theorem EX_eq {c : P3 → Nat → Int} {e p : P3} (hp : leX p e) (hpe : p ≠ e) : EX c e p = (pickF (candX c e (EX c e) p) 7).1 := by
  conv => lhs; unfold EX
  obtain ⟨r, hr'⟩ : ∃ r, remX e p = r + 1 := ⟨remX e p - 1, by have := mt (rem_zero hp) hpe; omega⟩
  rw [hr']
  show (if p = e then 0 else (pickF (candX c e (EXf c e r) p) 7).1) = _
  rw [if_neg hpe, pickF_congr (fun s h0 h7 => ?_) 7 (Nat.le_refl 7)]
  unfold candX
  by_cases ho : okX e p s = true
  · rw [if_pos ho, if_pos ho, EXf_indep c e r _ (nxt_le hp ho) (by have := nxt_rem hp ho h0 h7; omega)]
  · rw [if_neg ho, if_neg ho]
/-- One of the sets of one word is open. -/
theorem one_open {e p : P3} (hp : leX p e) (hpe : p ≠ e) : ∃ s, 0 < s ∧ s ≤ 7 ∧ okX e p s = true := by
  obtain ⟨h1, h2, h3⟩ := hp
  by_cases a : p.1 = e.1
  · by_cases b : p.2.1 = e.2.1
    · by_cases d : p.2.2 = e.2.2
      · exact absurd (Prod.ext a (Prod.ext b d)) hpe
      · exact ⟨1, by decide, by decide, okX_iff.2 ⟨fun h => absurd h (by decide), fun h => absurd h (by decide), fun _ => d⟩⟩
    · exact ⟨2, by decide, by decide, okX_iff.2 ⟨fun h => absurd h (by decide), fun _ => b, fun h => absurd h (by decide)⟩⟩
  · exact ⟨4, by decide, by decide, okX_iff.2 ⟨fun _ => a, fun h => absurd h (by decide), fun h => absurd h (by decide)⟩⟩
theorem EXf_nonneg {c : P3 → Nat → Int} (hc : ∀ p s, 0 ≤ c p s) (e : P3) : ∀ f p, leX p e → remX e p ≤ f → 0 ≤ EXf c e f p
  | 0, _, _, _ => Int.le_refl _
  | f + 1, p, hp, hr => by
    show 0 ≤ if p = e then 0 else (pickF (candX c e (EXf c e f) p) 7).1
    split
    · exact Int.le_refl _
    · rename_i hpe
      obtain ⟨s, h0, h7, ho⟩ := one_open hp hpe
      have hcn : pickF (candX c e (EXf c e f) p) 7 = pickF (fun s => if 0 < s ∧ s ≤ 7 then candX c e (EXf c e f) p s else none) 7 := pickF_congr (fun s h0 h7 => by rw [if_pos ⟨h0, h7⟩]) 7 (Nat.le_refl 7)
      rw [hcn]
      rcases pickF_best (f := fun s => if 0 < s ∧ s ≤ 7 then candX c e (EXf c e f) p s else none) (fun w v hv => by
        split at hv
        · rename_i hw
          unfold candX at hv
          split at hv
          · rename_i hok
            cases hv
            have := hc p w
            have := EXf_nonneg hc e f (nxtX p w) (nxt_le hp hok) (by have := nxt_rem hp hok hw.1 hw.2; omega)
            omega
          · cases hv
        · cases hv) 7 (Nat.le_refl 7) with ⟨_, h2⟩ | h
      · have := h2 s (by omega) h7
        rw [if_pos ⟨h0, h7⟩] at this
        unfold candX at this; rw [if_pos ho] at this; cases this
      · exact h.pos
theorem EX_nonneg {c : P3 → Nat → Int} (hc : ∀ p s, 0 ≤ c p s) {e p : P3} (hp : leX p e) : 0 ≤ EX c e p := EXf_nonneg hc e _ _ hp (Nat.le_refl _)
theorem candX_nonneg {c : P3 → Nat → Int} (hc : ∀ p s, 0 ≤ c p s) {e p : P3} (hp : leX p e) {s : Nat} {v : Int} (h : candX c e (EX c e) p s = some v) : 0 ≤ v := by
  unfold candX at h
  split at h
  · rename_i ho
    cases h
    have := hc p s
    have := EX_nonneg hc (nxt_le hp ho)
    omega
  · cases h
/-- The set that is chosen. -/
theorem pick_best {c : P3 → Nat → Int} (hc : ∀ p s, 0 ≤ c p s) {e p : P3} (hp : leX p e) (hpe : p ≠ e) : Best (candX c e (EX c e) p) 7 (pickF (candX c e (EX c e) p) 7) := by
  rcases pickF_best (f := candX c e (EX c e) p) (fun w v h => candX_nonneg hc hp h) 7 (Nat.le_refl 7) with ⟨_, h2⟩ | h
  · obtain ⟨s, h0, h7, ho⟩ := one_open hp hpe
    have := h2 s (by omega) h7
    unfold candX at this; rw [if_pos ho] at this; cases this
  · exact h
def setX (c : P3 → Nat → Int) (e p : P3) : Nat := (pickF (candX c e (EX c e) p) 7).2
theorem set_ok {c : P3 → Nat → Int} (hc : ∀ p s, 0 ≤ c p s) {e p : P3} (hp : leX p e) (hpe : p ≠ e) : 0 < setX c e p ∧ setX c e p ≤ 7 ∧ okX e p (setX c e p) = true ∧ candX c e (EX c e) p (setX c e p) = some (EX c e p) := by
  have h := pick_best hc hp hpe
  have h4 := h.is
  rw [← EX_eq hp hpe] at h4
  refine ⟨by have := h.lo; unfold setX; omega, h.hi, ?_, h4⟩
  unfold candX at h4
  split at h4
  · assumption
  · cases h4
theorem EX_le {c : P3 → Nat → Int} (hc : ∀ p s, 0 ≤ c p s) {e : P3} (hB : ∀ p s, leX p e → okX e p s = true → c p s ≤ 2199023255552) : ∀ r p, leX p e → remX e p = r → EX c e p ≤ (r : Int) * 2199023255552 := by
  intro r
  induction r using Nat.strongRecOn with
  | _ r ih =>
    intro p hp hr
    by_cases hpe : p = e
    · rw [hpe, EX_end]; omega
    · obtain ⟨s, h0, h7, ho⟩ := one_open hp hpe
      have h := pick_best hc hp hpe
      have h1 := (h.least s _ (by omega) h7 (by unfold candX; rw [if_pos ho])).1
      rw [← EX_eq hp hpe] at h1
      have h2 := nxt_rem hp ho h0 h7
      have h3 := ih (remX e (nxtX p s)) (by omega) _ (nxt_le hp ho) rfl
      have h4 := hB p s hp ho
      omega
/-- The columns from a point on. -/
def outX (c : P3 → Nat → Int) (e : P3) (col : P3 → Nat → List Int) : Nat → P3 → List (List Int)
  | 0, _ => []
  | f + 1, p => if p = e then [] else col p (setX c e p) :: outX c e col f (nxtX p (setX c e p))
theorem outX_end (c : P3 → Nat → Int) (e : P3) (col : P3 → Nat → List Int) (f : Nat) : outX c e col f e = [] := by
  cases f with
  | zero => rfl
  | succ f => exact if_pos rfl
theorem outX_go (c : P3 → Nat → Int) {e p : P3} (col : P3 → Nat → List Int) (hpe : p ≠ e) (f : Nat) : outX c e col (f + 1) p = col p (setX c e p) :: outX c e col f (nxtX p (setX c e p)) := if_neg hpe
theorem outX_len (c : P3 → Nat → Int) (e : P3) (col : P3 → Nat → List Int) : ∀ f p, (outX c e col f p).length ≤ f
  | 0, _ => Nat.le_refl _
  | f + 1, p => by
    unfold outX
    split
    · exact Nat.zero_le _
    · have := outX_len c e col f (nxtX p (setX c e p))
      simp only [List.length_cons]; omega
def at3 (p : P3) : Nat → Nat
  | 0 => p.1
  | 1 => p.2.1
  | _ => p.2.2
/-- The column of a set of words. -/
def colX (n : Nat) (p : P3) (s : Nat) : List Int := (List.range n).map fun k => if bX s k = true then (at3 p k : Int) else -1
theorem colX_len (n : Nat) (p : P3) (s : Nat) : (colX n p s).length = n := by unfold colX; rw [List.length_map, List.length_range]
theorem colX_at {n : Nat} {p : P3} {s k : Nat} (hk : k < n) : labAt (colX n p s) k = if bX s k = true then (at3 p k : Int) else -1 := by
  unfold labAt colX
  rw [List.getElem?_map, List.getElem?_range hk]; rfl
def endX (W : List (List Snd)) : P3 := ((W.getD 0 []).length, (W.getD 1 []).length, (W.getD 2 []).length)
theorem endX_at (W : List (List Snd)) {k : Nat} (hk : k < 3) : at3 (endX W) k = (W.getD k []).length := by
  match k, hk with
  | 0, _ => rfl
  | 1, _ => rfl
  | 2, _ => rfl
theorem okX_at {e p : P3} {s : Nat} : okX e p s = true ↔ ∀ k, k < 3 → bX s k = true → at3 p k ≠ at3 e k := by
  rw [okX_iff]
  constructor
  · rintro ⟨h0, h1, h2⟩ k hk hb
    match k, hk with
    | 0, _ => exact h0 hb
    | 1, _ => exact h1 hb
    | 2, _ => exact h2 hb
  · intro h
    exact ⟨h 0 (by decide), h 1 (by decide), h 2 (by decide)⟩
theorem leX_at {e p : P3} : leX p e ↔ ∀ k, k < 3 → at3 p k ≤ at3 e k := by
  unfold leX
  constructor
  · rintro ⟨h0, h1, h2⟩ k hk
    match k, hk with
    | 0, _ => exact h0
    | 1, _ => exact h1
    | 2, _ => exact h2
  · intro h
    exact ⟨h 0 (by decide), h 1 (by decide), h 2 (by decide)⟩
theorem colX_ent {W : List (List Snd)} {p : P3} {s : Nat} (h3 : W.length ≤ 3) (hp : leX p (endX W)) (ho : okX (endX W) p s = true) : EntOk W (colX W.length p s) := fun i hi => by
  rw [colX_len] at hi
  rw [colX_at hi]
  by_cases hb : bX s i = true
  · rw [if_pos hb]
    have h1 := okX_at.1 ho i (by omega) hb
    have h2 := leX_at.1 hp i (by omega)
    rw [endX_at W (by omega)] at h1 h2
    rw [wl_getD]
    exact .inr ⟨by omega, by omega⟩
  · rw [if_neg hb]; exact .inl rfl
/-- What the sets cost. -/
def cX (ws : List Int) (gap : Int) (W : List (List Snd)) (p : P3) (s : Nat) : Int := columnE ws gap W (colX W.length p s)
theorem cX_nonneg {ws : List Int} {gap : Int} (hc : checkC ws gap = 0) {W : List (List Snd)} (h3 : W.length ≤ 3) (p : P3) (s : Nat) : 0 ≤ cX ws gap W p s := (columnE_bound hc W _ (by rw [colX_len]; omega)).1
theorem cX_le {ws : List Int} {gap : Int} (hc : checkC ws gap = 0) {W : List (List Snd)} (h3 : W.length ≤ 3) (p : P3) (s : Nat) : cX ws gap W p s ≤ 2199023255552 := (columnE_bound hc W _ (by rw [colX_len]; omega)).2
def p0 : P3 := (0, 0, 0)
theorem p0_le (e : P3) : leX p0 e := ⟨Nat.zero_le _, Nat.zero_le _, Nat.zero_le _⟩
/-- The cheapest alignment, its cost, or the error. -/
def exactA (ws : List Int) (gap : Int) (W : List (List Snd)) : List (List Int) × Int × Int :=
  if checkC ws gap ≠ 0 then ([], 0, checkC ws gap) else if wordsE 3 W ≠ 0 then ([], 0, wordsE 3 W) else if W.any (fun w => decide (6 < w.length)) = true then ([], 0, 11) else
    (outX (cX ws gap W) (endX W) (colX W.length) (remX (endX W) p0) p0, EX (cX ws gap W) (endX W) p0, 0)
end Go.Sy
/- Chapter 18: Exact's two functions. -/
namespace Go.Sy
open Go Go.RowKit
def l3 (p : P3) : List Int := [p.1, p.2.1, p.2.2]
theorem l3_at (p : P3) {k : Nat} (hk : k < 3) : labAt (l3 p) k = (at3 p k : Int) := by
  match k, hk with
  | 0, _ => rfl
  | 1, _ => rfl
  | 2, _ => rfl
def v3 (p : P3) : Value := .agg #[.int .i64 (p.1 : Int), .int .i64 (p.2.1 : Int), .int .i64 (p.2.2 : Int)]
/-- The point with the first k words moved. -/
def mixX (p : P3) (s k : Nat) : P3 := (if 0 < k then p.1 + (bX s 0).toNat else p.1, if 1 < k then p.2.1 + (bX s 1).toNat else p.2.1, if 2 < k then p.2.2 + (bX s 2).toNat else p.2.2)
theorem mixX_three (p : P3) (s : Nat) : mixX p s 3 = nxtX p s := rfl
theorem mixX_at (p : P3) (s : Nat) {k : Nat} (hk : k < 3) : at3 (mixX p s k) k = at3 p k := by
  match k, hk with
  | 0, _ => rfl
  | 1, _ => rfl
  | 2, _ => rfl
theorem mixX_no {p : P3} {s k : Nat} (hk : k < 3) (hb : bX s k = false) : mixX p s (k + 1) = mixX p s k := by
  match k, hk with
  | 0, _ => unfold mixX; rw [hb]; rfl
  | 1, _ => unfold mixX; rw [hb]; rfl
  | 2, _ => unfold mixX; rw [hb]; rfl
theorem mixX_yes {p : P3} {s k : Nat} (hk : k < 3) (hb : bX s k = true) : (l3 (mixX p s k)).set k ((at3 p k : Int) + 1) = l3 (mixX p s (k + 1)) := by
  match k, hk with
  | 0, _ => unfold mixX; rw [hb]; rfl
  | 1, _ => unfold mixX; rw [hb]; rfl
  | 2, _ => unfold mixX; rw [hb]; rfl
/-- The column with the first k words filled in. -/
def colK (n : Nat) (p : P3) (s k : Nat) : List Int := (List.range n).map fun x => if x < k ∧ bX s x = true then (at3 p x : Int) else -1
theorem colK_len (n : Nat) (p : P3) (s k : Nat) : (colK n p s k).length = n := by unfold colK; rw [List.length_map, List.length_range]
theorem colK_get (n : Nat) (p : P3) (s k i : Nat) : (colK n p s k)[i]? = if i < n then some (if i < k ∧ bX s i = true then (at3 p i : Int) else -1) else none := by
  unfold colK
  rw [List.getElem?_map]
  by_cases h : i < n
  · rw [List.getElem?_range h, if_pos h]; rfl
  · rw [List.getElem?_eq_none (by rw [List.length_range]; omega), if_neg h]; rfl
theorem colK_zero (n : Nat) (p : P3) (s : Nat) : colK n p s 0 = List.replicate n (-1) := by
  refine List.ext_getElem? fun i => ?_
  rw [colK_get, List.getElem?_replicate, if_neg (show ¬ (i < 0 ∧ bX s i = true) from fun h => absurd h.1 (Nat.not_lt_zero _))]
theorem colK_all {n k : Nat} (p : P3) (s : Nat) (h : n ≤ k) : colK n p s k = colX n p s := by
  unfold colK colX
  refine List.map_congr_left fun x hx => ?_
  rw [List.mem_range] at hx
  have : (x < k ∧ bX s x = true) ↔ bX s x = true := ⟨fun h => h.2, fun h => ⟨by omega, h⟩⟩
  simp only [this]
theorem colK_no {n : Nat} {p : P3} {s k : Nat} (hb : bX s k = false) : colK n p s (k + 1) = colK n p s k := by
  unfold colK
  refine List.map_congr_left fun x hx => ?_
  by_cases e : x = k
  · subst e; rw [if_neg (by simp [hb]), if_neg (by simp [hb])]
  · have : (x < k + 1 ∧ bX s x = true) ↔ (x < k ∧ bX s x = true) := by constructor <;> rintro ⟨h1, h2⟩ <;> exact ⟨by omega, h2⟩
    simp only [this]
theorem colK_yes {n : Nat} {p : P3} {s k : Nat} (hk : k < n) (hb : bX s k = true) : (colK n p s k).set k (at3 p k : Int) = colK n p s (k + 1) := by
  refine List.ext_getElem? fun i => ?_
  rw [List.getElem?_set, colK_get, colK_get, colK_len]
  by_cases e : k = i
  · subst e; rw [if_pos rfl, if_pos hk, if_pos hk, if_pos ⟨by omega, hb⟩]
  · rw [if_neg e]
    have : (i < k + 1 ∧ bX s i = true) ↔ (i < k ∧ bX s i = true) := by constructor <;> rintro ⟨h1, h2⟩ <;> exact ⟨by omega, h2⟩
    simp only [this]
theorem bit_three : ∀ s : Nat, s ≤ 7 → ∀ k : Nat, k ≤ 2 → cm .eql (ar .and .i64 (ar .shr .i64 (s : Int) (ar .sub .i64 2 (k : Int))) 1) 0 = !bX s k := by decide
def gridL (f : P3 → Int) : List Value := (List.range 343).map fun i => .int .i64 (f (i / 49, i / 7 % 7, i % 7))
theorem gridL_len (f : P3 → Int) : (gridL f).length = 343 := by unfold gridL; rw [List.length_map, List.length_range]
theorem gridL_at (f : P3 → Int) {a b d : Nat} (ha : a < 7) (hb : b < 7) (hd : d < 7) : (gridL f)[a * 49 + b * 7 + d]? = some (.int .i64 (f (a, b, d))) := by
  unfold gridL
  rw [List.getElem?_map, List.getElem?_range (by omega), Option.map_some]
  rw [show (a * 49 + b * 7 + d) / 49 = a by omega, show (a * 49 + b * 7 + d) / 7 % 7 = b by omega, show (a * 49 + b * 7 + d) % 7 = d by omega]
def upd3 (f : P3 → Int) (p : P3) (v : Int) : P3 → Int := fun q => if q = p then v else f q
theorem gridL_set (f : P3 → Int) {a b d : Nat} (ha : a < 7) (hb : b < 7) (hd : d < 7) (v : Int) : putAt (gridL f) (a * 49 + b * 7 + d) [.int .i64 v] = gridL (upd3 f (a, b, d) v) := by
  have hl := gridL_len f
  unfold putAt
  rw [List.append_assoc, List.singleton_append]
  show (gridL f).take (a * 49 + b * 7 + d) ++ .int .i64 v :: (gridL f).drop (a * 49 + b * 7 + d + 1) = _
  rw [show (gridL f).take (a * 49 + b * 7 + d) ++ .int .i64 v :: (gridL f).drop (a * 49 + b * 7 + d + 1) = (gridL f).set (a * 49 + b * 7 + d) (.int .i64 v) by rw [List.set_eq_take_append_cons_drop, if_pos (by rw [hl]; omega)]]
  refine List.ext_getElem? fun i => ?_
  rw [List.getElem?_set, hl]
  unfold gridL upd3
  rw [List.getElem?_map, List.getElem?_map]
  by_cases h : i < 343
  · rw [List.getElem?_range h]
    by_cases e : a * 49 + b * 7 + d = i
    · subst e
      rw [if_pos rfl, if_pos h, Option.map_some, show (a * 49 + b * 7 + d) / 49 = a by omega, show (a * 49 + b * 7 + d) / 7 % 7 = b by omega, show (a * 49 + b * 7 + d) % 7 = d by omega, if_pos rfl]
    · rw [if_neg e, Option.map_some, Option.map_some, if_neg (fun h => e (by
        simp only [Prod.mk.injEq] at h
        omega))]
  · rw [List.getElem?_eq_none (by rw [List.length_range]; omega), if_neg (by omega)]; rfl
end Go.Sy
namespace Go.Proofs.YtialbhieaipcgaaDoor
open Go Go.Sy Go.RowKit
/-- What Exact's first function answers. -/
def BehQ (n : Nat) (e pt : P3) (s : Nat) (v : Value) (mq : Mem) : Prop :=
  (okX e pt s = true ∧ ∃ q cq, v = .tuple #[slv q n cq, v3 (nxtX pt s), .bool true] ∧ Row mq 3 1 q cq n (intsL (colX n pt s))) ∨ (okX e pt s = false ∧ ∃ x : P3, v = .tuple #[slv none 0 0, v3 x, .bool false])
theorem beh_fresh (ρ : Env) (L : List Nat) (q : Option Addr) (n cap : Nat) (a b d : Int) (x : Bool) : ((Sh.tup [.sl, .agg [.int .i64, .int .i64, .int .i64], .bool]).fresh ρ.length).1.den L (ρ ++ [.p q, .i n, .i cap, .i a, .i b, .i d, .b x]) = .tuple #[slv q n cap, .agg #[.int .i64 a, .int .i64 b, .int .i64 d], .bool x] := by
  have e1 := sl_at ρ L q n cap [.i a, .i b, .i d, .b x]
  have e3 := getElem_env ρ [.p q, .i n, .i cap, .i a, .i b, .i d, .b x] 3
  have e4 := getElem_env ρ [.p q, .i n, .i cap, .i a, .i b, .i d, .b x] 4
  have e5 := getElem_env ρ [.p q, .i n, .i cap, .i a, .i b, .i d, .b x] 5
  have e6 := getElem_env ρ [.p q, .i n, .i cap, .i a, .i b, .i d, .b x] 6
  simp only [Sh.fresh, Sh.freshs, SV.den, SV.dens, BT.eval, IT.eval, Env.bool, Env.int, Nat.add_assoc] at e1 e3 e4 e5 e6 ⊢
  rw [e1, e3, e4, e5, e6]
  rfl
theorem three_at (ρ : Env) (L : List Nat) (a b d : Int) : SV.dens L (ρ ++ [.i a, .i b, .i d]) (Sh.freshs [.int .i64, .int .i64, .int .i64] ρ.length).1 = [.int .i64 a, .int .i64 b, .int .i64 d] := by
  have e0 := getElem_env ρ [.i a, .i b, .i d] 0
  have e1 := getElem_env ρ [.i a, .i b, .i d] 1
  have e2 := getElem_env ρ [.i a, .i b, .i d] 2
  simp only [Sh.fresh, Sh.freshs, SV.den, SV.dens, IT.eval, Env.int, Nat.add_assoc] at e0 e1 e2 ⊢
  rw [Nat.add_zero] at e0
  rw [e0, e1, e2]
  rfl
/-- A load of a point. -/
theorem _root_.Go.Sy.DenM.load3 {c : Cx} {L : List Nat} {ρ : Env} {blks : List Blk} {m : Mem} {R : Value → HW → Prop} {Dn : Nat → List U → HW → Prop} {A : List (List U → HW → Prop)} {i : Nat} {k : Tree} (p : P3) (hc : Good c L m → Cells (vw c L ρ blks m) (ρ.ptr i) (intsL (l3 p)))
    (hk : DenM Tryd.prog R Dn k L (ρ ++ [.i p.1, .i p.2.1, .i p.2.2]) c m A) : DenM Tryd.prog R Dn (.load i (.lit 0) [.int .i64, .int .i64, .int .i64] blks k) L ρ c m A := by
  refine .loadC [.i p.1, .i p.2.1, .i p.2.2] (ρ.ptr i) (intsL (l3 p)) 0 rfl rfl rfl hc (by show 0 < 3; decide) (fun q v hv => ?_) hk
  rw [three_at] at hv
  rw [Nat.zero_add]; exact hv
theorem c_behind (pt e : P3) (s : Nat) (h0 : 0 < s) (h7 : s ≤ 7) (bl be : Nat) (p : Option Addr) (cp n : Nat) (hn0 : 0 < n) (hn3 : n ≤ 3) (hp : leX pt e) (he : ∀ k, n ≤ k → k < 3 → at3 e k = 0) (he6 : ∀ k, k < 3 → at3 e k ≤ 6) :
    FnM Tryd.prog n_multi_Exact_3 [v3 pt, .int .i64 (s : Int), .pointer (some ⟨bl, 0, none⟩), .pointer (some ⟨be, 0, none⟩)] (fun R => Cells R (some ⟨bl, 0, none⟩) [slv p n cp] ∧ Cells R (some ⟨be, 0, none⟩) (intsL (l3 e))) fun v mq _ => BehQ n e pt s v mq := by
  refine FnM.of S_multi_Exact_3 mx [.i pt.1, .i pt.2.1, .i pt.2.2, .i s, .p (some ⟨bl, 0, none⟩), .p (some ⟨be, 0, none⟩)] rfl rfl fun c hc => .allocc fun gp hgp _ _ => ?_
  have hR0 : Row (Mem.emp.upd gp (.cells (SV.dens [] [.i pt.1, .i pt.2.1, .i pt.2.2, .i s, .p (some ⟨bl, 0, none⟩), .p (some ⟨be, 0, none⟩)] [.int .i64 (.var 0), .int .i64 (.var 1), .int .i64 (.var 2)]).toArray 83 (0, 0))) 83 1 (some ⟨gp, 0, none⟩) 3 3 (intsL (l3 (mixX pt s 0))) :=
    ⟨rfl, .inr ⟨gp, _, rfl, Mem.upd_same _ _ _, Nat.le_refl _, by simp [maxLen], rfl, rfl⟩⟩
  revert hR0
  generalize Mem.upd Mem.emp gp _ = m0
  intro hR0
  refine .alloc fun b0 => .alloc fun b1 => .loadS [slv p n cp] 0 p n cp rfl rfl (fun g => hc.1.mono g.R) (.env (by (try simp only [liE, letsOf, letU, snd, List.append_nil]); rfl) (.chk (by ((try simp only [evE, liE, letsOf, letU, snd]); (try simp only [cmE])); omega) (.callE (c_repI (some ⟨b1, 0, none⟩) 1 n (-1) (by simp) hn0 (by omega)) (fun g => g.cells (j := 1) rfl rfl rfl) ?_)))
  rintro v mq m1 hle1 hqe1 ⟨q, rfl, hr⟩
  have hC0 : Row m1 3 1 q n n (intsL (colK n pt s 0)) := by
    rw [colK_zero]
    have := hr.row (by simp; omega)
    rw [List.length_replicate] at this
    exact Row.le this hqe1
  replace hR0 := Row.le hR0 hle1
  refine ⟨[.p q, .i n, .i n], uOk_of rfl, (slv_fresh _ _ _ _ _).symm, .env (by (try simp only [liE, letsOf, letU, snd, List.append_nil]); rfl) ?_⟩
  refine .loop (fun z us m => ∃ k : Nat, k ≤ 3 ∧ us = [.p none, .i 0, .i 0, .b false, .i k, .i 0, .i 0, .i 0] ∧ z = 3 - k ∧ (∀ x, x < k → bX s x = true → at3 pt x ≠ at3 e x) ∧ Row m 83 1 (some ⟨gp, 0, none⟩) 3 3 (intsL (l3 (mixX pt s k))) ∧ Row m 3 1 q n n (intsL (colK n pt s k))) 3
    ⟨0, by omega, by (simp only [evE, liE, letsOf, letU, snd, Sh.uss, Sh.us, atAddr, map_add0, List.append_nil]); rfl, rfl, fun x h => by omega, hR0, hC0⟩ ?_
  clear hR0 hC0
  rintro z _ m _ ⟨k, hk, rfl, rfl, hok, hR, hC⟩
  refine .env (by (try simp only [liE, letsOf, letU, snd, List.append_nil]); rfl) (.ite (fun h1 => ?_) (fun h1 => ?_)) <;> ((try simp only [evE, liE, letsOf, letU, snd] at h1); (try simp only [cmE] at h1))
  · have hk3 : k < 3 := by omega
    refine .join (fun us m => us = [.p none, .i 0, .i 0, .b false, .i 0, .i 0, .i 0] ∧ (bX s k = true → at3 pt k ≠ at3 e k) ∧ Row m 83 1 (some ⟨gp, 0, none⟩) 3 3 (intsL (l3 (mixX pt s (k + 1)))) ∧ Row m 3 1 q n n (intsL (colK n pt s (k + 1)))) (.chk (by ((try simp only [evE, liE, letsOf, letU, snd]); (try simp only [cmE])); rw [subI (by omega) (by omega)]; omega) (.ite (fun h2 => .again rfl ⟨by (simp only [evE, liE, letsOf, letU, snd, Sh.uss, Sh.us, atAddr, map_add0, List.append_nil]), ?_⟩) (fun h2 => ?_))) ?_
    · have hb : bX s k = false := by
        have : cm .eql (ar .and .i64 (ar .shr .i64 (s : Int) (ar .sub .i64 2 (k : Int))) 1) 0 = true := h2
        rw [bit_three s h7 k (by omega)] at this
        simpa using this
      rw [mixX_no hk3 hb, colK_no hb]
      exact ⟨(fun h => by rw [hb] at h; cases h), hR, hC⟩
    · have hb : bX s k = true := by
        have : cm .eql (ar .and .i64 (ar .shr .i64 (s : Int) (ar .sub .i64 2 (k : Int))) 1) 0 = false := h2
        rw [bit_three s h7 k (by omega)] at this
        simpa using this
      have hla : (intsL (l3 (mixX pt s k)))[k]? = some (.int .i64 (at3 pt k : Int)) := by
        rw [intsL_at _ _ (show k < (l3 (mixX pt s k)).length from hk3), l3_at _ hk3, mixX_at _ _ hk3]
      have hle : (intsL (l3 e))[k]? = some (.int .i64 (at3 e k : Int)) := by
        rw [intsL_at _ _ (show k < (l3 e).length from hk3), l3_at _ hk3]
      have hpk := leX_at.1 hp k hk3
      have hek := he6 k hk3
      refine .elem1 (.int .i64 (at3 pt k : Int)) (intsL (l3 (mixX pt s k))) k 3 rfl rfl hk3 (fun g => hR.reads g) hla (.env (by (try simp only [liE, letsOf, letU, snd, List.append_nil]); rfl) (.elem1 (.int .i64 (at3 e k : Int)) (intsL (l3 e)) k 3 rfl rfl hk3 (fun g => hc.2.mono g.R) hle (.env (by (try simp only [liE, letsOf, letU, snd, List.append_nil]); rfl) (.ite (fun h3 => ?_) (fun h3 => ?_))))) <;> ((try simp only [evE, liE, letsOf, letU, snd] at h3); (try simp only [cmE] at h3))
      · refine .load3 (mixX pt s k) (fun g => hR.reads g) (.env (by (try simp only [liE, letsOf, letU, snd, List.append_nil]); rfl) (.ret rfl (.inr ⟨?_, mixX pt s k, rfl⟩)))
        rw [Bool.eq_false_iff]
        exact fun h => okX_at.1 h k hk3 hb (by omega)
      · have hkn : k < n := by
          rcases Nat.lt_or_ge k n with h | h
          · exact h
          · have := he k h hk3; omega
        refine .elem1 (.int .i64 (at3 pt k : Int)) (intsL (l3 (mixX pt s k))) k 3 rfl rfl hk3 (fun g => hR.reads g) hla (.env (by (try simp only [liE, letsOf, letU, snd, List.append_nil]); rfl) (.storeR k hkn hC rfl rfl rfl fun m2 g2 hg2 hC2 hs2 => ?_))
        replace hC2 : Row m2 3 1 q n n ((intsL (colK n pt s k)).set k (.int .i64 (at3 pt k : Int))) := hC2
        rw [intsL_set, colK_yes hkn hb] at hC2
        have hR2 : Row m2 83 1 (some ⟨gp, 0, none⟩) 3 3 (intsL (l3 (mixX pt s k))) := hR.keep fun b hb' _ => hs2 b fun e' => Row.apart hR hC (by decide) b hb' (by rw [hg2, e'])
        refine .elem1 (.int .i64 (at3 pt k : Int)) (intsL (l3 (mixX pt s k))) k 3 rfl rfl hk3 (fun g => hR2.reads g) hla (.env (by (try simp only [liE, letsOf, letU, snd, List.append_nil]); rfl) (.storeR k hk3 hR2 rfl rfl rfl fun m3 g3 hg3 hR3 hs3 => .again rfl ⟨by (simp only [evE, liE, letsOf, letU, snd, Sh.uss, Sh.us, atAddr, map_add0, List.append_nil]), fun _ => by omega, ?_, ?_⟩))
        · replace hR3 : Row m3 83 1 (some ⟨gp, 0, none⟩) 3 3 ((intsL (l3 (mixX pt s k))).set k (.int .i64 (ar .add .i64 (at3 pt k : Int) 1))) := hR3
          rw [addI (by omega) (by omega), intsL_set, mixX_yes hk3 hb] at hR3
          exact hR3
        · exact hC2.keep fun b hb' _ => hs3 b fun e' => Row.apart hC2 hR2 (by decide) b hb' (by rw [hg3, e'])
    · rintro _ m2 _ ⟨rfl, hnew, hR2, hC2⟩
      refine .env (by (try simp only [liE, letsOf, letU, snd, List.append_nil]); rfl) (.again rfl ⟨3 - (k + 1), by omega, k + 1, by omega, ?_, rfl, fun x hx hb => ?_, hR2, hC2⟩)
      · (simp only [evE, liE, letsOf, letU, snd, Sh.uss, Sh.us, atAddr, map_add0, List.append_nil]); rw [add_i64 k (by omega)]
      · rcases Nat.lt_or_ge x k with h | h
        · exact hok x h hb
        · obtain rfl : x = k := by omega
          exact hnew hb
  · obtain rfl : k = 3 := by omega
    rw [mixX_three] at hR
    rw [colK_all _ _ hn3] at hC
    refine .load3 (nxtX pt s) (fun g => hR.reads g) (.env (by (try simp only [liE, letsOf, letU, snd, List.append_nil]); rfl) (.ret rfl (.inl ⟨okX_at.2 hok, q, n, rfl, hC⟩)))
end Go.Proofs.YtialbhieaipcgaaDoor
/- Chapter 18: Exact's choice. -/
namespace Go.Sy
open Go Go.RowKit
/-- A load of a value. -/
theorem DenM.loadVal {P : Program} {c : Cx} {L : List Nat} {ρ : Env} {blks : List Blk} {m : Mem} {R : Value → HW → Prop} {Dn : Nat → List U → HW → Prop} {A : List (List U → HW → Prop)} {i : Nat} {off : IT} {k : Tree} (v : Value) (hv1 : v.oneCell' = true) (p : Option Addr) (xs : List Value) (j : Nat) (hp : ρ.ptr i = p) (ho : off.eval ρ = j) (hc : Good c L m → Cells (vw c L ρ blks m) p xs) (hx : xs[j]? = some v)
    (hk : DenM P R Dn k L (ρ ++ [.v v]) c m A) : DenM P R Dn (.load i off [.val] blks k) L ρ c m A :=
  .loadC [.v v] p xs j hp ho (by simp [Sh.eats, Sh.eat, eatV, hv1]) hc (List.getElem?_eq_some_iff.1 hx).1 (fun q w hw => by
    simp only [Sh.freshs, Sh.fresh, SV.dens, SV.den, val_at] at hw
    match q, hw with
    | 0, hw => simp at hw; rw [← hw]; exact hx
    | q + 1, hw => simp at hw) hk
end Go.Sy
namespace Go.Proofs.YtialbhieaipcgaaDoor
open Go Go.Sy Go.RowKit
/-- What Exact's second function answers. -/
def ChoQ (n : Nat) (pt : P3) (s : Nat) (x : Int) (v : Value) (mq : Mem) : Prop := ∃ q cq, v = .tuple #[slv q n cq, v3 (nxtX pt s), .int .i64 x] ∧ Row mq 3 1 q cq n (intsL (colX n pt s))
theorem cho_fresh (ρ : Env) (L : List Nat) (q : Option Addr) (n cap : Nat) (a b d x : Int) : ((Sh.tup [.sl, .agg [.int .i64, .int .i64, .int .i64], .int .i64]).fresh ρ.length).1.den L (ρ ++ [.p q, .i n, .i cap, .i a, .i b, .i d, .i x]) = .tuple #[slv q n cap, .agg #[.int .i64 a, .int .i64 b, .int .i64 d], .int .i64 x] := by
  have e1 := sl_at ρ L q n cap [.i a, .i b, .i d, .i x]
  have e3 := getElem_env ρ [.p q, .i n, .i cap, .i a, .i b, .i d, .i x] 3
  have e4 := getElem_env ρ [.p q, .i n, .i cap, .i a, .i b, .i d, .i x] 4
  have e5 := getElem_env ρ [.p q, .i n, .i cap, .i a, .i b, .i d, .i x] 5
  have e6 := getElem_env ρ [.p q, .i n, .i cap, .i a, .i b, .i d, .i x] 6
  simp only [Sh.fresh, Sh.freshs, SV.den, SV.dens, BT.eval, IT.eval, Env.bool, Env.int, Nat.add_assoc] at e1 e3 e4 e5 e6 ⊢
  rw [e1, e3, e4, e5, e6]
  rfl
theorem c_choose (W : List (List Snd)) (n : Nat) (hn : W.length = n) (hn0 : 0 < n) (hn3 : n ≤ 3) (pt : P3) (ws : List Int) (gap : Int) (hc : checkC ws gap = 0) (hp : leX pt (endX W)) (hpe : pt ≠ endX W) (he6 : ∀ k, k < 3 → at3 (endX W) k ≤ 6) (b1 b2 b3 : Nat) (fb fp : Value) (hfb : fb.oneCell' = true) (KB KP : Mv → Prop) (hKB : ∀ {R S : Mv}, KB R → R.le S → KB S)
    (hB : ∀ s : Nat, 0 < s → s ≤ 7 → FnV Tryd.prog fb [v3 pt, .int .i64 (s : Int)] KB fun v mq _ => BehQ n (endX W) pt s v mq) (hP : PrV fp KP (fun col => col.length ≤ n ∧ EntOk W col) (columnE ws gap W)) (f : P3 → Int) (hf : ∀ s : Nat, 0 < s → s ≤ 7 → okX (endX W) pt s = true → f (nxtX pt s) = EX (cX ws gap W) (endX W) (nxtX pt s)) :
    FnM Tryd.prog n_multi_Exact_4 [v3 pt, .pointer (some ⟨b1, 0, none⟩), .pointer (some ⟨b2, 0, none⟩), .pointer (some ⟨b3, 0, none⟩)] (fun R => Cells R (some ⟨b1, 0, none⟩) [fb] ∧ Cells R (some ⟨b2, 0, none⟩) [fp] ∧ Cells R (some ⟨b3, 0, none⟩) (gridL f) ∧ KB R ∧ KP R)
      fun v mq _ => ChoQ n pt (setX (cX ws gap W) (endX W) pt) (EX (cX ws gap W) (endX W) pt) v mq := by
  have hnn : ∀ p s, 0 ≤ cX ws gap W p s := cX_nonneg hc (by omega)
  have hle : ∀ p s, cX ws gap W p s ≤ 2199023255552 := cX_le hc (by omega)
  have hEX : ∀ s, okX (endX W) pt s = true → 0 ≤ EX (cX ws gap W) (endX W) (nxtX pt s) ∧ EX (cX ws gap W) (endX W) (nxtX pt s) ≤ 18 * 2199023255552 := fun s ho => by
    have h1 := nxt_le hp ho
    refine ⟨EX_nonneg hnn h1, ?_⟩
    have h2 := EX_le hnn (fun p s _ _ => hle p s) _ _ h1 rfl
    have h3 : remX (endX W) (nxtX pt s) ≤ 18 := by
      have e0 : (endX W).1 ≤ 6 := he6 0 (by decide)
      have e1 : (endX W).2.1 ≤ 6 := he6 1 (by decide)
      have e2 : (endX W).2.2 ≤ 6 := he6 2 (by decide)
      unfold remX
      omega
    omega
  refine FnM.of S_multi_Exact_4 mx [.i pt.1, .i pt.2.1, .i pt.2.2, .p (some ⟨b1, 0, none⟩), .p (some ⟨b2, 0, none⟩), .p (some ⟨b3, 0, none⟩)] rfl rfl fun c hR => .alloc fun l0 => .alloc fun l1 => ?_
  obtain ⟨k1, k2, k3, kB, kP⟩ := hR
  have hbest := pick_best hnn hp hpe
  have hEXe := EX_eq (c := cX ws gap W) hp hpe
  generalize hcf : candX (cX ws gap W) (endX W) (EX (cX ws gap W) (endX W)) pt = cf at hbest hEXe
  have hset : setX (cX ws gap W) (endX W) pt = (pickF cf 7).2 := by unfold setX; rw [hcf]
  rw [hset, hEXe]
  refine .loop (fun z us m => ∃ (k : Nat) (q : Option Addr) (ln cq : Nat) (x : P3), k ≤ 7 ∧ us = [.p q, .i ln, .i cq, .i (pickF cf k).1, .i (7 - k : Nat), .i x.1, .i x.2.1, .i x.2.2] ∧ z = 7 - k ∧ ((pickF cf k).1 < 0 ∨ (x = nxtX pt (pickF cf k).2 ∧ ln = n ∧ Row m 3 1 q cq n (intsL (colX n pt (pickF cf k).2)))) ∧ (pickF cf k).1 ≤ 20 * 2199023255552) 7
    ⟨0, none, 0, 0, p0, by omega, by (simp only [evE, liE, letsOf, letU, snd, Sh.uss, Sh.us, atAddr, map_add0, List.append_nil]); rfl, rfl, .inl (show (-1 : Int) < 0 by decide), show (-1 : Int) ≤ _ by decide⟩ ?_
  rintro z _ m _ ⟨k, q, ln, cq, x, hk, rfl, rfl, hor, hbd⟩
  refine .env (by (try simp only [liE, letsOf, letU, snd, List.append_nil]); rfl) (.ite (fun h1 => ?_) (fun h1 => .ret rfl ?_)) <;> ((try simp only [evE, liE, letsOf, letU, snd] at h1); (try simp only [cmE] at h1))
  · have h0 : 0 < 7 - k := by omega
    have estep : pickF cf (k + 1) = stepP (pickF cf k) (7 - k) (cf (7 - k)) := rfl
    refine .join (fun us m => ∃ (q : Option Addr) (ln cq : Nat) (x : P3), us = [.p q, .i ln, .i cq, .i (pickF cf (k + 1)).1, .i x.1, .i x.2.1, .i x.2.2] ∧ ((pickF cf (k + 1)).1 < 0 ∨ (x = nxtX pt (pickF cf (k + 1)).2 ∧ ln = n ∧ Row m 3 1 q cq n (intsL (colX n pt (pickF cf (k + 1)).2)))) ∧ (pickF cf (k + 1)).1 ≤ 20 * 2199023255552)
      (.loadVal fb hfb _ _ 0 rfl rfl (fun g => k1.mono g.R) rfl ?_) ?_
    · refine .env (by (try simp only [liE, letsOf, letU, snd, List.append_nil]); rfl) (.callvM (hB (7 - k) h0 (by omega)) rfl rfl rfl (fun g => hKB kB g.R) ?_)
      rintro v mq hfr (⟨hok, q1, c1, rfl, hR1⟩ | ⟨hno, y, rfl⟩)
      · have hR1' : Row (m.join mq) 3 1 q1 c1 n (intsL (colX n pt (7 - k))) := hR1.joinR fun b hb => (hfr b hb).1
        have hmle : m.le (m.join mq) := fun b o hb => by rw [join_old (by rw [hb]; simp), hb]
        generalize m.join mq = m1 at hR1' hmle
        have hnl := nxt_le hp hok
        obtain ⟨l0, l1, l2⟩ := hnl
        have e0 : (endX W).1 ≤ 6 := he6 0 (by decide)
        have e1 : (endX W).2.1 ≤ 6 := he6 1 (by decide)
        have e2 : (endX W).2.2 ≤ 6 := he6 2 (by decide)
        have hg := gridL_at f (a := (nxtX pt (7 - k)).1) (b := (nxtX pt (7 - k)).2.1) (d := (nxtX pt (7 - k)).2.2) (by omega) (by omega) (by omega)
        have hfe : f ((nxtX pt (7 - k)).1, (nxtX pt (7 - k)).2.1, (nxtX pt (7 - k)).2.2) = EX (cX ws gap W) (endX W) (nxtX pt (7 - k)) := hf (7 - k) h0 (by omega) hok
        rw [hfe] at hg
        have hb := hEX (7 - k) hok
        have hc0 := hnn pt (7 - k)
        have hc1 := hle pt (7 - k)
        have hcf' : cf (7 - k) = some (cX ws gap W pt (7 - k) + EX (cX ws gap W) (endX W) (nxtX pt (7 - k))) := by rw [← hcf]; exact if_pos hok
        refine ⟨[.p q1, .i n, .i c1, .i (nxtX pt (7 - k)).1, .i (nxtX pt (7 - k)).2.1, .i (nxtX pt (7 - k)).2.2, .b true], uOk_of rfl, (beh_fresh _ _ _ _ _ _ _ _ _).symm, .env (by (try simp only [liE, letsOf, letU, snd, List.append_nil]); rfl) (.alloc fun l2 => .no rfl (.loadVal fp hP.one _ _ 0 rfl rfl (fun g => k2.mono g.R) rfl ?_))⟩
        refine .env (by (try simp only [liE, letsOf, letU, snd, List.append_nil]); rfl) (.chk (by ((try simp only [evE, liE, letsOf, letU, snd]); (try simp only [cmE])); simp; omega) (.chk (by ((try simp only [evE, liE, letsOf, letU, snd]); (try simp only [cmE])); simp; omega) (.chk (by ((try simp only [evE, liE, letsOf, letU, snd]); (try simp only [cmE])); simp; omega) (.load1 (.int .i64 (EX (cX ws gap W) (endX W) (nxtX pt (7 - k)))) (some ⟨b3, 0, none⟩) (gridL f) ((nxtX pt (7 - k)).1 * 49 + (nxtX pt (7 - k)).2.1 * 7 + (nxtX pt (7 - k)).2.2) rfl ?_ (fun g => k3.mono g.R) hg ?_ rfl ?_))))
        · show ((0 : Int) + ((nxtX pt (7 - k)).1 : Int) * ((49 : Nat) : Int)) + ((nxtX pt (7 - k)).2.1 : Int) * ((7 : Nat) : Int) + ((nxtX pt (7 - k)).2.2 : Int) * ((1 : Nat) : Int) = _
          omega
        · refine .env (by (try simp only [liE, letsOf, letU, snd, List.append_nil]); rfl) (.callvR (hP.run ⟨q1, c1, colX n pt (7 - k)⟩ ⟨by rw [colX_len]; exact Nat.le_refl _, by rw [← hn]; exact colX_ent (by omega) hp hok⟩ (by show (colX n pt (7 - k)).length ≤ c1; rw [colX_len]; exact hR1'.cap_le)) (fun g => ⟨hP.mono kP g.R, hR1'.reads g⟩) (fun m2 hk2 => ?_) rfl (by show [slv q1 n c1] = [slv q1 (colX n pt (7 - k)).length c1]; rw [colX_len]))
          have hcol : columnE ws gap W (colX n pt (7 - k)) = cX ws gap W pt (7 - k) := by unfold cX; rw [hn]
          have hsum : ar .add .i64 (columnE ws gap W (colX n pt (7 - k))) (EX (cX ws gap W) (endX W) (nxtX pt (7 - k))) = cX ws gap W pt (7 - k) + EX (cX ws gap W) (endX W) (nxtX pt (7 - k)) := by rw [hcol, addI (by omega) (by omega)]
          have hR2 : Row m2 3 1 q1 c1 n (intsL (colX n pt (7 - k))) := hR1'.keep fun b _ hb => hk2 b hb
          have hor2 : (pickF cf k).1 < 0 ∨ (x = nxtX pt (pickF cf k).2 ∧ ln = n ∧ Row m2 3 1 q cq n (intsL (colX n pt (pickF cf k).2))) := hor.imp id fun ⟨a, b, d⟩ => ⟨a, b, (Row.le d hmle).keep fun b _ hb => hk2 b hb⟩
          refine .env (by (try simp only [liE, letsOf, letU, snd, List.append_nil]); rfl) (.join (fun us m => ∃ (q : Option Addr) (ln cq : Nat) (x : P3), us = [.p q, .i ln, .i cq, .i (pickF cf (k + 1)).1, .i x.1, .i x.2.1, .i x.2.2] ∧ ((pickF cf (k + 1)).1 < 0 ∨ (x = nxtX pt (pickF cf (k + 1)).2 ∧ ln = n ∧ Row m 3 1 q cq n (intsL (colX n pt (pickF cf (k + 1)).2)))) ∧ (pickF cf (k + 1)).1 ≤ 20 * 2199023255552) (.ite (fun h2 => ?_) (fun h2 => ?_)) ?_)
          · ((try simp only [evE, liE, letsOf, letU, snd] at h2); (try simp only [cmE] at h2))
            rw [hsum] at h2
            have e : pickF cf (k + 1) = (cX ws gap W pt (7 - k) + EX (cX ws gap W) (endX W) (nxtX pt (7 - k)), 7 - k) := by rw [estep, hcf']; exact if_pos h2
            rw [e]
            refine .again rfl ⟨q1, n, c1, nxtX pt (7 - k), ?_, .inr ⟨rfl, rfl, hR2⟩, by dsimp only; omega⟩
            (simp only [evE, liE, letsOf, letU, snd, Sh.uss, Sh.us, atAddr, map_add0, List.append_nil]); rw [hsum]
          · ((try simp only [evE, liE, letsOf, letU, snd] at h2); (try simp only [cmE] at h2))
            rw [hsum] at h2
            have e : pickF cf (k + 1) = pickF cf k := by rw [estep, hcf']; exact if_neg (by omega)
            rw [e]
            exact .again rfl ⟨q, ln, cq, x, by (simp only [evE, liE, letsOf, letU, snd, Sh.uss, Sh.us, atAddr, map_add0, List.append_nil]), hor2, hbd⟩
          · rintro _ m3 _ ⟨q, ln, cq, x, rfl, h5, h6⟩
            exact .env (by (try simp only [liE, letsOf, letU, snd, List.append_nil]); rfl) (.again rfl ⟨q, ln, cq, x, by (simp only [evE, liE, letsOf, letU, snd, Sh.uss, Sh.us, atAddr, map_add0, List.append_nil]), h5, h6⟩)
        · simp only [Sh.freshs, Sh.fresh, SV.dens, SV.den, IT.eval, letU, int_at]
      · have e : pickF cf (k + 1) = pickF cf k := by
          rw [estep, ← hcf]
          show stepP _ _ (if okX (endX W) pt (7 - k) = true then _ else none) = _
          rw [if_neg (by simp [hno])]; rfl
        refine ⟨[.p none, .i (0 : Nat), .i (0 : Nat), .i y.1, .i y.2.1, .i y.2.2, .b false], uOk_of rfl, (beh_fresh _ _ _ _ _ _ _ _ _).symm, .env (by (try simp only [liE, letsOf, letU, snd, List.append_nil]); rfl) (.alloc fun l2 => .yes rfl (.again rfl ⟨q, ln, cq, x, by rw [e]; (simp only [evE, liE, letsOf, letU, snd, Sh.uss, Sh.us, atAddr, map_add0, List.append_nil]), ?_, by rw [e]; exact hbd⟩))⟩
        rw [e]
        exact hor.imp id fun ⟨a, b, d⟩ => ⟨a, b, d.joinL⟩
    · rintro _ m3 _ ⟨q, ln, cq, x, rfl, h5, h6⟩
      refine .env (by (try simp only [liE, letsOf, letU, snd, List.append_nil]); rfl) (.again rfl ⟨7 - (k + 1), by omega, k + 1, q, ln, cq, x, by omega, ?_, rfl, h5, h6⟩)
      (simp only [evE, liE, letsOf, letU, snd, Sh.uss, Sh.us, atAddr, map_add0, List.append_nil]); rw [show ((7 - k : Nat) : Int) = ((7 - (k + 1) : Nat) : Int) + 1 by omega, subI (by omega) (by omega), Int.add_sub_cancel]
  · obtain rfl : k = 7 := by omega
    rcases hor with h | ⟨rfl, rfl, hR⟩
    · have := hbest.pos; omega
    · exact ⟨q, cq, rfl, hR⟩
end Go.Proofs.YtialbhieaipcgaaDoor
/- Chapter 18: Exact. -/
namespace Go.Sy
open Go Go.RowKit
/-- A store into a block that is known whole. -/
theorem DenM.storeX {P : Program} {c : Cx} {L : List Nat} {ρ : Env} {blks : List Blk} {m : Mem} {R : Value → HW → Prop} {Dn : Nat → List U → HW → Prop} {A : List (List U → HW → Prop)} {i : Nat} {off : IT} {cells : List SV} {k : Tree} {e : TypeId} {q : Option Addr} {n : Nat} {xs : List Value} (j : Nat) (hR : Row m e 1 q n n xs) (hn : 0 < n) (hp : ρ.ptr i = q) (ho : off.eval ρ = (j : Int)) (hj : j + cells.length ≤ n)
    (hk : ∀ m' g, q = some ⟨g, 0, none⟩ → Row m' e 1 q n n (putAt xs j (SV.dens L ρ cells)) → (∀ b, b ≠ g → m' b = m b) → DenM P R Dn k L ρ c m' A) : DenM P R Dn (.store false i off cells blks k) L ρ c m A := by
  rcases hR.2 with ⟨_, h, _⟩ | ⟨g, cur, hq, hg, h1, h2, h3, h4⟩
  · omega
  · subst hq
    rw [Nat.mul_one] at h3 h4
    have hcur : cur.toList = xs := by rw [← h4, List.take_of_length_le (by simp [h3])]
    have hdl : (SV.dens L ρ cells).length = cells.length := by
      clear hk hj
      induction cells with
      | nil => rfl
      | cons a l ih => simp only [SV.dens, List.length_cons, ih]
    have hxl : xs.length = n := by rw [hR.1, Nat.mul_one]
    have hpl : (putAt xs j (SV.dens L ρ cells)).length = n := by
      unfold putAt
      simp only [List.length_append, List.length_take, List.length_drop, hdl, hxl]; omega
    refine .store g j cur e rfl ?_ hg (by rw [h3]; exact hj) (hk _ g rfl ⟨by rw [hpl, Nat.mul_one], .inr ⟨g, _, rfl, Mem.upd_same _ _ _, Nat.le_refl _, h2, ?_, ?_⟩⟩ fun b hb => Mem.upd_other _ _ hb)
    · simp only [atAddr, hp, ho, Option.map_some, addr_add]; simp
    · rw [hcur, List.size_toArray, hpl, Nat.mul_one]
    · rw [hcur, Nat.mul_one]
      show List.take n (putAt xs j (SV.dens L ρ cells)) = _
      rw [List.take_of_length_le (by omega)]
def endK (W : List (List Snd)) (k : Nat) : P3 := (if 0 < k then (W.getD 0 []).length else 0, if 1 < k then (W.getD 1 []).length else 0, if 2 < k then (W.getD 2 []).length else 0)
theorem endK_next (W : List (List Snd)) {k : Nat} (hk : k < 3) : (l3 (endK W k)).set k ((W.getD k []).length : Int) = l3 (endK W (k + 1)) := by
  match k, hk with
  | 0, _ => rfl
  | 1, _ => rfl
  | 2, _ => rfl
theorem endK_all (W : List (List Snd)) (h : W.length ≤ 3) : endK W W.length = endX W := by
  match W, h with
  | [], _ => rfl
  | [_], _ => rfl
  | [_, _], _ => rfl
  | [_, _, _], _ => rfl
  | _ :: _ :: _ :: _ :: _, h => simp at h
theorem any_long {W : List (List Snd)} {k : Nat} (hk : k < W.length) (h : 6 < W[k].length) : W.any (fun w => decide (6 < w.length)) = true := List.any_eq_true.2 ⟨W[k], List.getElem_mem hk, by simpa using h⟩
theorem none_long {W : List (List Snd)} (h : ∀ k (hk : k < W.length), W[k].length ≤ 6) : W.any (fun w => decide (6 < w.length)) = false := by
  rw [Bool.eq_false_iff]
  intro ha
  obtain ⟨w, hw, h6⟩ := List.any_eq_true.1 ha
  obtain ⟨k, hk, rfl⟩ := List.mem_iff_getElem.1 hw
  have := h k hk
  simp at h6; omega
theorem end_six {W : List (List Snd)} (h : ∀ k (hk : k < W.length), W[k].length ≤ 6) : ∀ k, k < 3 → at3 (endX W) k ≤ 6 := fun k hk => by
  rw [endX_at W hk]
  rcases Nat.lt_or_ge k W.length with h1 | h1
  · rw [getD_at _ _ _ h1]; exact h k h1
  · rw [List.getD_eq_getElem?_getD, List.getElem?_eq_none h1]; exact Nat.zero_le _
theorem end_zero {W : List (List Snd)} : ∀ k, W.length ≤ k → k < 3 → at3 (endX W) k = 0 := fun k h1 hk => by
  rw [endX_at W hk, List.getD_eq_getElem?_getD, List.getElem?_eq_none h1]; rfl
theorem words_pos {W : List (List Snd)} {p : P3} (hp : leX p (endX W)) (hpe : p ≠ endX W) : 0 < W.length := by
  rcases Nat.eq_zero_or_pos W.length with h | h
  · rw [List.length_eq_zero_iff] at h
    subst h
    obtain ⟨h1, h2, h3⟩ := hp
    exact absurd (Prod.ext (Nat.le_zero.1 h1) (Prod.ext (Nat.le_zero.1 h2) (Nat.le_zero.1 h3))) hpe
  · exact h
theorem nxt_after {p : P3} {s : Nat} (h0 : 0 < s) (h7 : s ≤ 7) : p.1 < (nxtX p s).1 ∨ (nxtX p s).1 = p.1 ∧ (p.2.1 < (nxtX p s).2.1 ∨ (nxtX p s).2.1 = p.2.1 ∧ p.2.2 < (nxtX p s).2.2) := by
  have hb := bX_some s h7 h0
  unfold nxtX
  revert hb
  cases bX s 0 <;> cases bX s 1 <;> cases bX s 2 <;> simp
theorem gridL_zero : gridL (fun _ => 0) = List.replicate 343 (.int .i64 0) := by
  refine List.ext_getElem? fun i => ?_
  unfold gridL
  rw [List.getElem?_map, List.getElem?_replicate]
  by_cases h : i < 343
  · rw [List.getElem?_range h, if_pos h]; rfl
  · rw [List.getElem?_eq_none (by rw [List.length_range]; omega), if_neg h]; rfl
end Go.Sy
namespace Go.Proofs.YtialbhieaipcgaaDoor
open Go Go.Sy Go.RowKit
theorem c_exact1 (b2 : Nat) (pc : Option Addr) (cc : Nat) (ws : List Int) (gap : Int) : FnM Tryd.prog n_multi_Exact_1 [.pointer (some ⟨b2, 0, none⟩)] (fun R => Cells R (some ⟨b2, 0, none⟩) [slv pc ws.length cc, .int .i64 gap] ∧ CostsAt R pc ws) fun v _ _ => v = .int .i64 (checkC ws gap) :=
  FnM.of S_multi_Exact_1 mx [.p (some ⟨b2, 0, none⟩)] rfl rfl fun c hp => .loadCost [slv pc ws.length cc, .int .i64 gap] 0 pc ws.length cc gap rfl rfl rfl (fun g => hp.1.mono g.R) (.env (by (try simp only [liE, letsOf, letU, snd, List.append_nil]); rfl) (.callV (c_checkCosts pc cc ws gap) (fun g => hp.2.mono g.R) (.ret rfl rfl)))
theorem c_exact2 (b0 : Nat) (p : Option Addr) (cp : Nat) (l : List WD) (hl : l.length < 2 ^ 62) (hok : ∀ x ∈ l, Wok x.w) : FnM Tryd.prog n_multi_Exact_2 [.pointer (some ⟨b0, 0, none⟩)] (fun R => Cells R (some ⟨b0, 0, none⟩) [slv p l.length cp] ∧ WordsAt R p l) fun v _ _ => v = .int .i64 (wordsE 3 (l.map (·.w))) :=
  FnM.of S_multi_Exact_2 mx [.p (some ⟨b0, 0, none⟩)] rfl rfl fun c hp => .loadS [slv p l.length cp] 0 p l.length cp rfl rfl (fun g => hp.1.mono g.R) (.env (by (try simp only [liE, letsOf, letU, snd, List.append_nil]); rfl) (.callV (c_words p cp l 3 (by omega) hok) (fun g => hp.2.mono g.R) (.ret rfl rfl)))
theorem Cells.keepB {m m' : Mem} {d : Nat} {xs : List Value} (h : Cells m.mv (some ⟨d, 0, none⟩) xs) (hk : m' d = m d) : Cells m'.mv (some ⟨d, 0, none⟩) xs := fun j v hj => by
  obtain ⟨b, o, hp, hv⟩ := h j v hj
  refine ⟨b, o, hp, ?_⟩
  cases hp
  unfold Mem.mv at hv ⊢
  rw [Mv.on_c] at hv ⊢
  rw [hk]; exact hv
theorem Cells.some' {m : Mem} {d : Nat} {x : Value} {xs : List Value} (h : Cells m.mv (some ⟨d, 0, none⟩) (x :: xs)) : m d ≠ none := fun hn => by
  obtain ⟨b, o, hp, hv⟩ := h 0 x rfl
  cases hp
  unfold Mem.mv at hv
  rw [Mv.on_c, hn] at hv
  cases hv
theorem Row.some' {m : Mem} {e : TypeId} {s g cap n : Nat} {xs : List Value} (h : Row m e s (some ⟨g, 0, none⟩) cap n xs) : m g ≠ none := by
  rcases h.2 with ⟨h1, _⟩ | ⟨g', cur, h1, h2, _⟩
  · cases h1
  · cases h1; rw [h2]; simp
theorem TabR.keepP {m m' : Mem} {e : TypeId} {q : Option Addr} {cq g : Nat} {rs : List IR} {xs : List Value} {n cap : Nat} (h : TabR m q cq rs) (hP : Row m e 1 (some ⟨g, 0, none⟩) cap n xs) (h1 : 49 ≠ e) (h2 : 3 ≠ e) (hs : ∀ b, b ≠ g → m' b = m b) : TabR m' q cq rs :=
  ⟨h.out.keep fun b hb _ => hs b fun e' => Row.apart h.out hP h1 b hb (by rw [e']), fun r hr => ⟨fun hl => ((h.rows r hr).row hl).keep fun b hb _ => hs b fun e' => Row.apart ((h.rows r hr).row hl) hP h2 b hb (by rw [e']), (h.rows r hr).nil, (h.rows r hr).le⟩⟩
theorem PrV.le {fv : Value} {K : Mv → Prop} {l : List WD} {W : List (List Snd)} {cost : List Int → Int} (h : PrV fv K (fun col => col.length ≤ l.length ∧ EntOk W col) cost) (_ : W.length = l.length) : PrV fv K (fun col => col.length ≤ l.length ∧ EntOk W col) cost := h
theorem big_grid : bigCells Tryd.prog 89 none = List.replicate 343 (.int .i64 0) := by kernel_rfl
theorem row_of (m : Mem) (g n : Nat) (e : TypeId) (xs : List Value) (hl : xs.length = n) (hm : n ≤ maxLen) : Row (m.upd g (.cells xs.toArray e (0, 0))) e 1 (some ⟨g, 0, none⟩) n n xs :=
  ⟨by rw [hl, Nat.mul_one], .inr ⟨g, _, rfl, Mem.upd_same _ _ _, Nat.le_refl _, hm, by rw [List.size_toArray, hl, Nat.mul_one], by show List.take (n * 1) xs = xs; rw [List.take_of_length_le (by omega)]⟩⟩
theorem grid_row (m : Mem) (gg : Nat) : Row (m.upd gg (.cells (bigCells Tryd.prog 89 none).toArray 89 (0, 0))) 89 1 (some ⟨gg, 0, none⟩) 343 343 (gridL fun _ => 0) := by
  rw [big_grid, ← gridL_zero]
  exact row_of m gg 343 _ _ (gridL_len _) (by unfold maxLen; omega)
set_option maxHeartbeats 1000000 in
theorem c_Exact (p pc : Option Addr) (cp cc : Nat) (l : List WD) (ws : List Int) (gap : Int) (hl : l.length < 2 ^ 40) (hok : ∀ x ∈ l, Wok x.w) :
    FnM Tryd.prog n_multi_Exact [slv p l.length cp, costs pc ws.length cc gap] (fun R => WordsAt R p l ∧ CostsAt R pc ws ∧ TabOk R) fun v mq _ => ∃ q cq rs', v = .tuple #[slv q rs'.length cq, .int .i64 (exactA ws gap (l.map (·.w))).2.1, .int .i64 (exactA ws gap (l.map (·.w))).2.2] ∧ rs'.map (·.l) = (exactA ws gap (l.map (·.w))).1 ∧ TabI mq q cq rs' := by
  refine FnM.of S_multi_Exact mx [.p p, .i l.length, .i cp, .p pc, .i ws.length, .i cc, .i gap] rfl rfl fun c hp => .alloc fun b0 => .alloc fun b1 => .alloc fun b2 => ?_
  have kf := c_first (fun R => Cells R (some ⟨b1, 0, none⟩) [slv pc ws.length cc, .int .i64 gap] ∧ Cells R (some ⟨b0, 0, none⟩) [slv p l.length cp] ∧ WordsAt R p l ∧ CostsAt R pc ws)
    (fun h hle => ⟨h.1.mono hle, h.2.1.mono hle, h.2.2.1.mono hle, h.2.2.2.mono hle⟩)
    [(.func (.func n_multi_Exact_1) #[] #[.pointer (some ⟨b1, 0, none⟩)], checkC ws gap), (.func (.func n_multi_Exact_2) #[] #[.pointer (some ⟨b0, 0, none⟩)], wordsE 3 (l.map (·.w)))] (some ⟨b2, 0, none⟩) 2 (show 2 < 2 ^ 62 by decide)
    (by simp [Value.oneCell'])
    (by
      intro f hf
      rcases List.mem_cons.1 hf with rfl | hf
      · exact .weak (.of (args := []) (cap := [.pointer (some ⟨b1, 0, none⟩)]) (by kernel_rfl) (c_exact1 b1 pc cc ws gap)) fun R h => ⟨h.1, h.2.2.2⟩
      · rw [List.mem_singleton] at hf
        subst hf
        exact .weak (.of (args := []) (cap := [.pointer (some ⟨b0, 0, none⟩)]) (by kernel_rfl) (c_exact2 b0 p cp l (by omega) hok)) fun R h => ⟨h.2.1, h.2.2.1⟩)
  refine .callV kf (fun g => ⟨g.cells (j := 2) rfl rfl rfl, g.cells (j := 1) rfl rfl rfl, g.cells (j := 0) rfl rfl rfl, hp.1.mono g.R, hp.2.1.mono g.R⟩) (.env (by (try simp only [liE, letsOf, letU, snd, List.append_nil]); rfl) (.ite (fun h1 => .ret rfl ?_) (fun h1 => ?_)))
  · ((try simp only [evE, liE, letsOf, letU, snd] at h1); (try simp only [cmE] at h1))
    replace h1 : (if checkC ws gap ≠ 0 then checkC ws gap else if wordsE 3 (l.map (·.w)) ≠ 0 then wordsE 3 (l.map (·.w)) else 0) ≠ 0 := h1
    have hs : exactA ws gap (l.map (·.w)) = ([], 0, if checkC ws gap ≠ 0 then checkC ws gap else if wordsE 3 (l.map (·.w)) ≠ 0 then wordsE 3 (l.map (·.w)) else 0) := by
      unfold exactA
      by_cases h2 : checkC ws gap ≠ 0
      · rw [if_pos h2, if_pos h2]
      · rw [if_neg h2, if_neg h2]
        rw [if_neg h2] at h1
        by_cases h3 : wordsE 3 (l.map (·.w)) ≠ 0
        · rw [if_pos h3, if_pos h3]
        · rw [if_neg h3] at h1; exact absurd rfl h1
    rw [hs]
    exact ⟨none, 0, [], rfl, rfl, .empty _⟩
  · ((try simp only [evE, liE, letsOf, letU, snd] at h1); (try simp only [cmE] at h1))
    replace h1 : (if checkC ws gap ≠ 0 then checkC ws gap else if wordsE 3 (l.map (·.w)) ≠ 0 then wordsE 3 (l.map (·.w)) else 0) = 0 := h1
    have h2 : checkC ws gap = 0 := by
      by_cases h2 : checkC ws gap ≠ 0
      · rw [if_pos h2] at h1; exact h1
      · simpa using h2
    have h3 : wordsE 3 (l.map (·.w)) = 0 := by
      rw [if_neg (by simp [h2])] at h1
      by_cases h3 : wordsE 3 (l.map (·.w)) ≠ 0
      · rw [if_pos h3] at h1; exact h1
      · simpa using h3
    obtain ⟨hl3, hL⟩ := wordsE_zero h3
    have hspec : exactA ws gap (l.map (·.w)) = if (l.map (·.w)).any (fun w => decide (6 < w.length)) = true then ([], 0, 11) else (outX (cX ws gap (l.map (·.w))) (endX (l.map (·.w))) (colX l.length) (remX (endX (l.map (·.w))) p0) p0, EX (cX ws gap (l.map (·.w))) (endX (l.map (·.w))) p0, 0) := by unfold exactA; rw [if_neg (by simp [h2]), if_neg (by simp [h3]), List.length_map]
    rw [hspec]
    have hWl : (l.map (·.w)).length = l.length := List.length_map _
    have hwk : ∀ k (hk : k < l.length), (l.map (·.w)).getD k [] = l[k].w := fun k hk => getD_w l k hk
    rw [hWl] at hl3
    refine .allocc fun ge hge _ _ => ?_
    have hE0 : Row (Mem.emp.upd ge (.cells (#[.int .i64 0, .int .i64 0, .int .i64 0] : Array Value) 83 (0, 0))) 83 1 (some ⟨ge, 0, none⟩) 3 3 (intsL (l3 (endK (l.map (·.w)) 0))) := ⟨rfl, .inr ⟨ge, _, rfl, Mem.upd_same _ _ _, Nat.le_refl _, by simp [maxLen], rfl, rfl⟩⟩
    refine .env (by (try simp only [liE, letsOf, letU, snd, List.append_nil]); rfl) (.chk (by ((try simp only [evE, liE, letsOf, letU, snd]); (try simp only [cmE])); omega) (.loop (fun z us m => ∃ k : Nat, k ≤ l.length ∧ us = [.p none, .i 0, .i 0, .i 0, .i 0, .i k] ∧ z = l.length - k ∧ (∀ x (hx : x < l.length), x < k → l[x].w.length ≤ 6) ∧ Row m 83 1 (some ⟨ge, 0, none⟩) 3 3 (intsL (l3 (endK (l.map (·.w)) k)))) l.length
      ⟨0, by omega, by (simp only [evE, liE, letsOf, letU, snd, Sh.uss, Sh.us, atAddr, map_add0, List.append_nil]); rfl, rfl, fun x _ h => by omega, hE0⟩ ?_))
    clear hE0
    rintro z _ m _ ⟨k, hk, rfl, rfl, hlen, hE⟩
    refine .env (by (try simp only [liE, letsOf, letU, snd, List.append_nil]); rfl) (.ite (fun h4 => ?_) (fun h4 => ?_)) <;> ((try simp only [evE, liE, letsOf, letU, snd] at h4); (try simp only [cmE] at h4))
    · have hk : k < l.length := by omega
      refine .loadWD l k hk (fun g => hp.1.1.mono g.R) (.env (by (try simp only [liE, letsOf, letU, snd, List.append_nil]); rfl) (.chk (by ((try simp only [evE, liE, letsOf, letU, snd]); (try simp only [cmE])); omega) (.ite (fun h5 => .ret rfl ?_) (fun h5 => .chk (by ((try simp only [evE, liE, letsOf, letU, snd]); (try simp only [cmE])); omega) (.storeR k (by omega) hE rfl rfl rfl fun m2 g2 hg2 hE2 hs2 => .again rfl ⟨l.length - (k + 1), by omega, k + 1, by omega, ?_, rfl, fun x hx hxk => ?_, ?_⟩))))) <;> ((try simp only [evE, liE, letsOf, letU, snd] at h5); (try simp only [cmE] at h5))
      · rw [if_pos (any_long (k := k) (by rw [hWl]; exact hk) (by rw [List.getElem_map]; omega))]
        exact ⟨none, 0, [], rfl, rfl, .empty _⟩
      · (simp only [evE, liE, letsOf, letU, snd, Sh.uss, Sh.us, atAddr, map_add0, List.append_nil]); rw [add_i64 k (by omega)]
      · rcases Nat.lt_or_ge x k with h | h
        · exact hlen x hx h
        · obtain rfl : x = k := by omega
          omega
      · replace hE2 : Row m2 83 1 (some ⟨ge, 0, none⟩) 3 3 ((intsL (l3 (endK (l.map (·.w)) k))).set k (.int .i64 (l[k].w.length : Int))) := hE2
        rw [intsL_set, ← hwk k hk, endK_next _ (by omega)] at hE2
        exact hE2
    · obtain rfl : k = l.length := by omega
      have h6 : ∀ k (hk : k < (l.map (fun x : WD => x.w)).length), ((l.map (fun x : WD => x.w))[k]'hk).length ≤ 6 := fun k hk => by rw [List.getElem_map]; exact hlen k (by rw [hWl] at hk; exact hk) (by rw [hWl] at hk; exact hk)
      rw [none_long h6, if_neg (by simp)]
      have hka := endK_all (l.map (·.w)) (by rw [hWl]; omega)
      rw [hWl] at hka
      rw [hka] at hE
      have he6 := end_six h6
      have hez := end_zero (W := l.map (·.w))
      rw [hWl] at hez
      have e0 : (endX (l.map (·.w))).1 ≤ 6 := he6 0 (by decide)
      have e1 : (endX (l.map (·.w))).2.1 ≤ 6 := he6 1 (by decide)
      have e2 : (endX (l.map (·.w))).2.2 ≤ 6 := he6 2 (by decide)
      have hnn : ∀ p s, 0 ≤ cX ws gap (l.map (·.w)) p s := cX_nonneg h2 (by omega)
      have hWpos : ∀ p, leX p (endX (l.map (·.w))) → p ≠ endX (l.map (·.w)) → 0 < l.length := fun p h1 h2 => by have := words_pos h1 h2; omega
      generalize hWW : l.map (·.w) = W at *
      generalize hEE : endX W = E at *
      generalize hCC : cX ws gap W = C at *
      refine .callE (c_pricer p pc cp cc l ws gap) (fun _ => trivial) ?_
      rintro v mq m1 hle hqe ⟨d1, d0, rfl, hc1, hc0⟩
      have hpv := PrV.of (b1 := d1) (b0 := d0) (pc := pc) (cc := cc) (ws := ws) (gap := gap) (p := p) (cp := cp) (by omega) hok h2
      rw [hWW] at hpv
      have hq1 := hc1.mono hqe.mv
      have hq0 := hc0.mono hqe.mv
      replace hE := Row.le hE hle
      refine ⟨[.v (.func (.func n_multi_pricer_1) #[] #[.pointer (some ⟨d1, 0, none⟩), .pointer (some ⟨d0, 0, none⟩)])], uOk_of rfl, rfl, .env (by (try simp only [liE, letsOf, letU, snd, List.append_nil]); rfl) (.alloc fun b3 => .alloc fun b4 => .allocb fun gg hgg _ _ => ?_)⟩
      have hG : Row (m1.upd gg (.cells (bigCells Tryd.prog 89 none).toArray 89 (0, 0))) 89 1 (some ⟨gg, 0, none⟩) 343 343 (gridL fun _ => 0) := grid_row m1 gg
      have hle1 : m1.le (m1.upd gg (.cells (bigCells Tryd.prog 89 none).toArray 89 (0, 0))) := fun b o hb => by rw [Mem.upd_other _ _ (fun e => by rw [e, hgg] at hb; cases hb)]; exact hb
      have hdg : d1 ≠ gg ∧ d0 ≠ gg := ⟨fun e => Cells.some' hq1 (by rw [e]; exact hgg), fun e => Cells.some' hq0 (by rw [e]; exact hgg)⟩
      revert hG hle1
      generalize Mem.upd m1 gg _ = m2
      intro hG hle1
      replace hE := Row.le hE hle1
      have hq1 := hq1.mono hle1.mv
      have hq0 := hq0.mono hle1.mv
      clear hle1
      have kcho : ∀ pt, leX pt E → pt ≠ E → ∀ f : P3 → Int, (∀ s : Nat, 0 < s → s ≤ 7 → okX E pt s = true → f (nxtX pt s) = EX C E (nxtX pt s)) → _ := fun pt hp1 hp2 f hf =>
        c_choose W l.length hWl (hWpos pt hp1 hp2) (by omega) pt ws gap h2 (by rw [hEE]; exact hp1) (by rw [hEE]; exact hp2) (by rw [hEE]; exact he6) b4 b3 gg (.func (.func n_multi_Exact_3) #[] #[.pointer (some ⟨b0, 0, none⟩), .pointer (some ⟨ge, 0, none⟩)]) (.func (.func n_multi_pricer_1) #[] #[.pointer (some ⟨d1, 0, none⟩), .pointer (some ⟨d0, 0, none⟩)]) rfl
          (fun R => Cells R (some ⟨b0, 0, none⟩) [slv p l.length cp] ∧ Cells R (some ⟨ge, 0, none⟩) (intsL (l3 E))) (PrK d1 d0 pc cc ws gap p cp l) (fun h hle => ⟨h.1.mono hle, h.2.mono hle⟩)
          (fun s hs0 hs7 => by
            rw [hEE]
            exact .of (args := [v3 pt, .int .i64 (s : Int)]) (cap := [.pointer (some ⟨b0, 0, none⟩), .pointer (some ⟨ge, 0, none⟩)]) (by kernel_rfl) (c_behind pt E s hs0 hs7 b0 ge p cp l.length (hWpos pt hp1 hp2) (by omega) hp1 hez he6))
          (PrV.le hpv hWl) f (by rw [hEE, hCC]; exact hf)
      rw [hEE, hCC] at kcho
      have hd1 := Cells.some' hq1
      have hd0 := Cells.some' hq0
      refine .env (by (try simp only [liE, letsOf, letU, snd, List.append_nil]); rfl) (.chk rfl (.load1 (.int .i64 (E.1 : Int)) (some ⟨ge, 0, none⟩) (intsL (l3 E)) 0 rfl rfl (fun g => hE.reads g) rfl (.env (by (try simp only [liE, letsOf, letU, snd, List.append_nil]); rfl) ?_)))
      refine .loop (fun z us m => ∃ f : P3 → Int, us = [.i ((z : Int) - 1)] ∧ z ≤ E.1 + 1 ∧ Row m 83 1 (some ⟨ge, 0, none⟩) 3 3 (intsL (l3 E)) ∧ Row m 89 1 (some ⟨gg, 0, none⟩) 343 343 (gridL f) ∧ (m d1 = m2 d1 ∧ m d0 = m2 d0) ∧ f E = 0 ∧ ∀ x, leX x E → z ≤ x.1 → f x = EX C E x) (E.1 + 1)
        ⟨fun _ => 0, by (simp only [evE, liE, letsOf, letU, snd, Sh.uss, Sh.us, atAddr, map_add0, List.append_nil]); rw [show ((E.1 + 1 : Nat) : Int) - 1 = (E.1 : Int) by omega], Nat.le_refl _, hE, hG, ⟨rfl, rfl⟩, rfl, fun x hx h => by have := hx.1; omega⟩ ?_
      clear hG hE
      rintro z _ m3 _ ⟨f, rfl, hz, hE, hG, hkd, hfE, hf⟩
      refine .ite (fun h4 => ?_) (fun h4 => ?_) <;> ((try simp only [evE, liE, letsOf, letU, snd] at h4); (try simp only [cmE] at h4))
      · obtain ⟨i, rfl⟩ : ∃ i, z = i + 1 := ⟨z - 1, by omega⟩
        refine .env (by (try simp only [liE, letsOf, letU, snd, List.append_nil]); rw [show ((i + 1 : Nat) : Int) - 1 = (i : Int) by omega]) (.chk rfl (.load1 (.int .i64 (E.2.1 : Int)) (some ⟨ge, 0, none⟩) (intsL (l3 E)) 1 rfl rfl (fun g => hE.reads g) rfl (.env (by (try simp only [liE, letsOf, letU, snd, List.append_nil]); rfl) ?_)))
        refine .loop (fun z us m => ∃ f : P3 → Int, us = [.i ((z : Int) - 1)] ∧ z ≤ E.2.1 + 1 ∧ Row m 83 1 (some ⟨ge, 0, none⟩) 3 3 (intsL (l3 E)) ∧ Row m 89 1 (some ⟨gg, 0, none⟩) 343 343 (gridL f) ∧ (m d1 = m2 d1 ∧ m d0 = m2 d0) ∧ f E = 0 ∧ ∀ x, leX x E → (i < x.1 ∨ x.1 = i ∧ z ≤ x.2.1) → f x = EX C E x) (E.2.1 + 1)
          ⟨f, by (simp only [evE, liE, letsOf, letU, snd, Sh.uss, Sh.us, atAddr, map_add0, List.append_nil]); rw [show ((E.2.1 + 1 : Nat) : Int) - 1 = (E.2.1 : Int) by omega], Nat.le_refl _, hE, hG, hkd, hfE, fun x hx h => hf x hx (by have := hx.2.1; omega)⟩ ?_
        clear hG hE hkd hfE hf f
        rintro z _ m4 _ ⟨f, rfl, hz1, hE, hG, hkd, hfE, hf⟩
        refine .ite (fun h5 => ?_) (fun h5 => .again rfl ⟨i, by omega, f, by (simp only [evE, liE, letsOf, letU, snd, Sh.uss, Sh.us, atAddr, map_add0, List.append_nil]); rw [subI (by omega) (by omega)], by omega, hE, hG, hkd, hfE, fun x hx h => hf x hx (by have h5' : cm .geq ((z : Int) - 1) 0 = false := h5; simp only [cm, decide_eq_false_iff_not] at h5'; omega)⟩) <;> ((try simp only [evE, liE, letsOf, letU, snd] at h5); (try simp only [cmE] at h5))
        obtain ⟨j, rfl⟩ : ∃ j, z = j + 1 := ⟨z - 1, by omega⟩
        refine .env (by (try simp only [liE, letsOf, letU, snd, List.append_nil]); rw [show ((j + 1 : Nat) : Int) - 1 = (j : Int) by omega]) (.chk rfl (.load1 (.int .i64 (E.2.2 : Int)) (some ⟨ge, 0, none⟩) (intsL (l3 E)) 2 rfl rfl (fun g => hE.reads g) rfl (.env (by (try simp only [liE, letsOf, letU, snd, List.append_nil]); rfl) ?_)))
        refine .loop (fun z us m => ∃ f : P3 → Int, us = [.i ((z : Int) - 1)] ∧ z ≤ E.2.2 + 1 ∧ Row m 83 1 (some ⟨ge, 0, none⟩) 3 3 (intsL (l3 E)) ∧ Row m 89 1 (some ⟨gg, 0, none⟩) 343 343 (gridL f) ∧ (m d1 = m2 d1 ∧ m d0 = m2 d0) ∧ f E = 0 ∧ ∀ x, leX x E → (i < x.1 ∨ x.1 = i ∧ (j < x.2.1 ∨ x.2.1 = j ∧ z ≤ x.2.2)) → f x = EX C E x) (E.2.2 + 1)
          ⟨f, by (simp only [evE, liE, letsOf, letU, snd, Sh.uss, Sh.us, atAddr, map_add0, List.append_nil]); rw [show ((E.2.2 + 1 : Nat) : Int) - 1 = (E.2.2 : Int) by omega], Nat.le_refl _, hE, hG, hkd, hfE, fun x hx h => hf x hx (by have := hx.2.2; omega)⟩ ?_
        clear hG hE hkd hfE hf f
        rintro z _ m5 _ ⟨f, rfl, hz2, hE, hG, hkd, hfE, hf⟩
        refine .ite (fun h6 => ?_) (fun h6 => .again rfl ⟨j, by omega, f, by (simp only [evE, liE, letsOf, letU, snd, Sh.uss, Sh.us, atAddr, map_add0, List.append_nil]); rw [subI (by omega) (by omega)], by omega, hE, hG, hkd, hfE, fun x hx h => hf x hx (by have h6' : cm .geq ((z : Int) - 1) 0 = false := h6; simp only [cm, decide_eq_false_iff_not] at h6'; omega)⟩) <;> ((try simp only [evE, liE, letsOf, letU, snd] at h6); (try simp only [cmE] at h6))
        obtain ⟨k, rfl⟩ : ∃ k, z = k + 1 := ⟨z - 1, by omega⟩
        have hpt : leX (i, j, k) E := ⟨by show i ≤ E.1; omega, by show j ≤ E.2.1; omega, by show k ≤ E.2.2; omega⟩
        refine .env (by (try simp only [liE, letsOf, letU, snd, List.append_nil]); rw [show ((k + 1 : Nat) : Int) - 1 = (k : Int) by omega]) (.alloc fun b5 => .load3 E (fun g => hE.reads g) (.env (by (try simp only [liE, letsOf, letU, snd, List.append_nil]); rfl) ?_))
        refine .join (fun us m => us = [] ∧ ∃ f : P3 → Int, Row m 83 1 (some ⟨ge, 0, none⟩) 3 3 (intsL (l3 E)) ∧ Row m 89 1 (some ⟨gg, 0, none⟩) 343 343 (gridL f) ∧ (m d1 = m2 d1 ∧ m d0 = m2 d0) ∧ f E = 0 ∧ ∀ x, leX x E → (i < x.1 ∨ x.1 = i ∧ (j < x.2.1 ∨ x.2.1 = j ∧ k ≤ x.2.2)) → f x = EX C E x) (.ite (fun h7 => ?_) (fun h7 => ?_)) ?_
        · have hne : (i, j, k) ≠ E := fun e => by
            rw [← e] at h7
            simp [BT.eval, IT.eval, Env.int, cm] at h7
          have hfs : ∀ s : Nat, 0 < s → s ≤ 7 → okX E (i, j, k) s = true → f (nxtX (i, j, k) s) = EX C E (nxtX (i, j, k) s) := fun s hs0 hs7 ho => hf _ (nxt_le hpt ho) (by
            have := nxt_after (p := (i, j, k)) hs0 hs7
            dsimp only at this
            omega)
          refine .chk (by ((try simp only [evE, liE, letsOf, letU, snd]); (try simp only [cmE])); simp; omega) (.chk (by ((try simp only [evE, liE, letsOf, letU, snd]); (try simp only [cmE])); simp; omega) (.callE (kcho (i, j, k) hpt hne f hfs) (fun g => ⟨g.cells (j := 4) rfl rfl rfl, g.cells (j := 3) rfl rfl rfl, hG.reads g, ⟨g.cells (j := 0) rfl rfl rfl, hE.reads g⟩, ⟨(Cells.keepB hq1 hkd.1).mono g.mv, (Cells.keepB hq0 hkd.2).mono g.mv, hp.1.mono g.R, hp.2.1.mono g.R, hp.2.2.mono g.R⟩⟩) ?_))
          rintro v mq m6 hle6 hqe6 ⟨q, cq, rfl, _⟩
          replace hE := Row.le hE hle6
          replace hG := Row.le hG hle6
          have hkd6 : m6 d1 = m2 d1 ∧ m6 d0 = m2 d0 := ⟨(hle6.keep (by rw [hkd.1]; exact hd1)).trans hkd.1, (hle6.keep (by rw [hkd.2]; exact hd0)).trans hkd.2⟩
          refine ⟨[.p q, .i l.length, .i cq, .i (nxtX (i, j, k) (setX C E (i, j, k))).1, .i (nxtX (i, j, k) (setX C E (i, j, k))).2.1, .i (nxtX (i, j, k) (setX C E (i, j, k))).2.2, .i (EX C E (i, j, k))], uOk_of rfl, (cho_fresh _ _ _ _ _ _ _ _ _).symm, .env (by (try simp only [liE, letsOf, letU, snd, List.append_nil]); rfl) (.chk (by ((try simp only [evE, liE, letsOf, letU, snd]); (try simp only [cmE])); simp; omega) (.storeX (i * 49 + j * 7 + k) hG (by decide) rfl ?_ (by show i * 49 + j * 7 + k + 1 ≤ 343; omega) fun m7 g7 hg7 hG7 hs7 => .again rfl ⟨by (simp only [evE, liE, letsOf, letU, snd, Sh.uss, Sh.us, atAddr, map_add0, List.append_nil]), upd3 f (i, j, k) (EX C E (i, j, k)), ?_, ?_, ?_, ?_, fun x hx h => ?_⟩))⟩
          · show ((0 : Int) + (i : Int) * ((49 : Nat) : Int)) + (j : Int) * ((7 : Nat) : Int) + (k : Int) * ((1 : Nat) : Int) = _
            omega
          · exact hE.keep fun b hb _ => hs7 b fun e => Row.apart hE hG (by decide) b hb (by rw [hg7, e])
          · replace hG7 : Row m7 89 1 (some ⟨gg, 0, none⟩) 343 343 (putAt (gridL f) (i * 49 + j * 7 + k) [.int .i64 (EX C E (i, j, k))]) := hG7
            rw [gridL_set f (by omega) (by omega) (by omega)] at hG7
            exact hG7
          · cases hg7
            exact ⟨(hs7 d1 hdg.1).trans hkd6.1, (hs7 d0 hdg.2).trans hkd6.2⟩
          · unfold upd3; rw [if_neg (fun e => hne e.symm)]; exact hfE
          · unfold upd3
            by_cases e : x = (i, j, k)
            · rw [if_pos e, e]
            · rw [if_neg e]
              refine hf x hx ?_
              obtain ⟨x1, x2, x3⟩ := x
              simp only [Prod.mk.injEq] at e h ⊢
              omega
        · have he : (i, j, k) = E := by
            ((try simp only [evE, liE, letsOf, letU, snd] at h7); (try simp only [cmE] at h7))
            obtain ⟨E1, E2, E3⟩ := E
            simp only [Prod.mk.injEq] at h7 ⊢
            omega
          refine .again rfl ⟨by (simp only [evE, liE, letsOf, letU, snd, Sh.uss, Sh.us, atAddr, map_add0, List.append_nil]), f, hE, hG, hkd, hfE, fun x hx h => ?_⟩
          by_cases e : x = (i, j, k)
          · rw [e, he, hfE, EX_end]
          · refine hf x hx ?_
            obtain ⟨x1, x2, x3⟩ := x
            simp only [Prod.mk.injEq] at e h ⊢
            omega
        · rintro _ m8 _ ⟨rfl, f, hE, hG, hkd, hfE, hf⟩
          exact .env (by (try simp only [liE, letsOf, letU, snd, List.append_nil]); rfl) (.again rfl ⟨k, by omega, f, by (simp only [evE, liE, letsOf, letU, snd, Sh.uss, Sh.us, atAddr, map_add0, List.append_nil]); rw [subI (by omega) (by omega)], by omega, hE, hG, hkd, hfE, hf⟩)
      · obtain rfl : z = 0 := by omega
        have hfa : ∀ x, leX x E → f x = EX C E x := fun x hx => hf x hx (Nat.zero_le _)
        have hr0 : remX E p0 ≤ 18 := by unfold remX p0; dsimp only; omega
        have hge3 := Row.some' hE
        have hn1 : m3 d1 ≠ none := by rw [hkd.1]; exact hd1
        have hn0 : m3 d0 ≠ none := by rw [hkd.2]; exact hd0
        refine .env (by (try simp only [liE, letsOf, letU, snd, List.append_nil]); rfl) (.allocc fun gp hgp _ _ => ?_)
        show DenM _ _ _ _ _ _ _ (m3.upd gp (.cells (intsL (l3 p0)).toArray 83 (0, 0))) _
        have hP := row_of m3 gp 3 83 (intsL (l3 p0)) rfl (by unfold maxLen; omega)
        have hle3 : m3.le (m3.upd gp (.cells (intsL (l3 p0)).toArray 83 (0, 0))) := fun b o hb => by rw [Mem.upd_other _ _ (fun e => by rw [e, hgp] at hb; cases hb)]; exact hb
        have hgn : ge ≠ gp ∧ d1 ≠ gp ∧ d0 ≠ gp := ⟨fun e => hge3 (by rw [e]; exact hgp), fun e => hn1 (by rw [e]; exact hgp), fun e => hn0 (by rw [e]; exact hgp)⟩
        revert hP hle3
        generalize Mem.upd m3 gp _ = m4
        intro hP hle3
        replace hE := Row.le hE hle3
        replace hG := Row.le hG hle3
        have hkd4 : m4 d1 = m2 d1 ∧ m4 d0 = m2 d0 := ⟨(hle3.keep hn1).trans hkd.1, (hle3.keep hn0).trans hkd.2⟩
        refine .env (by (try simp only [liE, letsOf, letU, snd, List.append_nil]); rfl) (.storeX 0 hP (by decide) rfl rfl (by show 0 + 3 ≤ 3; decide) fun m5 g5 hg5 hP5 hs5 => ?_)
        obtain rfl : gp = g5 := by cases hg5; rfl
        replace hP5 : Row m5 83 1 (some ⟨gp, 0, none⟩) 3 3 (intsL (l3 p0)) := hP5
        replace hE : Row m5 83 1 (some ⟨ge, 0, none⟩) 3 3 (intsL (l3 E)) := hE.keep fun b hb _ => hs5 b fun e => by cases hb; exact hgn.1 e
        replace hG : Row m5 89 1 (some ⟨gg, 0, none⟩) 343 343 (gridL f) := hG.keep fun b hb _ => hs5 b fun e => Row.apart hG hP (by decide) b hb (by rw [e])
        have hkd5 : m5 d1 = m2 d1 ∧ m5 d0 = m2 d0 := ⟨(hs5 d1 hgn.2.1).trans hkd4.1, (hs5 d0 hgn.2.2).trans hkd4.2⟩
        refine .loop (fun z us m => ∃ (q : Option Addr) (cq : Nat) (rs2 : List IR) (gp : Nat) (pt : P3) (s : Nat), us = [.p q, .i rs2.length, .i cq, .p (some ⟨gp, 0, none⟩)] ∧ z = remX E pt ∧ leX pt E ∧ remX E pt ≤ s ∧ outX C E (colX l.length) (remX E p0) p0 = rs2.map (·.l) ++ outX C E (colX l.length) s pt ∧
            Row m 83 1 (some ⟨gp, 0, none⟩) 3 3 (intsL (l3 pt)) ∧ Row m 83 1 (some ⟨ge, 0, none⟩) 3 3 (intsL (l3 E)) ∧ Row m 89 1 (some ⟨gg, 0, none⟩) 343 343 (gridL f) ∧ (m d1 = m2 d1 ∧ m d0 = m2 d0) ∧ TabR m q cq rs2 ∧ (ge ≠ gp ∧ d1 ≠ gp ∧ d0 ≠ gp) ∧ (∀ o, q ≠ some ⟨d1, o, none⟩) ∧ ∀ o, q ≠ some ⟨d0, o, none⟩) (remX E p0)
          ⟨none, 0, [], gp, p0, _, by (simp only [evE, liE, letsOf, letU, snd, Sh.uss, Sh.us, atAddr, map_add0, List.append_nil]); rfl, rfl, p0_le E, Nat.le_refl _, rfl, hP5, hE, hG, hkd5, .nil _, hgn, (fun o h => by cases h), (fun o h => by cases h)⟩ ?_
        clear hP hP5 hE hG hkd hkd4 hkd5 hgn hs5 hge3 hn1 hn0 hle3 hgp hg5
        rintro z _ m6 _ ⟨q, cq, rs2, gp, pt, s, rfl, rfl, hpt, hs, hout, hP, hE, hG, hkd, hTR, hgn, hqd1, hqd0⟩
        have hn1 : m6 d1 ≠ none := by rw [hkd.1]; exact hd1
        have hn0 : m6 d0 ≠ none := by rw [hkd.2]; exact hd0
        have hlen18 : rs2.length ≤ 18 := by
          have h1 := congrArg List.length hout
          have h2 := outX_len C E (colX l.length) (remX E p0) p0
          rw [List.length_append, List.length_map] at h1
          omega
        refine .env (by (try simp only [liE, letsOf, letU, snd, List.append_nil]); rfl) (.load3 pt (fun g => hP.reads g) (.env (by (try simp only [liE, letsOf, letU, snd, List.append_nil]); rfl) (.load3 E (fun g => hE.reads g) (.env (by (try simp only [liE, letsOf, letU, snd, List.append_nil]); rfl) (.ite (fun h7 => ?_) (fun h7 => ?_))))))
        · have hne : pt ≠ E := fun e => by
            rw [← e] at h7
            simp [BT.eval, IT.eval, Env.int, cm] at h7
          obtain ⟨s, rfl⟩ : ∃ s', s = s' + 1 := ⟨s - 1, by have := mt (rem_zero hpt) hne; omega⟩
          obtain ⟨hs0, hs7, hsok, _⟩ := set_ok hnn hpt hne
          have hnle := nxt_le hpt hsok
          have hnrem := nxt_rem hpt hsok hs0 hs7
          rw [outX_go _ _ hne] at hout
          refine .load3 pt (fun g => hP.reads g) (.env (by (try simp only [liE, letsOf, letU, snd, List.append_nil]); rfl) (.callE (kcho pt hpt hne f (fun s _ _ ho => hfa _ (nxt_le hpt ho))) (fun g => ⟨g.cells (j := 4) rfl rfl rfl, g.cells (j := 3) rfl rfl rfl, hG.reads g, ⟨g.cells (j := 0) rfl rfl rfl, hE.reads g⟩, ⟨(Cells.keepB hq1 hkd.1).mono g.mv, (Cells.keepB hq0 hkd.2).mono g.mv, hp.1.mono g.R, hp.2.1.mono g.R, hp.2.2.mono g.R⟩⟩) ?_))
          generalize hS : setX C E pt = S at *
          rintro v mq m7 hle7 hqe7 ⟨q6, c6, rfl, hR6⟩
          replace hR6 := Row.le hR6 hqe7
          replace hE := Row.le hE hle7
          replace hG := Row.le hG hle7
          replace hP := Row.le hP hle7
          have hTR7 := hTR.le hle7
          have hkd7 : m7 d1 = m2 d1 ∧ m7 d0 = m2 d0 := ⟨(hle7.keep hn1).trans hkd.1, (hle7.keep hn0).trans hkd.2⟩
          have hn17 : m7 d1 ≠ none := by rw [hkd7.1]; exact hd1
          have hn07 : m7 d0 ≠ none := by rw [hkd7.2]; exact hd0
          refine ⟨[.p q6, .i l.length, .i c6, .i (nxtX pt S).1, .i (nxtX pt S).2.1, .i (nxtX pt S).2.2, .i (EX C E pt)], uOk_of rfl, (cho_fresh _ _ _ _ _ _ _ _ _).symm, .env (by (try simp only [liE, letsOf, letU, snd, List.append_nil]); rfl) (.alloc fun b5 => .alloc fun b6 => .append (q := q) (cap := cq) (n := rs2.length) (qx := some ⟨b6, 0, none⟩) (kx := 1) (capx := 1) (news := [slv q6 l.length c6]) elT hTR7.out (fun gd => gd.cells (j := 6) rfl rfl rfl) rfl (by simp [slv, Value.oneCell']) (fun h => by cases h) (by simp [maxLen]; omega) (by omega) (fun q' cap' m8 hr8 hk8 hq8 => ?_))⟩
          have hP8 := hP.keepA hTR7.out (by decide) hk8
          have hE8 := hE.keepA hTR7.out (by decide) hk8
          have hG8 := hG.keepA hTR7.out (by decide) hk8
          have hTR8 : TabR m8 q' cap' (rs2 ++ [⟨q6, c6, colX l.length pt S⟩]) := by
            refine hTR7.push (r := ⟨q6, c6, colX l.length pt S⟩) (RowI.of (by rw [colX_len]; exact hR6)) ?_ hk8
            show Row m8 49 1 q' cap' (rs2.length + 1) (rs2.map IR.v ++ [slv q6 (colX l.length pt S).length c6])
            rw [colX_len]; exact hr8
          have hkd8 : m8 d1 = m2 d1 ∧ m8 d0 = m2 d0 := ⟨(hk8 d1 (fun ⟨o, ho⟩ => absurd ho (hqd1 o)) hn17).trans hkd7.1, (hk8 d0 (fun ⟨o, ho⟩ => absurd ho (hqd0 o)) hn07).trans hkd7.2⟩
          have hqd18 : ∀ o, q' ≠ some ⟨d1, o, none⟩ := fun o h => by
            rcases hq8 with rfl | ⟨g, hg, hgn'⟩
            · exact hqd1 o h
            · rw [hg] at h; cases h; exact hn17 hgn'
          have hqd08 : ∀ o, q' ≠ some ⟨d0, o, none⟩ := fun o h => by
            rcases hq8 with rfl | ⟨g, hg, hgn'⟩
            · exact hqd0 o h
            · rw [hg] at h; cases h; exact hn07 hgn'
          refine .env (by (try simp only [liE, letsOf, letU, snd, List.append_nil]); rfl) (.storeX 0 hP8 (by decide) rfl rfl (by show 0 + 3 ≤ 3; decide) fun m9 g9 hg9 hP9 hs9 => ?_)
          obtain rfl : gp = g9 := by cases hg9; rfl
          replace hP9 : Row m9 83 1 (some ⟨gp, 0, none⟩) 3 3 (intsL (l3 (nxtX pt S))) := hP9
          have hE9 : Row m9 83 1 (some ⟨ge, 0, none⟩) 3 3 (intsL (l3 E)) := hE8.keep fun b hb _ => hs9 b fun e => by cases hb; exact hgn.1 e
          have hG9 : Row m9 89 1 (some ⟨gg, 0, none⟩) 343 343 (gridL f) := hG8.keep fun b hb _ => hs9 b fun e => Row.apart hG8 hP8 (by decide) b hb (by rw [e])
          have hTR9 := hTR8.keepP hP8 (by decide) (by decide) hs9
          have hkd9 : m9 d1 = m2 d1 ∧ m9 d0 = m2 d0 := ⟨(hs9 d1 hgn.2.1).trans hkd8.1, (hs9 d0 hgn.2.2).trans hkd8.2⟩
          have hge9 := Row.some' hE9
          have hn19 : m9 d1 ≠ none := by rw [hkd9.1]; exact hd1
          have hn09 : m9 d0 ≠ none := by rw [hkd9.2]; exact hd0
          refine .load3 (nxtX pt S) (fun g => hP9.reads g) (.env (by (try simp only [liE, letsOf, letU, snd, List.append_nil]); rfl) (.allocc fun gq hgq _ _ => ?_))
          show DenM _ _ _ _ _ _ _ (m9.upd gq (.cells (intsL (l3 p0)).toArray 83 (0, 0))) _
          have hQ := row_of m9 gq 3 83 (intsL (l3 p0)) rfl (by unfold maxLen; omega)
          have hle9 : m9.le (m9.upd gq (.cells (intsL (l3 p0)).toArray 83 (0, 0))) := fun b o hb => by rw [Mem.upd_other _ _ (fun e => by rw [e, hgq] at hb; cases hb)]; exact hb
          have hgnq : ge ≠ gq ∧ d1 ≠ gq ∧ d0 ≠ gq := ⟨fun e => hge9 (by rw [e]; exact hgq), fun e => hn19 (by rw [e]; exact hgq), fun e => hn09 (by rw [e]; exact hgq)⟩
          revert hQ hle9
          generalize Mem.upd m9 gq _ = m10
          intro hQ hle9
          have hE10 := Row.le hE9 hle9
          have hG10 := Row.le hG9 hle9
          have hTR10 := hTR9.le hle9
          have hkd10 : m10 d1 = m2 d1 ∧ m10 d0 = m2 d0 := ⟨(hle9.keep hn19).trans hkd9.1, (hle9.keep hn09).trans hkd9.2⟩
          refine .env (by (try simp only [liE, letsOf, letU, snd, List.append_nil]); rfl) (.storeX 0 hQ (by decide) rfl rfl (by show 0 + 3 ≤ 3; decide) fun m11 g11 hg11 hQ11 hs11 => ?_)
          obtain rfl : gq = g11 := by cases hg11; rfl
          refine .again rfl ⟨remX E (nxtX pt S), by omega, q', cap', rs2 ++ [⟨q6, c6, colX l.length pt S⟩], gq, nxtX pt S, s, ?_, rfl, hnle, by omega, ?_, hQ11, ?_, ?_, ⟨(hs11 d1 hgnq.2.1).trans hkd10.1, (hs11 d0 hgnq.2.2).trans hkd10.2⟩, hTR10.keepP hQ (by decide) (by decide) hs11, hgnq, hqd18, hqd08⟩
          · (simp only [evE, liE, letsOf, letU, snd, Sh.uss, Sh.us, atAddr, map_add0, List.append_nil]); rw [List.length_append]; rfl
          · rw [hout, List.map_append, List.append_assoc]; rfl
          · exact hE10.keep fun b hb _ => hs11 b fun e => by cases hb; exact hgnq.1 e
          · exact hG10.keep fun b hb _ => hs11 b fun e => Row.apart hG10 hQ (by decide) b hb (by rw [e])
        · have he : pt = E := by
            ((try simp only [evE, liE, letsOf, letU, snd] at h7); (try simp only [cmE] at h7))
            obtain ⟨E1, E2, E3⟩ := E
            obtain ⟨p1, p2, p3⟩ := pt
            simp only [Prod.mk.injEq] at h7 ⊢
            omega
          subst he
          rw [outX_end, List.append_nil] at hout
          have h00 := gridL_at f (a := 0) (b := 0) (d := 0) (by decide) (by decide) (by decide)
          have hf0 : f (0, 0, 0) = EX C pt p0 := hfa p0 (p0_le pt)
          rw [hf0] at h00
          exact .chk rfl (.chk rfl (.chk rfl (.load1 (.int .i64 (EX C pt p0)) (some ⟨gg, 0, none⟩) (gridL f) 0 rfl rfl (fun g => hG.reads g) h00 (.env (by (try simp only [liE, letsOf, letU, snd, List.append_nil]); rfl) (.ret rfl ⟨q, cq, rs2, rfl, hout.symm, hTR.tab⟩)))))
end Go.Proofs.YtialbhieaipcgaaDoor
