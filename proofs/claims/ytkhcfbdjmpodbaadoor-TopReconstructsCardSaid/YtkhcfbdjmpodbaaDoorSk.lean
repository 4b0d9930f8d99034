/- The cheapest changes on a tree, in plain Lean: what Sankoff's table says of all assignments. -/
import Derived.Test.YtkhcfbdjmpodbaaDoorPt
set_option linter.unusedSimpArgs false
set_option linter.unusedVariables false
namespace Go.Sy
def leastO (f : Nat → Option Int) : Nat → Option Int
  | 0 => none
  | n + 1 => match leastO f n, f n with
    | none, x => x
    | some a, none => some a
    | some a, some b => some (if b < a then b else a)
theorem leastO_le {f : Nat → Option Int} {n b : Nat} {c : Int} (hb : b < n) (h : f b = some c) : ∃ l, leastO f n = some l ∧ l ≤ c := by
  induction n with
  | zero => omega
  | succ n ih =>
    unfold leastO
    by_cases e : b = n
    · subst e
      rw [h]
      cases leastO f b with
      | none => exact ⟨c, rfl, Int.le_refl _⟩
      | some a => exact ⟨_, rfl, by split <;> omega⟩
    · obtain ⟨l, h1, h2⟩ := ih (by omega)
      rw [h1]
      cases f n with
      | none => exact ⟨l, rfl, h2⟩
      | some x => exact ⟨_, rfl, by split <;> omega⟩
theorem leastO_at {f : Nat → Option Int} {n : Nat} {l : Int} (h : leastO f n = some l) : ∃ b, b < n ∧ f b = some l := by
  induction n generalizing l with
  | zero => cases h
  | succ n ih =>
    unfold leastO at h
    cases h1 : leastO f n with
    | none => rw [h1] at h; exact ⟨n, by omega, h⟩
    | some a =>
      rw [h1] at h
      obtain ⟨b, hb, e⟩ := ih h1
      cases h2 : f n with
      | none => rw [h2] at h; cases h; exact ⟨b, by omega, e⟩
      | some x =>
        rw [h2] at h
        simp only [Option.some.injEq] at h
        split at h
        · exact ⟨n, by omega, by rw [h2, h]⟩
        · exact ⟨b, by omega, by rw [e, h]⟩
def addO : Option Int → Option Int → Option Int
  | some a, some b => some (a + b)
  | _, _ => none
section
variable (N K : Nat) (par : Nat → Nat) (M : Nat → Nat → Int)
def underO (C : Nat → Nat → Option Int) (v s : Nat) : Option Int := leastO (fun b => (C v b).map (M s b + ·)) K
def stepT (C : Nat → Nat → Option Int) (v : Nat) : Nat → Nat → Option Int := fun u s => if u = par v then addO (C u s) (underO K M C v s) else C u s
def runT (init : Nat → Nat → Option Int) : Nat → Nat → Nat → Option Int
  | 0 => init
  | j + 1 => stepT K par M (runT init j) (N - 1 - j)
def sumI (f : Nat → Int) : Nat → Int
  | 0 => 0
  | n + 1 => sumI f n + f n
def lastE (a : Nat → Nat) : Nat → Int
  | 0 => 0
  | j + 1 => lastE a j + M (a (par (N - 1 - j))) (a (N - 1 - j))
end
theorem sumI_zero (n : Nat) : sumI (fun _ => 0) n = 0 := by
  induction n with
  | zero => rfl
  | succ n ih => unfold sumI; rw [ih]; rfl
theorem sumI_set {f g : Nat → Int} {n u : Nat} {d : Int} (hu : u < n) (h1 : g u = f u + d) (h2 : ∀ v, v < n → v ≠ u → g v = f v) : sumI g n = sumI f n + d := by
  induction n with
  | zero => omega
  | succ n ih =>
    unfold sumI
    by_cases e : u = n
    · subst e
      have : ∀ k, k ≤ u → sumI g k = sumI f k := fun k => by
        induction k with
        | zero => intro _; rfl
        | succ k ihk => intro hk; unfold sumI; rw [ihk (by omega), h2 k (by omega) (by omega)]
      rw [this u (Nat.le_refl _), h1]; omega
    · rw [ih (by omega) fun v hv hne => h2 v (by omega) hne, h2 n (by omega) (Ne.symm e)]; omega
section
variable {N K : Nat} {par : Nat → Nat} {M : Nat → Nat → Int} {init : Nat → Nat → Option Int}
theorem runT_lower (hp : ∀ v, 0 < v → v < N → par v < v) {a : Nat → Nat} (ha : ∀ v, v < N → a v < K) (h0 : ∀ v, v < N → init v (a v) = some 0) :
    ∀ j, j < N → ∃ c : Nat → Int, (∀ v, v < N - j → runT N K par M init j v (a v) = some (c v)) ∧ sumI c (N - j) ≤ lastE N par M a j
  | 0, _ => ⟨fun _ => 0, fun v hv => h0 v (by omega), by rw [sumI_zero]; exact Int.le_refl _⟩
  | j + 1, hj => by
    obtain ⟨c, h1, h2⟩ := runT_lower hp ha h0 j (by omega)
    have hk0 : 0 < N - 1 - j := by omega
    have hkp := hp (N - 1 - j) hk0 (by omega)
    have hk := h1 (N - 1 - j) (by omega)
    obtain ⟨l, e1, e2⟩ := leastO_le (f := fun b => (runT N K par M init j (N - 1 - j) b).map (M (a (par (N - 1 - j))) b + ·)) (ha (N - 1 - j) (by omega)) (by rw [hk]; rfl)
    replace e2 : l ≤ M (a (par (N - 1 - j))) (a (N - 1 - j)) + c (N - 1 - j) := e2
    refine ⟨fun v => if v = par (N - 1 - j) then c v + l else c v, fun v hv => ?_, ?_⟩
    · show stepT K par M (runT N K par M init j) (N - 1 - j) v (a v) = some (if v = par (N - 1 - j) then c v + l else c v)
      unfold stepT
      by_cases e : v = par (N - 1 - j)
      · subst e
        rw [if_pos rfl, if_pos rfl, h1 _ (by omega)]
        unfold underO
        rw [e1]; rfl
      · rw [if_neg e, if_neg e]; exact h1 v (by omega)
    · have e3 : N - j = (N - (j + 1)) + 1 := by omega
      rw [e3] at h2
      unfold sumI at h2
      have e4 : sumI (fun v => if v = par (N - 1 - j) then c v + l else c v) (N - (j + 1)) = sumI c (N - (j + 1)) + l := sumI_set (u := par (N - 1 - j)) (by omega) (by rw [if_pos rfl]) fun v _ hne => by rw [if_neg hne]
      rw [e4]
      unfold lastE
      rw [show N - (j + 1) = N - 1 - j by omega] at h2 ⊢
      omega
theorem runT_upper (hp : ∀ v, 0 < v → v < N → par v < v) (hi : ∀ v s, init v s = none ∨ init v s = some 0) :
    ∀ j, j < N → ∀ (a : Nat → Nat) (c : Nat → Int), (∀ v, v < N - j → a v < K) → (∀ v, v < N - j → runT N K par M init j v (a v) = some (c v)) →
      ∃ a' : Nat → Nat, (∀ v, v < N - j → a' v = a v) ∧ (∀ v, v < N → a' v < K) ∧ (∀ v, v < N → init v (a' v) = some 0) ∧ sumI c (N - j) = lastE N par M a' j
  | 0, _, a, c, ha, h => by
    have hc : ∀ v, v < N → c v = 0 ∧ init v (a v) = some 0 := fun v hv => by
      have := h v (by omega)
      rcases hi v (a v) with e | e
      · rw [show runT N K par M init 0 v (a v) = none from e] at this; cases this
      · rw [show runT N K par M init 0 v (a v) = some 0 from e] at this
        simp only [Option.some.injEq] at this
        exact ⟨this.symm, e⟩
    have hs : ∀ n, n ≤ N → sumI c n = 0 := fun n => by
      induction n with
      | zero => intro _; rfl
      | succ n ih => intro hn; unfold sumI; rw [ih (by omega), (hc n (by omega)).1]; rfl
    exact ⟨a, fun _ _ => rfl, fun v hv => ha v (by omega), fun v hv => (hc v hv).2, hs N (Nat.le_refl _)⟩
  | j + 1, hj, a, c, ha, h => by
    have hk0 : 0 < N - 1 - j := by omega
    have hkp := hp (N - 1 - j) hk0 (by omega)
    have hu := h (par (N - 1 - j)) (by omega)
    rw [show runT N K par M init (j + 1) (par (N - 1 - j)) (a (par (N - 1 - j))) = addO (runT N K par M init j (par (N - 1 - j)) (a (par (N - 1 - j)))) (underO K M (runT N K par M init j) (N - 1 - j) (a (par (N - 1 - j)))) from if_pos rfl] at hu
    cases hx : runT N K par M init j (par (N - 1 - j)) (a (par (N - 1 - j))) with
    | none => rw [hx] at hu; cases hu
    | some x =>
      cases hy : underO K M (runT N K par M init j) (N - 1 - j) (a (par (N - 1 - j))) with
      | none => rw [hx, hy] at hu; cases hu
      | some y =>
        rw [hx, hy] at hu
        simp only [addO, Option.some.injEq] at hu
        obtain ⟨b, hb, eb⟩ := leastO_at hy
        cases hq : runT N K par M init j (N - 1 - j) b with
        | none => rw [hq] at eb; cases eb
        | some z =>
          rw [hq] at eb
          simp only [Option.map_some, Option.some.injEq] at eb
          obtain ⟨a', q1, q2, q3, q4⟩ := runT_upper hp hi j (by omega) (fun v => if v = N - 1 - j then b else a v) (fun v => if v = N - 1 - j then z else if v = par (N - 1 - j) then x else c v) (fun v hv => by
            split
            · exact hb
            · exact ha v (by omega)) (fun v hv => by
            by_cases e : v = N - 1 - j
            · subst e; rw [if_pos rfl, if_pos rfl]; exact hq
            · rw [if_neg e, if_neg e]
              by_cases e2 : v = par (N - 1 - j)
              · subst e2; rw [if_pos rfl]; exact hx
              · rw [if_neg e2]
                have := h v (by omega)
                rwa [show runT N K par M init (j + 1) v (a v) = runT N K par M init j v (a v) from if_neg e2] at this)
          refine ⟨a', fun v hv => by rw [q1 v (by omega), if_neg (by omega)], q2, q3, ?_⟩
          have e3 : N - j = (N - (j + 1)) + 1 := by omega
          rw [e3] at q4
          unfold sumI at q4
          have qz : (if N - (j + 1) = N - 1 - j then z else if N - (j + 1) = par (N - 1 - j) then x else c (N - (j + 1))) = z := if_pos (by omega)
          have qa : a' (par (N - 1 - j)) = a (par (N - 1 - j)) := by rw [q1 _ (by omega)]; exact if_neg (by omega)
          have qb : a' (N - 1 - j) = b := by rw [q1 _ (by omega)]; exact if_pos rfl
          have e6 : sumI c (N - (j + 1)) = sumI (fun v => if v = N - 1 - j then z else if v = par (N - 1 - j) then x else c v) (N - (j + 1)) + y := by
            refine sumI_set (u := par (N - 1 - j)) (by omega) ?_ fun v hv hne => ?_
            · show c (par (N - 1 - j)) = (if par (N - 1 - j) = N - 1 - j then z else if par (N - 1 - j) = par (N - 1 - j) then x else c (par (N - 1 - j))) + y
              rw [if_neg (by omega), if_pos rfl]; omega
            · show c v = if v = N - 1 - j then z else if v = par (N - 1 - j) then x else c v
              rw [if_neg (by omega), if_neg hne]
          rw [e6]
          unfold lastE
          rw [qa, qb, ← q4]
          rw [qz]
          omega
theorem lastE_nonneg (hM : ∀ s b, 0 ≤ M s b) (a : Nat → Nat) : ∀ j, 0 ≤ lastE N par M a j
  | 0 => Int.le_refl _
  | j + 1 => by
    unfold lastE
    have := lastE_nonneg hM a j
    have := hM (a (par (N - 1 - j))) (a (N - 1 - j))
    omega
theorem lastE_zero (hM : ∀ s b, 0 ≤ M s b) {a : Nat → Nat} : ∀ {j : Nat}, lastE N par M a j ≤ 0 → ∀ i, i < j → M (a (par (N - 1 - i))) (a (N - 1 - i)) = 0
  | j + 1, h, i, hi => by
    unfold lastE at h
    have h1 := lastE_nonneg (N := N) (par := par) hM a j
    have h2 := hM (a (par (N - 1 - j))) (a (N - 1 - j))
    by_cases e : i = j
    · subst e; omega
    · exact lastE_zero (j := j) hM (by omega) i (by omega)
theorem sank_min (hN : 0 < N) (hp : ∀ v, 0 < v → v < N → par v < v) {a : Nat → Nat} (ha : ∀ v, v < N → a v < K) (h0 : ∀ v, v < N → init v (a v) = some 0) : ∃ l, leastO (runT N K par M init (N - 1) 0) K = some l ∧ l ≤ lastE N par M a (N - 1) := by
  obtain ⟨c, h1, h2⟩ := runT_lower (M := M) hp ha h0 (N - 1) (by omega)
  rw [show N - (N - 1) = 1 by omega] at h2
  unfold sumI sumI at h2
  obtain ⟨l, e1, e2⟩ := leastO_le (ha 0 hN) (h1 0 (by omega))
  exact ⟨l, e1, by omega⟩
theorem sank_same (hN : 0 < N) (hp : ∀ v, 0 < v → v < N → par v < v) (hi : ∀ v s, init v s = none ∨ init v s = some 0) (hM : ∀ s b, 0 ≤ M s b) (hM0 : ∀ s, M s s = 0) (hM1 : ∀ s b, s < K → b < K → s ≠ b → M s b ≠ 0) {s0 w : Nat} (hs : s0 < K) (hall : ∀ v, v < N → init v s0 = some 0) (hw : w < N) (honly : ∀ s, s ≠ s0 → init w s = none) :
    runT N K par M init (N - 1) 0 s0 = some 0 ∧ ∀ s c, s < K → s ≠ s0 → runT N K par M init (N - 1) 0 s = some c → 0 < c := by
  have up : ∀ s c, s < K → runT N K par M init (N - 1) 0 s = some c → ∃ a' : Nat → Nat, a' 0 = s ∧ (∀ v, v < N → a' v < K) ∧ (∀ v, v < N → init v (a' v) = some 0) ∧ c = lastE N par M a' (N - 1) := fun s c hs hc => by
    have e : N - (N - 1) = 1 := by omega
    obtain ⟨a', q1, q2, q3, q4⟩ := runT_upper (M := M) hp hi (N - 1) (by omega) (fun _ => s) (fun _ => c) (fun _ _ => hs) (fun v hv => by
      rw [e] at hv
      obtain rfl : v = 0 := by omega
      exact hc)
    rw [e] at q4
    unfold sumI sumI at q4
    exact ⟨a', q1 0 (by omega), q2, q3, by omega⟩
  constructor
  · obtain ⟨c, h1, h2⟩ := runT_lower (M := M) hp (a := fun _ => s0) (fun _ _ => hs) hall (N - 1) (by omega)
    rw [show N - (N - 1) = 1 by omega] at h2
    unfold sumI sumI at h2
    have hc := h1 0 (by omega)
    have hz : ∀ j, lastE N par M (fun _ => s0) j = 0 := fun j => by
      induction j with
      | zero => rfl
      | succ j ih => unfold lastE; rw [ih, hM0]; rfl
    rw [hz] at h2
    obtain ⟨a', _, _, _, q⟩ := up s0 (c 0) hs hc
    have := lastE_nonneg (N := N) (par := par) hM a' (N - 1)
    rw [hc]
    congr 1
    omega
  · intro s c hsK hne hc
    obtain ⟨a', q0, q1, q2, q3⟩ := up s c hsK hc
    have hn := lastE_nonneg (N := N) (par := par) hM a' (N - 1)
    rcases Int.lt_or_le 0 c with h | h
    · exact h
    · exfalso
      have hz := lastE_zero (N := N) (par := par) hM (a := a') (j := N - 1) (by omega)
      have hconst : ∀ n v, v < n → v < N → a' v = s := fun n => by
        induction n with
        | zero => intro v hv; omega
        | succ n ih =>
          intro v hv hvN
          by_cases h0 : v = 0
          · rw [h0, q0]
          · have hpv := hp v (by omega) hvN
            have h1 := ih (par v) (by omega) (by omega)
            have h2 := hz (N - 1 - v) (by omega)
            rw [show N - 1 - (N - 1 - v) = v by omega, h1] at h2
            by_cases e : s = a' v
            · exact e.symm
            · exact absurd h2 (hM1 s (a' v) hsK (q1 v hvN) e)
      have h3 := q2 w hw
      rw [hconst (w + 1) w (by omega) hw, honly s hne] at h3
      cases h3
end
end Go.Sy
