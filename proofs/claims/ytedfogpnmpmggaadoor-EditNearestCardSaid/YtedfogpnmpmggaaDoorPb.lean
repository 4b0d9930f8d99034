/- Sounds in plain Lean: two sets of features as numbers; their bits. -/
import Derived.Test.YtedfogpnmpmggaaDoorPa
set_option linter.unusedSimpArgs false
set_option linter.unusedVariables false
namespace Go.Sy
open Go
abbrev Snd := Nat × Nat
def Sok (s : Snd) : Prop := s.1 < 2 ^ 32 ∧ s.2 < 2 ^ 32
def snd (s : Snd) : Value := .agg #[.int .u32 s.1, .int .u32 s.2]
/-- Is a sound valid? -/
def valid (s : Snd) : Bool := (s.1 &&& s.2 == 0) && decide (s.1 ||| s.2 ≤ 16777215)
theorem valid_iff (s : Snd) : valid s = true ↔ (∀ i, ¬ (s.1.testBit i = true ∧ s.2.testBit i = true)) ∧ s.1 < 2 ^ 24 ∧ s.2 < 2 ^ 24 := by
  unfold valid
  rw [Bool.and_eq_true, beq_iff_eq, decide_eq_true_eq]
  constructor
  · rintro ⟨h0, h1⟩
    refine ⟨fun i hi => ?_, ?_, ?_⟩
    · have := congrArg (·.testBit i) h0
      simp [Nat.testBit_and, hi.1, hi.2] at this
    · have := Nat.left_le_or (n := s.1) (m := s.2); omega
    · have := Nat.right_le_or (n := s.1) (m := s.2); omega
  · rintro ⟨h0, h1, h2⟩
    refine ⟨Nat.eq_of_testBit_eq fun i => ?_, ?_⟩
    · have := h0 i
      rw [Nat.testBit_and, Nat.zero_testBit]
      cases h : s.1.testBit i <;> cases h' : s.2.testBit i <;> simp [h, h'] at this ⊢
    · have := Nat.or_lt_two_pow h1 h2; omega
theorem bit_big {a n i : Nat} (h : a < 2 ^ n) (hi : n ≤ i) : a.testBit i = false := Nat.testBit_lt_two_pow (Nat.lt_of_lt_of_le h (Nat.pow_le_pow_right (by omega) hi))
theorem lt_of_bits {a n : Nat} (h : ∀ i, n ≤ i → a.testBit i = false) : a < 2 ^ n := Nat.lt_pow_two_of_testBit _ h
theorem Sok.of_valid {s : Snd} (h : valid s = true) : Sok s := by
  obtain ⟨_, h1, h2⟩ := (valid_iff s).1 h
  exact ⟨by omega, by omega⟩
/-- The value of a feature. -/
def getV (s : Snd) (f : Int) : Int := if valid s = true ∧ 0 ≤ f ∧ f < 24 then ((s.1.testBit f.toNat).toNat : Int) - ((s.2.testBit f.toNat).toNat : Int) else 0
theorem getV_bit {s : Snd} (hv : valid s = true) {f : Nat} (hf : f < 24) : getV s f = ((s.1.testBit f).toNat : Int) - ((s.2.testBit f).toNat : Int) := by
  unfold getV
  rw [if_pos ⟨hv, by omega, by omega⟩]; simp
theorem getV_one {s : Snd} (hv : valid s = true) {f : Nat} (hf : f < 24) : s.1.testBit f = (getV s f == 1) ∧ s.2.testBit f = (getV s f == -1) := by
  have h := ((valid_iff s).1 hv).1 f
  rw [getV_bit hv hf]
  cases h1 : s.1.testBit f <;> cases h2 : s.2.testBit f <;> simp [h1, h2] at h ⊢ <;> decide
theorem getV_range (s : Snd) (f : Int) : getV s f = 0 ∨ getV s f = 1 ∨ getV s f = -1 := by
  unfold getV
  split
  · cases s.1.testBit f.toNat <;> cases s.2.testBit f.toNat <;> simp
  · exact .inl rfl
/-- With another value of a feature. -/
def putS (s : Snd) (f : Nat) (v : Int) : Snd := (if v = 1 then nandN s.1 (2 ^ f) ||| 2 ^ f else nandN s.1 (2 ^ f), if v = -1 then nandN s.2 (2 ^ f) ||| 2 ^ f else nandN s.2 (2 ^ f))
theorem nandN_lt {a b n : Nat} (h : a < 2 ^ n) : nandN a b < 2 ^ n := Nat.lt_of_le_of_lt Nat.and_le_left h
theorem pow_lt32 {f : Nat} (hf : f < 32) : 2 ^ f < 2 ^ 32 := Nat.pow_lt_pow_right (by omega) hf
theorem putS_ok {s : Snd} (h : Sok s) {f : Nat} (hf : f < 32) (v : Int) : Sok (putS s f v) := by
  have h1 := nandN_lt (b := 2 ^ f) h.1
  have h2 := nandN_lt (b := 2 ^ f) h.2
  have h3 := pow_lt32 hf
  unfold putS Sok
  constructor <;> dsimp only <;> split <;> first | exact Nat.or_lt_two_pow ‹_› ‹_› | assumption
theorem putS_bit {s : Snd} (h : Sok s) {f : Nat} (v : Int) (g : Nat) : (putS s f v).1.testBit g = (if g = f then v == 1 else s.1.testBit g) ∧ (putS s f v).2.testBit g = (if g = f then v == -1 else s.2.testBit g) := by
  have key : ∀ (a : Nat) (b : Bool), a < 2 ^ 32 → ((if b = true then nandN a (2 ^ f) ||| 2 ^ f else nandN a (2 ^ f)) : Nat).testBit g = if g = f then b else a.testBit g := fun a b ha => by
    have hn := testBit_nandN a (2 ^ f) g ha
    rw [Nat.testBit_two_pow] at hn
    cases b <;> simp only [Bool.false_eq_true, if_false, if_true, Nat.testBit_or, hn, Nat.testBit_two_pow] <;> by_cases e : f = g <;> simp [e, eq_comm]
    all_goals (intro h; exact absurd h.symm e)
  unfold putS
  have k1 := key s.1 (v == 1) h.1
  have k2 := key s.2 (v == -1) h.2
  simp only [beq_iff_eq] at k1 k2
  exact ⟨k1, k2⟩
/-- The features of a set as in another sound. -/
def mixS (s t : Snd) (x : Nat) : Snd := (nandN s.1 x ||| (t.1 &&& x), nandN s.2 x ||| (t.2 &&& x))
theorem mixS_ok {s t : Snd} {x n : Nat} (h : s.1 < 2 ^ n ∧ s.2 < 2 ^ n) (h' : t.1 < 2 ^ n ∧ t.2 < 2 ^ n) : (mixS s t x).1 < 2 ^ n ∧ (mixS s t x).2 < 2 ^ n :=
  ⟨Nat.or_lt_two_pow (nandN_lt h.1) (Nat.lt_of_le_of_lt Nat.and_le_left h'.1), Nat.or_lt_two_pow (nandN_lt h.2) (Nat.lt_of_le_of_lt Nat.and_le_left h'.2)⟩
theorem mixS_bit {s t : Snd} (h : Sok s) (x g : Nat) : (mixS s t x).1.testBit g = (if x.testBit g = true then t.1.testBit g else s.1.testBit g) ∧ (mixS s t x).2.testBit g = (if x.testBit g = true then t.2.testBit g else s.2.testBit g) := by
  unfold mixS
  simp only [Nat.testBit_or, Nat.testBit_and, testBit_nandN _ _ _ h.1, testBit_nandN _ _ _ h.2]
  cases x.testBit g <;> simp
theorem mixS_put {s : Snd} {f : Nat} {v : Int} (hv : v = 0 ∨ v = 1 ∨ v = -1) : mixS s (if v > 0 then 2 ^ f else 0, if v < 0 then 2 ^ f else 0) (2 ^ f) = putS s f v := by
  unfold mixS putS
  rcases hv with rfl | rfl | rfl <;> simp
theorem Snd.ext {s t : Snd} (h1 : ∀ g, s.1.testBit g = t.1.testBit g) (h2 : ∀ g, s.2.testBit g = t.2.testBit g) : s = t :=
  Prod.ext (Nat.eq_of_testBit_eq h1) (Nat.eq_of_testBit_eq h2)
/-- out is T below feature f, and init from f on. -/
def Upto (out T init : Snd) (f : Nat) : Prop := Sok out ∧ ∀ g, out.1.testBit g = (if g < f then T.1.testBit g else init.1.testBit g) ∧ out.2.testBit g = (if g < f then T.2.testBit g else init.2.testBit g)
theorem Upto.start {T init : Snd} (h : Sok init) : Upto init T init 0 := ⟨h, fun g => by simp⟩
theorem Upto.put {out T init : Snd} {f : Nat} {v : Int} (h : Upto out T init f) (hf : f < 32) (h1 : T.1.testBit f = (v == 1)) (h2 : T.2.testBit f = (v == -1)) : Upto (putS out f v) T init (f + 1) := by
  refine ⟨putS_ok h.1 hf v, fun g => ?_⟩
  obtain ⟨p1, p2⟩ := putS_bit h.1 (f := f) v g
  obtain ⟨q1, q2⟩ := h.2 g
  rw [p1, p2]
  rcases Nat.lt_trichotomy g f with hg | rfl | hg
  · have e1 : ¬ g = f := by omega
    have e2 : g < f + 1 := by omega
    simp [e1, e2, hg, q1, q2]
  · simp [h1, h2]
  · have e1 : ¬ g = f := by omega
    have e2 : ¬ g < f + 1 := by omega
    have e3 : ¬ g < f := by omega
    simp [e1, e2, e3, q1, q2]
theorem Upto.keep {out T init : Snd} {f : Nat} (h : Upto out T init f) (h1 : T.1.testBit f = init.1.testBit f) (h2 : T.2.testBit f = init.2.testBit f) : Upto out T init (f + 1) := by
  refine ⟨h.1, fun g => ?_⟩
  obtain ⟨q1, q2⟩ := h.2 g
  rw [q1, q2]
  rcases Nat.lt_trichotomy g f with hg | rfl | hg
  · have e2 : g < f + 1 := by omega
    simp [e2, hg]
  · simp [h1, h2]
  · have e2 : ¬ g < f + 1 := by omega
    have e3 : ¬ g < f := by omega
    simp [e2, e3]
theorem Upto.end {out T init : Snd} {f : Nat} (h : Upto out T init f) (h1 : ∀ g, f ≤ g → T.1.testBit g = init.1.testBit g) (h2 : ∀ g, f ≤ g → T.2.testBit g = init.2.testBit g) : out = T := by
  refine Snd.ext (fun g => ?_) (fun g => ?_)
  · rw [(h.2 g).1]; split
    · rfl
    · rw [h1 g (by omega)]
  · rw [(h.2 g).2]; split
    · rfl
    · rw [h2 g (by omega)]
/-! The functions. -/
def withS (s : Snd) (f v : Int) : Snd × Int := if valid s = false then ((0, 0), 14) else if f < 0 ∨ f ≥ 24 then ((0, 0), 3) else if v < -1 ∨ v > 1 then ((0, 0), 2) else (putS s f.toNat v, 0)
def satS (s c : Snd) : Bool := valid s && valid c && (nandN c.1 s.1 == 0) && (nandN c.2 s.2 == 0)
def joinS (a b : Snd) : Snd := (a.1 ||| b.1, a.2 ||| b.2)
def unifyS (a b : Snd) : Snd × Bool := if valid a && valid b && valid (joinS a b) then (joinS a b, true) else ((0, 0), false)
def meetS (a b : Snd) : Snd := if valid a && valid b then (a.1 &&& b.1, a.2 &&& b.2) else (0, 0)
def diffS (a b : Snd) : Nat := if valid a && valid b then (a.1 ^^^ b.1) ||| (a.2 ^^^ b.2) else 0
def takeS (s t : Snd) (x : Nat) : Snd × Int := if valid s = false ∨ valid t = false then ((0, 0), 14) else if x > 16777215 then ((0, 0), 2) else (mixS s t x, 0)
def changeS (s : Snd) (x : Nat) (t : Snd) : Snd × Int := if valid s = false ∨ valid t = false then ((0, 0), 14) else if x > 16777215 ∨ x &&& (t.1 ||| t.2) ≠ 0 then ((0, 0), 2) else (mixS s t (x ||| (t.1 ||| t.2)), 0)
def cmpN (a b : Nat) : Int := if a < b then -1 else if a > b then 1 else 0
def orderS (a b : Snd) : Int := if cmpN a.1 b.1 ≠ 0 then cmpN a.1 b.1 else cmpN a.2 b.2
theorem satS_iff {s c : Snd} (hs : valid s = true) (hc : valid c = true) : satS s c = true ↔ ∀ f : Nat, f < 24 → getV c f ≠ 0 → getV s f = getV c f := by
  have bs := (valid_iff s).1 hs
  have bc := (valid_iff c).1 hc
  have h32 := Sok.of_valid hc
  have key : ∀ (a b : Nat), a < 2 ^ 24 → (nandN a b = 0 ↔ ∀ f, f < 24 → a.testBit f = true → b.testBit f = true) := fun a b ha => by
    have hb : ∀ i, (nandN a b).testBit i = (a.testBit i && !b.testBit i) := fun i => testBit_nandN a b i (by omega)
    constructor
    · intro h f hf h1
      have := hb f
      rw [h, Nat.zero_testBit, h1] at this
      simpa using this.symm
    · intro h
      apply Nat.eq_of_testBit_eq
      intro i
      rw [hb, Nat.zero_testBit]
      rcases Nat.lt_or_ge i 24 with hi | hi
      · cases h1 : a.testBit i
        · rfl
        · rw [h i hi h1]; rfl
      · rw [bit_big ha hi]; rfl
  unfold satS
  rw [hs, hc]
  simp only [Bool.true_and, Bool.and_eq_true, beq_iff_eq, key _ _ bc.2.1, key _ _ bc.2.2]
  constructor
  · rintro ⟨h1, h2⟩ f hf hne
    have q1 := h1 f hf; have q2 := h2 f hf
    have o := bs.1 f; have o' := bc.1 f
    rw [getV_bit hc hf] at hne ⊢
    rw [getV_bit hs hf]
    cases e1 : c.1.testBit f <;> cases e2 : c.2.testBit f <;> cases e3 : s.1.testBit f <;> cases e4 : s.2.testBit f <;> simp_all
  · intro h
    refine ⟨fun f hf h1 => ?_, fun f hf h1 => ?_⟩ <;>
    · have q := h f hf
      have o := bs.1 f; have o' := bc.1 f
      rw [getV_bit hc hf, getV_bit hs hf] at q
      cases e1 : c.1.testBit f <;> cases e2 : c.2.testBit f <;> cases e3 : s.1.testBit f <;> cases e4 : s.2.testBit f <;> simp_all
end Go.Sy
