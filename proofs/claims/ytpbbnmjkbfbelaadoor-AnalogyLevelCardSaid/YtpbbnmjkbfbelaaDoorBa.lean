/- Plain facts on sounds: two sets of features as numbers. -/
import Derived.Test.YtpbbnmjkbfbelaaDoorSyMem
import Derived.Maps.AppendAt
import Derived.ArgAppend
import Derived.Laws.OwnMore
import Derived.Deep.OwnRows
set_option linter.unusedSimpArgs false
set_option linter.unusedVariables false
/- Plain facts on sounds: two sets of features as numbers. -/
namespace Go.Sy
open Go

theorem pick_or (c y : Bool) : (bif c then true else y) = (c || y) := by cases c <;> rfl
theorem pick_and (c x : Bool) : (bif c then x else false) = (c && x) := by cases c <;> rfl
theorem wrap_u32 (n : Nat) (h : n < 2 ^ 32) : IntKind.u32.wrap (n : Int) = n := by
  unfold IntKind.wrap
  simp [IntKind.signed, IntKind.bits]
  omega
theorem ar_and (a b : Nat) (ha : a < 2 ^ 32) (hb : b < 2 ^ 32) : ar .and .u32 a b = ((a &&& b : Nat) : Int) := by
  have h : (a &&& b) < 2 ^ 32 := Nat.and_lt_two_pow _ hb
  show IntKind.u32.wrap ((BitVec.ofInt 32 (a : Int) &&& BitVec.ofInt 32 (b : Int)).toNat : Int) = _
  have : (BitVec.ofInt 32 (a : Int) &&& BitVec.ofInt 32 (b : Int)).toNat = a &&& b := by
    rw [BitVec.ofInt_natCast, BitVec.ofInt_natCast, BitVec.toNat_and, BitVec.toNat_ofNat, BitVec.toNat_ofNat, Nat.mod_eq_of_lt ha, Nat.mod_eq_of_lt hb]
  rw [this, wrap_u32 _ h]
theorem ar_or (a b : Nat) (ha : a < 2 ^ 32) (hb : b < 2 ^ 32) : ar .or .u32 a b = ((a ||| b : Nat) : Int) := by
  have h : (a ||| b) < 2 ^ 32 := Nat.or_lt_two_pow ha hb
  show IntKind.u32.wrap ((BitVec.ofInt 32 (a : Int) ||| BitVec.ofInt 32 (b : Int)).toNat : Int) = _
  have : (BitVec.ofInt 32 (a : Int) ||| BitVec.ofInt 32 (b : Int)).toNat = a ||| b := by
    rw [BitVec.ofInt_natCast, BitVec.ofInt_natCast, BitVec.toNat_or, BitVec.toNat_ofNat, BitVec.toNat_ofNat, Nat.mod_eq_of_lt ha, Nat.mod_eq_of_lt hb]
  rw [this, wrap_u32 _ h]
theorem ar_xor (a b : Nat) (ha : a < 2 ^ 32) (hb : b < 2 ^ 32) : ar .xor .u32 a b = ((a ^^^ b : Nat) : Int) := by
  have h : (a ^^^ b) < 2 ^ 32 := Nat.xor_lt_two_pow ha hb
  show IntKind.u32.wrap ((BitVec.ofInt 32 (a : Int) ^^^ BitVec.ofInt 32 (b : Int)).toNat : Int) = _
  have : (BitVec.ofInt 32 (a : Int) ^^^ BitVec.ofInt 32 (b : Int)).toNat = a ^^^ b := by
    rw [BitVec.ofInt_natCast, BitVec.ofInt_natCast, BitVec.toNat_xor, BitVec.toNat_ofNat, BitVec.toNat_ofNat, Nat.mod_eq_of_lt ha, Nat.mod_eq_of_lt hb]
  rw [this, wrap_u32 _ h]
/-- a without b. -/
def nandN (a b : Nat) : Nat := a &&& (b ^^^ (2 ^ 32 - 1))
theorem ar_andNot (a b : Nat) (ha : a < 2 ^ 32) : ar .andNot .u32 a b = ((nandN a b : Nat) : Int) := by
  have h : nandN a b < 2 ^ 32 := Nat.lt_of_le_of_lt Nat.and_le_left ha
  show IntKind.u32.wrap ((BitVec.ofInt 32 (a : Int) &&& ~~~ BitVec.ofInt 32 (b : Int)).toNat : Int) = _
  have : (BitVec.ofInt 32 (a : Int) &&& ~~~ BitVec.ofInt 32 (b : Int)).toNat = nandN a b := by
    rw [BitVec.ofInt_natCast, BitVec.ofInt_natCast]
    apply Nat.eq_of_testBit_eq
    intro i
    rw [nandN, Nat.testBit_and, Nat.testBit_xor, Nat.testBit_two_pow_sub_one, ← BitVec.getLsbD, BitVec.getLsbD_and, BitVec.getLsbD_not, BitVec.getLsbD_ofNat, BitVec.getLsbD_ofNat]
    by_cases hi : i < 32
    · simp [hi]
    · have : a.testBit i = false := Nat.testBit_lt_two_pow (Nat.lt_of_lt_of_le ha (Nat.pow_le_pow_right (by omega) (by omega)))
      simp [hi, this]
  rw [this, wrap_u32 _ h]
theorem testBit_nandN (a b i : Nat) (ha : a < 2 ^ 32) : (nandN a b).testBit i = (a.testBit i && !b.testBit i) := by
  rw [nandN, Nat.testBit_and, Nat.testBit_xor, Nat.testBit_two_pow_sub_one]
  by_cases hi : i < 32
  · simp [hi]
  · have : a.testBit i = false := Nat.testBit_lt_two_pow (Nat.lt_of_lt_of_le ha (Nat.pow_le_pow_right (by omega) (by omega)))
    simp [this]
theorem ar_shr (a f : Nat) (hf : f < 32) : ar .shr .u32 a f = ((a >>> f : Nat) : Int) := by
  show Int.fdiv (a : Int) (2 ^ (min (f : Int).toNat IntKind.u32.bits)) = _
  have h1 : min (f : Int).toNat IntKind.u32.bits = f := by simp [IntKind.bits]; omega
  rw [h1, Nat.shiftRight_eq_div_pow, Int.fdiv_eq_ediv_of_nonneg _ (Int.pow_nonneg (by decide))]
  norm_cast
theorem ar_shl1 (f : Nat) (hf : f < 32) : ar .shl .u32 1 f = ((2 ^ f : Nat) : Int) := by
  show IntKind.u32.wrap (1 * 2 ^ (min (f : Int).toNat IntKind.u32.bits)) = _
  have h1 : min (f : Int).toNat IntKind.u32.bits = f := by simp [IntKind.bits]; omega
  rw [h1, Int.one_mul, show ((2 : Int) ^ f) = ((2 ^ f : Nat) : Int) by norm_cast, wrap_u32 _ (Nat.pow_lt_pow_right (by omega) hf)]
/-- '(s >> f) & 1'. -/
theorem ar_bit (a f : Nat) (ha : a < 2 ^ 32) (hf : f < 32) : ar .and .u32 (ar .shr .u32 a f) 1 = ((a.testBit f).toNat : Int) := by
  rw [ar_shr a f hf]
  have h1 : a >>> f < 2 ^ 32 := Nat.lt_of_le_of_lt (Nat.shiftRight_le a f) ha
  have := ar_and (a >>> f) 1 h1 (by omega)
  rw [show ((1 : Nat) : Int) = 1 from rfl] at this
  rw [this]
  congr 1
  rw [Nat.and_one_is_mod, Nat.testBit_eq_decide_div_mod_eq, Nat.shiftRight_eq_div_pow]
  rcases Nat.mod_two_eq_zero_or_one (a / 2 ^ f) with h | h <;> simp [h]
/-! The lowest set bit. -/
def tab : List Int := [0, 1, 28, 2, 29, 14, 24, 3, 30, 22, 20, 15, 25, 17, 4, 8, 31, 27, 13, 23, 21, 19, 16, 7, 26, 12, 18, 6, 11, 5, 10, 9]
theorem low_and (k m : Nat) (h : 2 ^ k * (2 * m + 1) < 2 ^ 32) : (2 ^ k * (2 * m + 1)) &&& (2 ^ 32 - 2 ^ k * (2 * m + 1)) = 2 ^ k := by
  have hk : 0 < 2 ^ k := Nat.two_pow_pos k
  have hn : 2 ^ k * (2 * m + 1) = (2 ^ k * (2 * m) + (2 ^ k - 1)) + 1 := by rw [Nat.mul_add]; omega
  have hk32 : k < 32 := by
    rcases Nat.lt_or_ge k 32 with h' | h'
    · exact h'
    · have := Nat.pow_le_pow_right (n := 2) (by omega) h'
      have h3 : 2 ^ k ≤ 2 ^ k * (2 * m + 1) := Nat.le_mul_of_pos_right _ (by omega)
      omega
  apply Nat.eq_of_testBit_eq
  intro i
  rw [Nat.testBit_and]
  conv => lhs; rhs; rw [hn, Nat.testBit_two_pow_sub_succ (by rw [hn] at h; omega)]
  rw [Nat.testBit_two_pow_mul_add _ (by omega), Nat.testBit_two_pow_sub_one, Nat.testBit_two_pow, Nat.testBit_two_pow_mul]
  rcases Nat.lt_trichotomy i k with hi | rfl | hi
  · have : ¬ i ≥ k := by omega
    simp [this, hi]; omega
  · simp [hk32, Nat.mul_comm 2 m]
  · have h1 : ¬ i < k := by omega
    have h2 : i ≥ k := by omega
    obtain ⟨j, hj⟩ : ∃ j, i - k = j + 1 := ⟨i - k - 1, by omega⟩
    have h3 : (2 * m + 1).testBit (i - k) = m.testBit j := by rw [hj, Nat.testBit_succ]; congr 1; omega
    have h4 : (2 * m).testBit (i - k) = m.testBit j := by rw [hj, Nat.testBit_succ]; congr 1; omega
    have h5 : k ≠ i := by omega
    simp only [h1, h2, h3, h4, h5, if_false, decide_true, decide_false, Bool.true_and]
    cases m.testBit j <;> simp
/-- Every number that is not 0 has a lowest bit. -/
theorem low_ex (n : Nat) (h : 0 < n) : ∃ k m, n = 2 ^ k * (2 * m + 1) := by
  induction n using Nat.strongRecOn with
  | _ n ih =>
    rcases Nat.mod_two_eq_zero_or_one n with h0 | h1
    · obtain ⟨k, m, hk⟩ := ih (n / 2) (by omega) (by omega)
      exact ⟨k + 1, m, by rw [Nat.pow_succ, Nat.mul_comm (2 ^ k) 2, Nat.mul_assoc, ← hk]; omega⟩
    · exact ⟨0, n / 2, by omega⟩
theorem tab_low (k : Nat) (hk : k < 32) : tab.getD ((2 ^ k * 125613361 % 2 ^ 32) >>> 27) 0 = (k : Int) := by
  revert k; decide
theorem ar_neg (n : Nat) (h0 : 0 < n) (h : n < 2 ^ 32) : ar .sub .u32 0 (n : Int) = ((2 ^ 32 - n : Nat) : Int) := by
  show IntKind.u32.wrap (0 - (n : Int)) = _
  unfold IntKind.wrap
  simp [IntKind.signed, IntKind.bits]
  omega
theorem ar_mul (a b : Nat) : ar .mul .u32 (a : Int) (b : Int) = ((a * b % 2 ^ 32 : Nat) : Int) := by
  show IntKind.u32.wrap ((a : Int) * b) = _
  unfold IntKind.wrap
  simp [IntKind.signed, IntKind.bits]
/-- The index that 'TrailingZeros32' takes. -/
theorem tz_ix (k m : Nat) (h : 2 ^ k * (2 * m + 1) < 2 ^ 32) :
    ar .shr .u32 (ar .mul .u32 (ar .and .u32 ((2 ^ k * (2 * m + 1) : Nat) : Int) (ar .sub .u32 0 ((2 ^ k * (2 * m + 1) : Nat) : Int))) 125613361) 27 = (((2 ^ k * 125613361 % 2 ^ 32) >>> 27 : Nat) : Int) := by
  have h0 : 0 < 2 ^ k * (2 * m + 1) := Nat.mul_pos (Nat.two_pow_pos k) (by omega)
  rw [ar_neg _ h0 h, ar_and _ _ h (by omega), low_and k m h]
  rw [show (125613361 : Int) = ((125613361 : Nat) : Int) from rfl, ar_mul]
  exact ar_shr _ 27 (by omega)
/-! Counters. -/
theorem wrap_i64 {n : Int} (h1 : -9223372036854775808 ≤ n) (h2 : n ≤ 9223372036854775807) : IntKind.i64.wrap n = n := by
  unfold IntKind.wrap
  simp [IntKind.signed, IntKind.bits]
  omega
theorem add_i64 (n : Nat) (h : n < 9223372036854775807) : ar .add .i64 (n : Int) 1 = ((n + 1 : Nat) : Int) := by
  show IntKind.i64.wrap _ = _
  rw [wrap_i64 (by omega) (by omega)]; simp
theorem addI {a b : Int} (h1 : -9223372036854775808 ≤ a + b) (h2 : a + b ≤ 9223372036854775807) : ar .add .i64 a b = a + b := wrap_i64 h1 h2
theorem subI {a b : Int} (h1 : -9223372036854775808 ≤ a - b) (h2 : a - b ≤ 9223372036854775807) : ar .sub .i64 a b = a - b := wrap_i64 h1 h2
theorem mulI {a b : Int} (h1 : -9223372036854775808 ≤ a * b) (h2 : a * b ≤ 9223372036854775807) : ar .mul .i64 a b = a * b := wrap_i64 h1 h2
theorem bit_eq (p f : Nat) (hp : p < 2 ^ 32) (hf : f < 32) : cm .eql (ar .and .u32 (ar .shr .u32 (p : Int) (f : Int)) 1) 1 = p.testBit f := by
  rw [ar_bit p f hp hf]
  cases p.testBit f <;> rfl
end Go.Sy
/- Sounds in plain Lean: two sets of features as numbers; their bits. -/
namespace Go.Sy
open Go
abbrev Snd := Nat × Nat
def Sok (s : Snd) : Prop := s.1 < 2 ^ 32 ∧ s.2 < 2 ^ 32
def snd (s : Snd) : Value := .agg #[.int .u32 s.1, .int .u32 s.2]
/-- Is a sound valid? -/
def valid (s : Snd) : Bool := (s.1 &&& s.2 == 0) && decide (s.1 ||| s.2 ≤ 16777215)
theorem valid_iff (s : Snd) : valid s = true ↔ (∀ i, ¬ (s.1.testBit i = true ∧ s.2.testBit i = true)) ∧ s.1 < 2 ^ 24 ∧ s.2 < 2 ^ 24 := by
  unfold valid
  rw [Bool.and_eq_true, beq_iff_eq, decide_eq_true_eq]
  constructor
  · rintro ⟨h0, h1⟩
    refine ⟨fun i hi => ?_, ?_, ?_⟩
    · have := congrArg (·.testBit i) h0
      simp [Nat.testBit_and, hi.1, hi.2] at this
    · have := Nat.left_le_or (n := s.1) (m := s.2); omega
    · have := Nat.right_le_or (n := s.1) (m := s.2); omega
  · rintro ⟨h0, h1, h2⟩
    refine ⟨Nat.eq_of_testBit_eq fun i => ?_, ?_⟩
    · have := h0 i
      rw [Nat.testBit_and, Nat.zero_testBit]
      cases h : s.1.testBit i <;> cases h' : s.2.testBit i <;> simp [h, h'] at this ⊢
    · have := Nat.or_lt_two_pow h1 h2; omega
theorem bit_big {a n i : Nat} (h : a < 2 ^ n) (hi : n ≤ i) : a.testBit i = false := Nat.testBit_lt_two_pow (Nat.lt_of_lt_of_le h (Nat.pow_le_pow_right (by omega) hi))
theorem lt_of_bits {a n : Nat} (h : ∀ i, n ≤ i → a.testBit i = false) : a < 2 ^ n := Nat.lt_pow_two_of_testBit _ h
theorem Sok.of_valid {s : Snd} (h : valid s = true) : Sok s := by
  obtain ⟨_, h1, h2⟩ := (valid_iff s).1 h
  exact ⟨by omega, by omega⟩
/-- The value of a feature. -/
def getV (s : Snd) (f : Int) : Int := if valid s = true ∧ 0 ≤ f ∧ f < 24 then ((s.1.testBit f.toNat).toNat : Int) - ((s.2.testBit f.toNat).toNat : Int) else 0
theorem getV_bit {s : Snd} (hv : valid s = true) {f : Nat} (hf : f < 24) : getV s f = ((s.1.testBit f).toNat : Int) - ((s.2.testBit f).toNat : Int) := by
  unfold getV
  rw [if_pos ⟨hv, by omega, by omega⟩]; simp
theorem getV_one {s : Snd} (hv : valid s = true) {f : Nat} (hf : f < 24) : s.1.testBit f = (getV s f == 1) ∧ s.2.testBit f = (getV s f == -1) := by
  have h := ((valid_iff s).1 hv).1 f
  rw [getV_bit hv hf]
  cases h1 : s.1.testBit f <;> cases h2 : s.2.testBit f <;> simp [h1, h2] at h ⊢ <;> decide
theorem getV_range (s : Snd) (f : Int) : getV s f = 0 ∨ getV s f = 1 ∨ getV s f = -1 := by
  unfold getV
  split
  · cases s.1.testBit f.toNat <;> cases s.2.testBit f.toNat <;> simp
  · exact .inl rfl
/-- With another value of a feature. -/
def putS (s : Snd) (f : Nat) (v : Int) : Snd := (if v = 1 then nandN s.1 (2 ^ f) ||| 2 ^ f else nandN s.1 (2 ^ f), if v = -1 then nandN s.2 (2 ^ f) ||| 2 ^ f else nandN s.2 (2 ^ f))
theorem nandN_lt {a b n : Nat} (h : a < 2 ^ n) : nandN a b < 2 ^ n := Nat.lt_of_le_of_lt Nat.and_le_left h
theorem pow_lt32 {f : Nat} (hf : f < 32) : 2 ^ f < 2 ^ 32 := Nat.pow_lt_pow_right (by omega) hf
theorem putS_ok {s : Snd} (h : Sok s) {f : Nat} (hf : f < 32) (v : Int) : Sok (putS s f v) := by
  have h1 := nandN_lt (b := 2 ^ f) h.1
  have h2 := nandN_lt (b := 2 ^ f) h.2
  have h3 := pow_lt32 hf
  unfold putS Sok
  constructor <;> dsimp only <;> split <;> first | exact Nat.or_lt_two_pow ‹_› ‹_› | assumption
theorem putS_bit {s : Snd} (h : Sok s) {f : Nat} (v : Int) (g : Nat) : (putS s f v).1.testBit g = (if g = f then v == 1 else s.1.testBit g) ∧ (putS s f v).2.testBit g = (if g = f then v == -1 else s.2.testBit g) := by
  have key : ∀ (a : Nat) (b : Bool), a < 2 ^ 32 → ((if b = true then nandN a (2 ^ f) ||| 2 ^ f else nandN a (2 ^ f)) : Nat).testBit g = if g = f then b else a.testBit g := fun a b ha => by
    have hn := testBit_nandN a (2 ^ f) g ha
    rw [Nat.testBit_two_pow] at hn
    cases b <;> simp only [Bool.false_eq_true, if_false, if_true, Nat.testBit_or, hn, Nat.testBit_two_pow] <;> by_cases e : f = g <;> simp [e, eq_comm]
    all_goals (intro h; exact absurd h.symm e)
  unfold putS
  have k1 := key s.1 (v == 1) h.1
  have k2 := key s.2 (v == -1) h.2
  simp only [beq_iff_eq] at k1 k2
  exact ⟨k1, k2⟩
/-- The features of a set as in another sound. -/
def mixS (s t : Snd) (x : Nat) : Snd := (nandN s.1 x ||| (t.1 &&& x), nandN s.2 x ||| (t.2 &&& x))
theorem mixS_ok {s t : Snd} {x n : Nat} (h : s.1 < 2 ^ n ∧ s.2 < 2 ^ n) (h' : t.1 < 2 ^ n ∧ t.2 < 2 ^ n) : (mixS s t x).1 < 2 ^ n ∧ (mixS s t x).2 < 2 ^ n :=
  ⟨Nat.or_lt_two_pow (nandN_lt h.1) (Nat.lt_of_le_of_lt Nat.and_le_left h'.1), Nat.or_lt_two_pow (nandN_lt h.2) (Nat.lt_of_le_of_lt Nat.and_le_left h'.2)⟩
theorem mixS_bit {s t : Snd} (h : Sok s) (x g : Nat) : (mixS s t x).1.testBit g = (if x.testBit g = true then t.1.testBit g else s.1.testBit g) ∧ (mixS s t x).2.testBit g = (if x.testBit g = true then t.2.testBit g else s.2.testBit g) := by
  unfold mixS
  simp only [Nat.testBit_or, Nat.testBit_and, testBit_nandN _ _ _ h.1, testBit_nandN _ _ _ h.2]
  cases x.testBit g <;> simp
theorem mixS_put {s : Snd} {f : Nat} {v : Int} (hv : v = 0 ∨ v = 1 ∨ v = -1) : mixS s (if v > 0 then 2 ^ f else 0, if v < 0 then 2 ^ f else 0) (2 ^ f) = putS s f v := by
  unfold mixS putS
  rcases hv with rfl | rfl | rfl <;> simp
theorem Snd.ext {s t : Snd} (h1 : ∀ g, s.1.testBit g = t.1.testBit g) (h2 : ∀ g, s.2.testBit g = t.2.testBit g) : s = t :=
  Prod.ext (Nat.eq_of_testBit_eq h1) (Nat.eq_of_testBit_eq h2)
/-- out is T below feature f, and init from f on. -/
def Upto (out T init : Snd) (f : Nat) : Prop := Sok out ∧ ∀ g, out.1.testBit g = (if g < f then T.1.testBit g else init.1.testBit g) ∧ out.2.testBit g = (if g < f then T.2.testBit g else init.2.testBit g)
theorem Upto.start {T init : Snd} (h : Sok init) : Upto init T init 0 := ⟨h, fun g => by simp⟩
theorem Upto.put {out T init : Snd} {f : Nat} {v : Int} (h : Upto out T init f) (hf : f < 32) (h1 : T.1.testBit f = (v == 1)) (h2 : T.2.testBit f = (v == -1)) : Upto (putS out f v) T init (f + 1) := by
  refine ⟨putS_ok h.1 hf v, fun g => ?_⟩
  obtain ⟨p1, p2⟩ := putS_bit h.1 (f := f) v g
  obtain ⟨q1, q2⟩ := h.2 g
  rw [p1, p2]
  rcases Nat.lt_trichotomy g f with hg | rfl | hg
  · have e1 : ¬ g = f := by omega
    have e2 : g < f + 1 := by omega
    simp [e1, e2, hg, q1, q2]
  · simp [h1, h2]
  · have e1 : ¬ g = f := by omega
    have e2 : ¬ g < f + 1 := by omega
    have e3 : ¬ g < f := by omega
    simp [e1, e2, e3, q1, q2]
theorem Upto.keep {out T init : Snd} {f : Nat} (h : Upto out T init f) (h1 : T.1.testBit f = init.1.testBit f) (h2 : T.2.testBit f = init.2.testBit f) : Upto out T init (f + 1) := by
  refine ⟨h.1, fun g => ?_⟩
  obtain ⟨q1, q2⟩ := h.2 g
  rw [q1, q2]
  rcases Nat.lt_trichotomy g f with hg | rfl | hg
  · have e2 : g < f + 1 := by omega
    simp [e2, hg]
  · simp [h1, h2]
  · have e2 : ¬ g < f + 1 := by omega
    have e3 : ¬ g < f := by omega
    simp [e2, e3]
theorem Upto.end {out T init : Snd} {f : Nat} (h : Upto out T init f) (h1 : ∀ g, f ≤ g → T.1.testBit g = init.1.testBit g) (h2 : ∀ g, f ≤ g → T.2.testBit g = init.2.testBit g) : out = T := by
  refine Snd.ext (fun g => ?_) (fun g => ?_)
  · rw [(h.2 g).1]; split
    · rfl
    · rw [h1 g (by omega)]
  · rw [(h.2 g).2]; split
    · rfl
    · rw [h2 g (by omega)]
/-! The functions. -/
def withS (s : Snd) (f v : Int) : Snd × Int := if valid s = false then ((0, 0), 14) else if f < 0 ∨ f ≥ 24 then ((0, 0), 3) else if v < -1 ∨ v > 1 then ((0, 0), 2) else (putS s f.toNat v, 0)
def satS (s c : Snd) : Bool := valid s && valid c && (nandN c.1 s.1 == 0) && (nandN c.2 s.2 == 0)
def joinS (a b : Snd) : Snd := (a.1 ||| b.1, a.2 ||| b.2)
def unifyS (a b : Snd) : Snd × Bool := if valid a && valid b && valid (joinS a b) then (joinS a b, true) else ((0, 0), false)
def meetS (a b : Snd) : Snd := if valid a && valid b then (a.1 &&& b.1, a.2 &&& b.2) else (0, 0)
def diffS (a b : Snd) : Nat := if valid a && valid b then (a.1 ^^^ b.1) ||| (a.2 ^^^ b.2) else 0
def takeS (s t : Snd) (x : Nat) : Snd × Int := if valid s = false ∨ valid t = false then ((0, 0), 14) else if x > 16777215 then ((0, 0), 2) else (mixS s t x, 0)
def changeS (s : Snd) (x : Nat) (t : Snd) : Snd × Int := if valid s = false ∨ valid t = false then ((0, 0), 14) else if x > 16777215 ∨ x &&& (t.1 ||| t.2) ≠ 0 then ((0, 0), 2) else (mixS s t (x ||| (t.1 ||| t.2)), 0)
def cmpN (a b : Nat) : Int := if a < b then -1 else if a > b then 1 else 0
def orderS (a b : Snd) : Int := if cmpN a.1 b.1 ≠ 0 then cmpN a.1 b.1 else cmpN a.2 b.2
theorem satS_iff {s c : Snd} (hs : valid s = true) (hc : valid c = true) : satS s c = true ↔ ∀ f : Nat, f < 24 → getV c f ≠ 0 → getV s f = getV c f := by
  have bs := (valid_iff s).1 hs
  have bc := (valid_iff c).1 hc
  have h32 := Sok.of_valid hc
  have key : ∀ (a b : Nat), a < 2 ^ 24 → (nandN a b = 0 ↔ ∀ f, f < 24 → a.testBit f = true → b.testBit f = true) := fun a b ha => by
    have hb : ∀ i, (nandN a b).testBit i = (a.testBit i && !b.testBit i) := fun i => testBit_nandN a b i (by omega)
    constructor
    · intro h f hf h1
      have := hb f
      rw [h, Nat.zero_testBit, h1] at this
      simpa using this.symm
    · intro h
      apply Nat.eq_of_testBit_eq
      intro i
      rw [hb, Nat.zero_testBit]
      rcases Nat.lt_or_ge i 24 with hi | hi
      · cases h1 : a.testBit i
        · rfl
        · rw [h i hi h1]; rfl
      · rw [bit_big ha hi]; rfl
  unfold satS
  rw [hs, hc]
  simp only [Bool.true_and, Bool.and_eq_true, beq_iff_eq, key _ _ bc.2.1, key _ _ bc.2.2]
  constructor
  · rintro ⟨h1, h2⟩ f hf hne
    have q1 := h1 f hf; have q2 := h2 f hf
    have o := bs.1 f; have o' := bc.1 f
    rw [getV_bit hc hf] at hne ⊢
    rw [getV_bit hs hf]
    cases e1 : c.1.testBit f <;> cases e2 : c.2.testBit f <;> cases e3 : s.1.testBit f <;> cases e4 : s.2.testBit f <;> simp_all
  · intro h
    refine ⟨fun f hf h1 => ?_, fun f hf h1 => ?_⟩ <;>
    · have q := h f hf
      have o := bs.1 f; have o' := bc.1 f
      rw [getV_bit hc hf, getV_bit hs hf] at q
      cases e1 : c.1.testBit f <;> cases e2 : c.2.testBit f <;> cases e3 : s.1.testBit f <;> cases e4 : s.2.testBit f <;> simp_all
end Go.Sy
/- Bundles of equations, for short calls of simp. -/
namespace Go.Sy
open Go
def gI : Option U → Int | some (.i n) => n | _ => 0
def gB : Option U → Bool | some (.b n) => n | _ => false
def gV : Option U → Value | some (.v n) => n | _ => .nilFunc
def gP : Option U → Option Addr | some (.p n) => n | _ => none
theorem evE : (∀ ρ n, IT.eval ρ (.lit n) = n) ∧ (∀ ρ i, IT.eval ρ (.var i) = Env.int ρ i) ∧ (∀ ρ op k x y, IT.eval ρ (.bin op k x y) = ar op k (x.eval ρ) (y.eval ρ)) ∧ (∀ ρ k x, IT.eval ρ (.conv k x) = k.wrap (x.eval ρ)) ∧ (∀ ρ x y, IT.eval ρ (.mn x y) = if y.eval ρ < x.eval ρ then y.eval ρ else x.eval ρ)
    ∧ (∀ ρ x y, IT.eval ρ (.mx x y) = if y.eval ρ > x.eval ρ then y.eval ρ else x.eval ρ) ∧ (∀ ρ x (s : Nat) b, IT.eval ρ (.off x s b) = b.eval ρ + x.eval ρ * s) ∧ (∀ ρ x y, IT.eval ρ (.dif x y) = x.eval ρ - y.eval ρ) ∧ (∀ ρ a b x y, IT.eval ρ (.ifeq a b x y) = if a.eval ρ = b.eval ρ then x.eval ρ else y.eval ρ)
    ∧ (∀ ρ b, BT.eval ρ (.lit b) = b) ∧ (∀ ρ i, BT.eval ρ (.var i) = Env.bool ρ i) ∧ (∀ ρ op x y, BT.eval ρ (.cmp op x y) = cm op (x.eval ρ) (y.eval ρ)) ∧ (∀ ρ x, BT.eval ρ (.not x) = !x.eval ρ) ∧ (∀ ρ c x y, BT.eval ρ (.pick c x y) = bif c.eval ρ then x.eval ρ else y.eval ρ) ∧ (∀ ρ x y, BT.eval ρ (.beq x y) = (x.eval ρ == y.eval ρ)) ∧ (∀ ρ i, BT.eval ρ (.some i) = (Env.ptr ρ i).isSome)
    ∧ (∀ ρ i, Env.int ρ i = gI ρ[i]?) ∧ (∀ ρ i, Env.bool ρ i = gB ρ[i]?) ∧ (∀ ρ i, Env.val ρ i = gV ρ[i]?) ∧ (∀ ρ i, Env.ptr ρ i = gP ρ[i]?) ∧ (∀ n, gI (some (.i n)) = n) ∧ (∀ n, gB (some (.b n)) = n) ∧ (∀ n, gV (some (.v n)) = n) ∧ (∀ n, gP (some (.p n)) = n)
    ∧ (∀ L ρ, SV.den L ρ .undef = Go.undef) ∧ (∀ L ρ, SV.den L ρ .junk = Go.undef) ∧ (∀ L ρ k t, SV.den L ρ (.int k t) = .int k (t.eval ρ)) ∧ (∀ L ρ t, SV.den L ρ (.bool t) = .bool (t.eval ρ)) ∧ (∀ L ρ i, SV.den L ρ (.val i) = Env.val ρ i) ∧ (∀ L ρ b off, SV.den L ρ (.loc b off) = .pointer (some ⟨L.getD b 0, off, none⟩))
    ∧ (∀ L ρ b off len cap, SV.den L ρ (.slc b off len cap) = .slice (some ⟨L.getD b 0, off, none⟩) len cap) ∧ (∀ L ρ i off, SV.den L ρ (.ptr i off) = .pointer (atAddr ρ i (off.eval ρ))) ∧ (∀ L ρ i off len cap, SV.den L ρ (.sl i off len cap) = .slice (atAddr ρ i (off.eval ρ)) (len.eval ρ).toNat (cap.eval ρ).toNat)
    ∧ (∀ L ρ l, SV.den L ρ (.agg l) = .agg (SV.dens L ρ l).toArray) ∧ (∀ L ρ l, SV.den L ρ (.tup l) = .tuple (SV.dens L ρ l).toArray) ∧ (∀ L ρ f a b, SV.den L ρ (.fn f a b) = .func f (SV.dens L ρ a).toArray (SV.dens L ρ b).toArray) ∧ (∀ L ρ v, SV.den L ρ (.cst v) = v) ∧ (∀ L ρ g x, SV.den L ρ (.grd g x) = bif g.eval ρ then x.den L ρ else Go.undef)
    ∧ (∀ L ρ, SV.dens L ρ [] = []) ∧ (∀ L ρ x l, SV.dens L ρ (x :: l) = x.den L ρ :: SV.dens L ρ l) :=
  ⟨fun _ _ => rfl, fun _ _ => rfl, fun _ _ _ _ _ => rfl, fun _ _ _ => rfl, fun _ _ _ => rfl, fun _ _ _ => rfl, fun _ _ _ _ => rfl, fun _ _ _ => rfl, fun _ _ _ _ _ => rfl, fun _ _ => rfl, fun _ _ => rfl, fun _ _ _ _ => rfl, fun _ _ => rfl, fun _ _ _ _ => rfl, fun _ _ _ => rfl, fun _ _ => rfl, fun _ _ => rfl, fun _ _ => rfl, fun _ _ => rfl, fun _ _ => rfl, fun _ => rfl, fun _ => rfl, fun _ => rfl, fun _ => rfl, fun _ _ => rfl, fun _ _ => rfl, fun _ _ _ _ => rfl, fun _ _ _ => rfl, fun _ _ _ => rfl, fun _ _ _ _ => rfl, fun _ _ _ _ _ _ => rfl, fun _ _ _ _ => rfl, fun _ _ _ _ _ _ => rfl, fun _ _ _ => rfl, fun _ _ _ => rfl, fun _ _ _ _ _ => rfl, fun _ _ _ => rfl, fun _ _ _ _ => rfl, fun _ _ => rfl, fun _ _ _ _ => rfl⟩
theorem liE : (∀ {α β : Type} (f : α → List β) x xs, List.flatMap f (x :: xs) = f x ++ List.flatMap f xs) ∧ (∀ {α β : Type} (f : α → List β), List.flatMap f [] = []) ∧ (∀ {α : Type} (a : α) (as bs : List α), a :: as ++ bs = a :: (as ++ bs)) ∧ (∀ {α : Type} (as : List α), [] ++ as = as) ∧ (∀ {α : Type} (as bs cs : List α), as ++ bs ++ cs = as ++ (bs ++ cs))
    ∧ (∀ {α : Type} (a : α) (as : List α), (a :: as)[0]? = some a) ∧ (∀ {α : Type} (a : α) (as : List α) (i : Nat), (a :: as)[i + 1]? = as[i]?) :=
  ⟨fun _ _ _ => List.flatMap_cons, fun _ => rfl, fun _ _ _ => rfl, fun _ => rfl, fun _ _ _ => List.append_assoc .., fun _ _ => rfl, fun _ _ _ => rfl⟩
theorem cmE : (∀ x y : Int, cm .eql x y = (x == y)) ∧ (∀ x y : Int, cm .neq x y = (x != y)) ∧ (∀ x y : Int, cm .lss x y = decide (x < y)) ∧ (∀ x y : Int, cm .leq x y = decide (x ≤ y)) ∧ (∀ x y : Int, cm .gtr x y = decide (x > y)) ∧ (∀ x y : Int, cm .geq x y = decide (x ≥ y))
    ∧ (∀ {α : Type} (a b : α), cond true a b = a) ∧ (∀ {α : Type} (a b : α), cond false a b = b) ∧ (∀ c y : Bool, (bif c then true else y) = (c || y)) ∧ (∀ c x : Bool, (bif c then x else false) = (c && x))
    ∧ (∀ a b : Bool, ((a || b) = true) = (a = true ∨ b = true)) ∧ (∀ a b : Bool, ((a && b) = true) = (a = true ∧ b = true)) ∧ (∀ x y : Bool, ((x || y) = false) ↔ x = false ∧ y = false) ∧ (∀ x y : Bool, ((x && y) = false) ↔ x = false ∨ y = false) ∧ (∀ b : Bool, ((!b) = true) = (b = false)) ∧ (∀ b : Bool, ((!b) = false) = (b = true))
    ∧ (∀ (p : Prop) [Decidable p], (decide p = true) = p) ∧ (∀ (p : Prop) [Decidable p], (decide p = false) ↔ ¬ p) ∧ (∀ a b : Int, ((a == b) = true) ↔ a = b) ∧ (∀ a b : Int, ((a == b) = false) ↔ a ≠ b) ∧ (∀ a b : Bool, ((a == b) = true) ↔ a = b) ∧ (∀ a b : Bool, ((a == b) = false) ↔ a ≠ b) ∧ (∀ a b : Int, ((a != b) = true) ↔ a ≠ b) ∧ (∀ a b : Int, ((a != b) = false) ↔ a = b)
    ∧ (∀ a b : Int, (a ≥ b) ↔ b ≤ a) ∧ (∀ a b : Int, (a > b) ↔ b < a) ∧ (∀ a b : Int, (¬ a < b) ↔ b ≤ a) ∧ (∀ a b : Int, (¬ a ≤ b) ↔ b < a) :=
  ⟨fun _ _ => rfl, fun _ _ => rfl, fun _ _ => rfl, fun _ _ => rfl, fun _ _ => rfl, fun _ _ => rfl, fun _ _ => rfl, fun _ _ => rfl, pick_or, pick_and, Bool.or_eq_true, Bool.and_eq_true, fun _ _ => Bool.or_eq_false_iff, fun _ _ => Bool.and_eq_false_iff, fun b => by cases b <;> simp, fun b => by cases b <;> simp, fun _ => decide_eq_true_eq, fun _ => decide_eq_false_iff_not, fun _ _ => beq_iff_eq, fun _ _ => beq_eq_false_iff_ne, fun _ _ => beq_iff_eq, fun _ _ => beq_eq_false_iff_ne, fun _ _ => bne_iff_ne, fun _ _ => bne_eq_false_iff_eq, fun _ _ => Iff.rfl, fun _ _ => Iff.rfl, fun _ _ => Int.not_lt, fun _ _ => Int.not_le⟩
end Go.Sy
/- Slices' cells; costs; the features of a set, in plain Lean. -/
namespace Go.Sy
open Go
/-- A slice's value. -/
def slv (p : Option Addr) (n cap : Nat) : Value := .slice (p.map fun a => a.add 0) n cap
theorem slv_eq (p : Option Addr) (n cap : Nat) : slv p n cap = .slice p n cap := by unfold slv; cases p <;> simp [addr_zero]
theorem map_add0 (p : Option Addr) : p.map (fun a => a.add (Int.toNat 0)) = p := by cases p <;> simp [addr_zero]
/-- From p on the cells read xs. -/
def Cells (R : Mv) (p : Option Addr) (xs : List Value) : Prop := ∀ (i : Nat) x, xs[i]? = some x → ∃ b o, p = some ⟨b, o, none⟩ ∧ R b (o + i) = some x
theorem Cells.mono {R S : Mv} {p : Option Addr} {xs : List Value} (h : Cells R p xs) (hle : R.le S) : Cells S p xs := fun i x hx => let ⟨b, o, h1, h2⟩ := h i x hx; ⟨b, o, h1, hle _ _ _ h2⟩
theorem Cells.some {R : Mv} {p : Option Addr} {xs : List Value} (h : Cells R p xs) {i : Nat} (hi : i < xs.length) : ∃ b o, p = some ⟨b, o, none⟩ := let ⟨b, o, h1, _⟩ := h i _ (List.getElem?_eq_getElem hi); ⟨b, o, h1⟩
section
variable {P : Program} {c : Cx} {L : List Nat} {ρ : Env} {blks : List Blk} {m : Mem} {R : Value → HW → Prop} {Dn : Nat → List U → HW → Prop} {A : List (List U → HW → Prop)}
/-- A load of a slice's cells. -/
theorem DenM.loadC {i : Nat} {off : IT} {sh : List Sh} {k : Tree} (us : List U) (p : Option Addr) (xs : List Value) (j : Nat) (hp : ρ.ptr i = p) (ho : off.eval ρ = j) (hus : Sh.eats sh us = some []) (hc : Good c L m → Cells (vw c L ρ blks m) p xs) (hj : j < xs.length)
    (hx : ∀ (q : Nat) v, (SV.dens L (ρ ++ us) (Sh.freshs sh ρ.length).1)[q]? = some v → xs[j + q]? = some v) (hk : DenM P R Dn k L (ρ ++ us) c m A) : DenM P R Dn (.load i off sh blks k) L ρ c m A := fun g => by
  obtain ⟨b, o, hpe⟩ := (hc g).some hj
  refine DenM.load us b (o + j) (usOk_of hus) ?_ (fun g q v hv => ?_) hk g
  · simp [atAddr, hp, hpe, ho, addr_add]
  · obtain ⟨b', o', h1, h2⟩ := hc g (j + q) v (hx q v hv)
    rw [hpe] at h1; cases h1
    rw [Nat.add_assoc]; exact h2
/-- Of one cell. -/
theorem DenM.load1 {i : Nat} {off : IT} {s : Sh} {k : Tree} (v : Value) (p : Option Addr) (xs : List Value) (j : Nat) (hp : ρ.ptr i = p) (ho : off.eval ρ = j) (hc : Good c L m → Cells (vw c L ρ blks m) p xs) (hx : xs[j]? = some v)
    (hk : DenM P R Dn k L (ρ ++ letU v) c m A) (hus : Sh.eats [s] (letU v) = some [] := by rfl) (hv : SV.dens L (ρ ++ letU v) (Sh.freshs [s] ρ.length).1 = [v] := by rfl) : DenM P R Dn (.load i off [s] blks k) L ρ c m A :=
  DenM.loadC (letU v) p xs j hp ho hus hc (List.getElem?_eq_some_iff.1 hx).1 (fun q w hw => by
    rw [hv] at hw
    cases q with
    | zero => simp at hw; subst hw; exact hx
    | succ q => simp at hw) hk
end
/-! Costs. -/
def costs (p : Option Addr) (n cap : Nat) (gap : Int) : Value := .agg #[slv p n cap, .int .i64 gap]
def CostsAt (R : Mv) (p : Option Addr) (ws : List Int) : Prop := Cells R p (ws.map (.int .i64))
def badW (w : Int) : Bool := decide (w < 0) || decide (w > 1073741824)
def checkC (ws : List Int) (gap : Int) : Int := if ws.length > 24 ∨ gap < 0 ∨ gap > 1073741824 ∨ ws.any badW = true then 2 else 0
theorem checkC_zero {ws : List Int} {gap : Int} (h : checkC ws gap = 0) : ws.length ≤ 24 ∧ 0 ≤ gap ∧ gap ≤ 1073741824 ∧ ∀ w ∈ ws, 0 ≤ w ∧ w ≤ 1073741824 := by
  unfold checkC at h
  split at h
  · cases h
  · rename_i hn
    simp only [not_or, List.any_eq_true, not_exists, not_and] at hn
    refine ⟨by omega, by omega, by omega, fun w hw => ?_⟩
    have := hn.2.2.2 w hw
    simp [badW] at this
    omega
theorem checkC_range (ws : List Int) (gap : Int) : checkC ws gap = 2 ∨ checkC ws gap = 0 := by unfold checkC; split <;> simp
/-- The weights of the features in which two sounds differ. -/
def sumW (n : Nat) : List Int → Int
  | [] => 0
  | w :: ws => (if n.testBit 0 = true then w else 0) + sumW (n / 2) ws
theorem sumW_snoc (n : Nat) (ws : List Int) (w : Int) : sumW n (ws ++ [w]) = sumW n ws + if n.testBit ws.length = true then w else 0 := by
  induction ws generalizing n with
  | nil => simp [sumW]
  | cons x ws ih =>
    simp only [List.cons_append, sumW, ih, List.length_cons, Nat.testBit_succ]
    omega
theorem sumW_bound (n : Nat) (ws : List Int) (h : ∀ w ∈ ws, 0 ≤ w ∧ w ≤ 1073741824) : 0 ≤ sumW n ws ∧ sumW n ws ≤ 1073741824 * ws.length := by
  induction ws generalizing n with
  | nil => simp [sumW]
  | cons x ws ih =>
    have hx := h x (by simp)
    have := ih (n / 2) fun w hw => h w (by simp [hw])
    simp only [sumW, List.length_cons]
    split <;> omega
def distC (s t : Snd) (ws : List Int) (gap : Int) : Int × Int := if valid s = false ∨ valid t = false then (0, 14) else if checkC ws gap ≠ 0 then (0, checkC ws gap) else (sumW (diffS s t) ws, 0)
/-! The features of a set. -/
def bitsL (n : Nat) : List Nat := (List.range 32).filter fun i => n.testBit i
theorem bitsL_zero : bitsL 0 = [] := by decide
theorem clear_low (k m : Nat) : (2 ^ k * (2 * m + 1)) &&& (2 ^ k * (2 * m + 1) - 1) = 2 ^ k * (2 * m) := by
  have hk : 0 < 2 ^ k := Nat.two_pow_pos k
  have hn : 2 ^ k * (2 * m + 1) - 1 = 2 ^ k * (2 * m) + (2 ^ k - 1) := by rw [Nat.mul_add]; omega
  apply Nat.eq_of_testBit_eq
  intro i
  rw [Nat.testBit_and, hn, Nat.testBit_two_pow_mul_add _ (by omega), Nat.testBit_two_pow_mul, Nat.testBit_two_pow_mul, Nat.testBit_two_pow_sub_one]
  rcases Nat.lt_trichotomy i k with hi | rfl | hi
  · have : ¬ i ≥ k := by omega
    simp [this]
  · simp [Nat.mul_comm 2 m]
  · have h1 : ¬ i < k := by omega
    have h2 : i ≥ k := by omega
    obtain ⟨j, hj⟩ : ∃ j, i - k = j + 1 := ⟨i - k - 1, by omega⟩
    have h3 : (2 * m + 1).testBit (i - k) = m.testBit j := by rw [hj, Nat.testBit_succ]; congr 1; omega
    have h4 : (2 * m).testBit (i - k) = m.testBit j := by rw [hj, Nat.testBit_succ]; congr 1; omega
    simp only [h1, h2, h3, h4, if_false, decide_true, Bool.true_and, Bool.and_self]
theorem bitsL_low {k m : Nat} (hk : k < 32) : bitsL (2 ^ k * (2 * m + 1)) = k :: bitsL (2 ^ k * (2 * m)) := by
  have hsplit : List.range 32 = List.range k ++ k :: List.range' (k + 1) (31 - k) := by
    rw [List.range_eq_range', List.range_eq_range']
    have h1 : List.range' 0 32 = List.range' 0 k ++ List.range' k (32 - k) := by
      have := List.range'_append (s := 0) (m := k) (n := 32 - k) (step := 1)
      rw [show k + (32 - k) = 32 by omega] at this
      simpa using this.symm
    rw [h1]
    congr 1
    have : 32 - k = (31 - k) + 1 := by omega
    rw [this, List.range'_succ]
  have low : ∀ i ∈ List.range k, (2 ^ k * (2 * m + 1)).testBit i = false ∧ (2 ^ k * (2 * m)).testBit i = false := fun i hi => by
    have hi : i < k := by simpa using hi
    have : ¬ i ≥ k := by omega
    simp [Nat.testBit_two_pow_mul, this]
  have at' : (2 ^ k * (2 * m + 1)).testBit k = true ∧ (2 ^ k * (2 * m)).testBit k = false := by
    simp [Nat.testBit_two_pow_mul]
  have high : ∀ i ∈ List.range' (k + 1) (31 - k), (2 ^ k * (2 * m + 1)).testBit i = (2 ^ k * (2 * m)).testBit i := fun i hi => by
    have hi : k + 1 ≤ i := (List.mem_range'_1.1 hi).1
    have h2 : i ≥ k := by omega
    obtain ⟨j, hj⟩ : ∃ j, i - k = j + 1 := ⟨i - k - 1, by omega⟩
    have h3 : (2 * m + 1).testBit (i - k) = m.testBit j := by rw [hj, Nat.testBit_succ]; congr 1; omega
    have h4 : (2 * m).testBit (i - k) = m.testBit j := by rw [hj, Nat.testBit_succ]; congr 1; omega
    rw [Nat.testBit_two_pow_mul, Nat.testBit_two_pow_mul, h3, h4]
  unfold bitsL
  rw [hsplit, List.filter_append, List.filter_append, List.filter_cons, List.filter_cons, at'.1, at'.2]
  have e1 : (List.range k).filter (fun i => (2 ^ k * (2 * m + 1)).testBit i) = [] := List.filter_eq_nil_iff.2 (fun i hi => by rw [(low i hi).1]; simp)
  have e2 : (List.range k).filter (fun i => (2 ^ k * (2 * m)).testBit i) = [] := List.filter_eq_nil_iff.2 (fun i hi => by rw [(low i hi).2]; simp)
  rw [e1, e2]
  simp only [List.nil_append, if_true, Bool.false_eq_true, if_false]
  congr 1
  exact List.filter_congr fun i hi => high i hi
/-- What a walk over the features adds up. -/
def addW (ws : List Int) : Int → List Nat → Int
  | s, [] => s
  | s, f :: l => addW ws (s + (ws[f]?).getD 0) l
theorem addW_add (ws : List Int) (s : Int) (l : List Nat) : addW ws s l = s + addW ws 0 l := by
  induction l generalizing s with
  | nil => simp [addW]
  | cons f l ih => simp only [addW]; rw [ih, ih (0 + _)]; omega
theorem addW_append (ws : List Int) (s : Int) (l l' : List Nat) : addW ws s (l ++ l') = addW ws (addW ws s l) l' := by
  induction l generalizing s with
  | nil => rfl
  | cons f l ih => simp only [List.cons_append, addW]; exact ih _
theorem addW_bitsL (n : Nat) (ws : List Int) (h : ws.length ≤ 32) : addW ws 0 (bitsL n) = sumW n ws := by
  have key : ∀ j, j ≤ 32 → addW ws 0 ((List.range j).filter fun i => n.testBit i) = sumW n (ws.take j) := by
    intro j
    induction j with
    | zero => intro _; simp [addW, sumW]
    | succ j ih =>
      intro hj
      rw [List.range_succ, List.filter_append, addW_append, ih (by omega)]
      by_cases hl : j < ws.length
      · rw [List.take_succ_eq_append_getElem hl, sumW_snoc]
        have : (ws.take j).length = j := by simp; omega
        rw [this]
        by_cases hb : n.testBit j = true
        · simp [hb, addW, hl]
        · simp [hb, addW]
      · have e1 : ws.take (j + 1) = ws := List.take_of_length_le (by omega)
        have e2 : ws.take j = ws := List.take_of_length_le (by omega)
        rw [e1, e2]
        by_cases hb : n.testBit j = true
        · simp [hb, addW, List.getElem?_eq_none (by omega : ws.length ≤ j)]
        · simp [hb, addW]
  have := key 32 (by omega)
  rw [List.take_of_length_le h] at this
  exact this
theorem addW_bound (ws : List Int) (h : ∀ w ∈ ws, 0 ≤ w ∧ w ≤ 1073741824) (l : List Nat) : 0 ≤ addW ws 0 l ∧ addW ws 0 l ≤ 1073741824 * l.length := by
  induction l with
  | nil => simp [addW]
  | cons f l ih =>
    have : 0 ≤ (ws[f]?).getD 0 ∧ (ws[f]?).getD 0 ≤ 1073741824 := by
      cases e : ws[f]? with
      | none => simp
      | some w => exact h w (List.mem_of_getElem? e)
    simp only [addW, List.length_cons]
    rw [addW_add]
    omega
theorem bitsL_len (n : Nat) : (bitsL n).length ≤ 32 := by
  have := List.length_filter_le (fun i => n.testBit i) (List.range 32)
  simpa [bitsL] using this
end Go.Sy
/- Laws of sounds in plain Lean. -/
namespace Go.Sy
open Go
theorem nandN_zero {a b : Nat} (ha : a < 2 ^ 32) : nandN a b = 0 ↔ ∀ i, a.testBit i = true → b.testBit i = true := by
  constructor
  · intro h i h1
    have := testBit_nandN a b i ha
    rw [h, Nat.zero_testBit, h1] at this
    simpa using this.symm
  · intro h
    apply Nat.eq_of_testBit_eq
    intro i
    rw [testBit_nandN a b i ha, Nat.zero_testBit]
    cases h1 : a.testBit i
    · rfl
    · rw [h i h1]; rfl
theorem and_zero {a b : Nat} : a &&& b = 0 ↔ ∀ i, ¬ (a.testBit i = true ∧ b.testBit i = true) := by
  constructor
  · intro h i hi
    have := congrArg (·.testBit i) h
    simp [Nat.testBit_and, hi.1, hi.2] at this
  · intro h
    apply Nat.eq_of_testBit_eq
    intro i
    have := h i
    rw [Nat.testBit_and, Nat.zero_testBit]
    cases h1 : a.testBit i <;> cases h2 : b.testBit i <;> simp_all
theorem sat_iff {r s : Snd} (hr : valid r = true) (hs : valid s = true) : satS r s = true ↔ (∀ i, s.1.testBit i = true → r.1.testBit i = true) ∧ (∀ i, s.2.testBit i = true → r.2.testBit i = true) := by
  have h := Sok.of_valid hs
  unfold satS
  rw [hr, hs]
  simp only [Bool.true_and, Bool.and_eq_true, beq_iff_eq, nandN_zero h.1, nandN_zero h.2]
theorem meet_eq {r s : Snd} (hr : valid r = true) (hs : valid s = true) : meetS r s = (r.1 &&& s.1, r.2 &&& s.2) := by unfold meetS; rw [hr, hs]; rfl
theorem meet_valid {r s : Snd} (hr : valid r = true) (hs : valid s = true) : valid (meetS r s) = true := by
  rw [meet_eq hr hs, valid_iff]
  have h1 := (valid_iff r).1 hr
  refine ⟨fun i hi => ?_, Nat.lt_of_le_of_lt Nat.and_le_left h1.2.1, Nat.lt_of_le_of_lt Nat.and_le_left h1.2.2⟩
  simp only [Nat.testBit_and, Bool.and_eq_true] at hi
  exact h1.1 i ⟨hi.1.1, hi.2.1⟩
theorem meet_comm {r s : Snd} (hr : valid r = true) (hs : valid s = true) : meetS r s = meetS s r := by rw [meet_eq hr hs, meet_eq hs hr, Nat.and_comm, Nat.and_comm r.2]
theorem meet_self {r : Snd} (hr : valid r = true) : meetS r r = r := by rw [meet_eq hr hr, Nat.and_self, Nat.and_self]
theorem meet_assoc {r s t : Snd} (hr : valid r = true) (hs : valid s = true) (ht : valid t = true) : meetS (meetS r s) t = meetS r (meetS s t) := by
  rw [meet_eq (meet_valid hr hs) ht, meet_eq hr (meet_valid hs ht), meet_eq hr hs, meet_eq hs ht, Nat.and_assoc, Nat.and_assoc]
theorem sat_meet {r s : Snd} (hr : valid r = true) (hs : valid s = true) : satS r (meetS r s) = true ∧ satS s (meetS r s) = true := by
  rw [sat_iff hr (meet_valid hr hs), sat_iff hs (meet_valid hr hs), meet_eq hr hs]
  simp only [Nat.testBit_and, Bool.and_eq_true]
  exact ⟨⟨fun _ h => h.1, fun _ h => h.1⟩, fun _ h => h.2, fun _ h => h.2⟩
theorem and_eq_right_iff {a b : Nat} : a &&& b = b ↔ ∀ i, b.testBit i = true → a.testBit i = true := by
  constructor
  · intro h i hi
    rw [← h, Nat.testBit_and, Bool.and_eq_true] at hi
    exact hi.1
  · intro h
    apply Nat.eq_of_testBit_eq
    intro i
    rw [Nat.testBit_and]
    have := h i
    cases h2 : b.testBit i <;> simp_all
theorem sat_is_meet {r s : Snd} (hr : valid r = true) (hs : valid s = true) : satS r s = (((meetS r s).1 : Int) == (s.1 : Int) && ((meetS r s).2 : Int) == (s.2 : Int)) := by
  rw [Bool.eq_iff_iff, sat_iff hr hs, meet_eq hr hs, Bool.and_eq_true, beq_iff_eq, beq_iff_eq, Int.ofNat_inj, Int.ofNat_inj, and_eq_right_iff, and_eq_right_iff]
theorem xor_zero {a b : Nat} : a ^^^ b = 0 ↔ a = b := by
  constructor
  · intro h
    apply Nat.eq_of_testBit_eq
    intro i
    have := congrArg (fun n : Nat => n.testBit i) h
    simp only [Nat.testBit_xor, Nat.zero_testBit] at this
    cases h1 : a.testBit i <;> cases h2 : b.testBit i <;> simp_all
  · rintro rfl; exact Nat.xor_self a
theorem or_zero {a b : Nat} : a ||| b = 0 ↔ a = 0 ∧ b = 0 := Nat.or_eq_zero_iff
theorem diff_zero {r s : Snd} (hr : valid r = true) (hs : valid s = true) : (diffS r s = 0) ↔ r.1 = s.1 ∧ r.2 = s.2 := by
  unfold diffS
  rw [hr, hs, Bool.and_self, if_pos rfl, or_zero, xor_zero, xor_zero]
theorem unify_comm (r s : Snd) : unifyS r s = unifyS s r := by
  unfold unifyS joinS
  rw [Nat.or_comm r.1, Nat.or_comm r.2, Bool.and_comm (valid r)]
theorem join_valid {r s : Snd} (hr : valid r = true) (hs : valid s = true) : valid (joinS r s) = true ↔ r.1 &&& s.2 = 0 ∧ r.2 &&& s.1 = 0 := by
  have h1 := (valid_iff r).1 hr
  have h2 := (valid_iff s).1 hs
  rw [valid_iff, and_zero, and_zero]
  unfold joinS
  simp only [Nat.testBit_or, Bool.or_eq_true]
  constructor
  · rintro ⟨h, _⟩
    exact ⟨fun i hi => h i ⟨.inl hi.1, .inr hi.2⟩, fun i hi => h i ⟨.inr hi.2, .inl hi.1⟩⟩
  · rintro ⟨h, h'⟩
    refine ⟨fun i hi => ?_, Nat.or_lt_two_pow h1.2.1 h2.2.1, Nat.or_lt_two_pow h1.2.2 h2.2.2⟩
    rcases hi with ⟨a | a, b | b⟩
    · exact h1.1 i ⟨a, b⟩
    · exact h i ⟨a, b⟩
    · exact h' i ⟨b, a⟩
    · exact h2.1 i ⟨a, b⟩
theorem unify_ok {r s : Snd} (hr : valid r = true) (hs : valid s = true) : (unifyS r s).2 = (decide (r.1 &&& s.2 = 0) && decide (r.2 &&& s.1 = 0)) := by
  have h := join_valid hr hs
  unfold unifyS
  rw [hr, hs, Bool.and_self, Bool.true_and]
  by_cases hj : valid (joinS r s) = true
  · rw [if_pos hj]; have := h.1 hj; simp [this]
  · rw [if_neg hj]
    rw [h] at hj
    symm
    rw [← Bool.not_eq_true, Bool.and_eq_true, decide_eq_true_eq, decide_eq_true_eq]
    exact hj
theorem unify_none {r s : Snd} (h : (unifyS r s).2 = false) : unifyS r s = ((0, 0), false) := by
  unfold unifyS at *
  split at h
  · cases h
  · rw [if_neg ‹_›]
theorem unify_some {r s : Snd} (hr : valid r = true) (hs : valid s = true) (h : (unifyS r s).2 = true) : valid (joinS r s) = true ∧ unifyS r s = (joinS r s, true) := by
  unfold unifyS at *
  rw [hr, hs, Bool.and_self, Bool.true_and] at *
  split at h
  · exact ⟨‹_›, if_pos ‹_›⟩
  · cases h
theorem sat_join {r s t : Snd} (hr : valid r = true) (hs : valid s = true) (ht : valid t = true) (hj : valid (joinS r s) = true) : satS (joinS r s) r = true ∧ satS (joinS r s) s = true ∧ satS t (joinS r s) = (satS t r && satS t s) := by
  rw [sat_iff hj hr, sat_iff hj hs, Bool.eq_iff_iff, Bool.and_eq_true, sat_iff ht hj, sat_iff ht hr, sat_iff ht hs]
  unfold joinS
  simp only [Nat.testBit_or, Bool.or_eq_true]
  exact ⟨⟨fun _ h => .inl h, fun _ h => .inl h⟩, ⟨fun _ h => .inr h, fun _ h => .inr h⟩,
    fun h => ⟨⟨fun i hi => h.1 i (.inl hi), fun i hi => h.2 i (.inl hi)⟩, fun i hi => h.1 i (.inr hi), fun i hi => h.2 i (.inr hi)⟩,
    fun h => ⟨fun i hi => hi.elim (h.1.1 i) (h.2.1 i), fun i hi => hi.elim (h.1.2 i) (h.2.2 i)⟩⟩
/-- What has both has no opposite values. -/
theorem sat_both {r s t : Snd} (hr : valid r = true) (hs : valid s = true) (ht : valid t = true) (h1 : satS t r = true) (h2 : satS t s = true) : (unifyS r s).2 = true := by
  rw [unify_ok hr hs, Bool.and_eq_true, decide_eq_true_eq, decide_eq_true_eq, and_zero, and_zero]
  rw [sat_iff ht hr] at h1
  rw [sat_iff ht hs] at h2
  have hv := (valid_iff t).1 ht
  exact ⟨fun i hi => hv.1 i ⟨h1.1 i hi.1, h2.2 i hi.2⟩, fun i hi => hv.1 i ⟨h2.1 i hi.2, h1.2 i hi.1⟩⟩
/-- A mix of valid sounds is valid. -/
theorem mix_valid {s t : Snd} (hs : valid s = true) (ht : valid t = true) (x : Nat) : valid (mixS s t x) = true := by
  have h1 := (valid_iff s).1 hs
  have h2 := (valid_iff t).1 ht
  have hb := mixS_ok (s := s) (t := t) (x := x) (n := 24) h1.2 h2.2
  rw [valid_iff]
  refine ⟨fun i hi => ?_, hb.1, hb.2⟩
  rw [(mixS_bit (Sok.of_valid hs) x i).1, (mixS_bit (Sok.of_valid hs) x i).2] at hi
  by_cases e : x.testBit i = true
  · rw [if_pos e, if_pos e] at hi; exact h2.1 i hi
  · rw [if_neg e, if_neg e] at hi; exact h1.1 i hi
theorem take_ok {s t : Snd} (hs : valid s = true) (ht : valid t = true) {x : Nat} (hx : x ≤ 16777215) : takeS s t x = (mixS s t x, 0) := by
  unfold takeS
  rw [if_neg (by simp [hs, ht]), if_neg (by omega)]
theorem testBit_all (i : Nat) : (16777215 : Nat).testBit i = decide (i < 24) := Nat.testBit_two_pow_sub_one 24 i
theorem and_all {x : Nat} : x &&& 16777215 < 2 ^ 24 := Nat.lt_of_le_of_lt Nat.and_le_right (by decide)
theorem mix_all {s t : Snd} (hs : valid s = true) (ht : valid t = true) : mixS s t 16777215 = t := by
  have h1 := (valid_iff s).1 hs
  have h2 := (valid_iff t).1 ht
  refine Snd.ext (fun g => ?_) (fun g => ?_)
  · rw [(mixS_bit (Sok.of_valid hs) _ g).1, testBit_all]
    by_cases e : g < 24
    · simp [e]
    · rw [bit_big h1.2.1 (by omega), bit_big h2.2.1 (by omega)]; simp
  · rw [(mixS_bit (Sok.of_valid hs) _ g).2, testBit_all]
    by_cases e : g < 24
    · simp [e]
    · rw [bit_big h1.2.2 (by omega), bit_big h2.2.2 (by omega)]; simp
theorem mix_zero {s t : Snd} (hs : valid s = true) : mixS s t 0 = s :=
  Snd.ext (fun g => by rw [(mixS_bit (Sok.of_valid hs) _ g).1]; simp) (fun g => by rw [(mixS_bit (Sok.of_valid hs) _ g).2]; simp)
theorem mix_self {s : Snd} (hs : valid s = true) (x : Nat) : mixS s s x = s :=
  Snd.ext (fun g => by rw [(mixS_bit (Sok.of_valid hs) _ g).1]; simp) (fun g => by rw [(mixS_bit (Sok.of_valid hs) _ g).2]; simp)
theorem diff_lt {r s : Snd} : diffS r s < 2 ^ 24 := by
  unfold diffS
  split
  · rename_i h
    rw [Bool.and_eq_true] at h
    have h1 := (valid_iff r).1 h.1
    have h2 := (valid_iff s).1 h.2
    exact Nat.or_lt_two_pow (Nat.xor_lt_two_pow h1.2.1 h2.2.1) (Nat.xor_lt_two_pow h1.2.2 h2.2.2)
  · decide
theorem diff_bit {r s : Snd} (hr : valid r = true) (hs : valid s = true) (i : Nat) : (diffS r s).testBit i = ((r.1.testBit i != s.1.testBit i) || (r.2.testBit i != s.2.testBit i)) := by
  unfold diffS
  rw [hr, hs, Bool.and_self, if_pos rfl, Nat.testBit_or, Nat.testBit_xor, Nat.testBit_xor]
/-- In the features that are taken there is no difference, elsewhere none from before. -/
theorem take_diff {s t : Snd} (hs : valid s = true) (ht : valid t = true) (x : Nat) : diffS (mixS s t x) t &&& x = 0 ∧ nandN (diffS (mixS s t x) s) x = 0 := by
  have hm := mix_valid hs ht x
  have hd : diffS (mixS s t x) s < 2 ^ 32 := Nat.lt_trans diff_lt (by decide)
  rw [and_zero, nandN_zero hd]
  constructor
  · intro i hi
    rw [diff_bit hm ht, (mixS_bit (Sok.of_valid hs) x i).1, (mixS_bit (Sok.of_valid hs) x i).2, if_pos hi.2, if_pos hi.2] at hi
    simp at hi
  · intro i hi
    rw [diff_bit hm hs, (mixS_bit (Sok.of_valid hs) x i).1, (mixS_bit (Sok.of_valid hs) x i).2] at hi
    cases hx : x.testBit i
    · simp [hx] at hi
    · rfl
theorem change_ok {s t : Snd} (hs : valid s = true) (ht : valid t = true) {x : Nat} (hx : x < 2 ^ 24) (hd : x &&& (t.1 ||| t.2) = 0) : changeS s x t = (mixS s t (x ||| (t.1 ||| t.2)), 0) := by
  unfold changeS
  rw [if_neg (by simp [hs, ht]), if_neg (by rintro (h | h) <;> omega)]
theorem clear_ok {k : Nat} {t : Snd} (ht : valid t = true) : nandN (k &&& 16777215) (t.1 ||| t.2) < 2 ^ 24 ∧ nandN (k &&& 16777215) (t.1 ||| t.2) &&& (t.1 ||| t.2) = 0 := by
  have h1 := and_all (x := k)
  refine ⟨nandN_lt h1, and_zero.2 fun i hi => ?_⟩
  rw [testBit_nandN _ _ _ (by omega)] at hi
  simp [hi.2] at hi
/-- What a change does. -/
theorem change_law {s t : Snd} (hs : valid s = true) (ht : valid t = true) {x : Nat} (hx : x < 2 ^ 24) (hd : x &&& (t.1 ||| t.2) = 0) :
    mixS (mixS s t (x ||| (t.1 ||| t.2))) t (x ||| (t.1 ||| t.2)) = mixS s t (x ||| (t.1 ||| t.2)) ∧ satS (mixS s t (x ||| (t.1 ||| t.2))) t = true ∧
    ((mixS s t (x ||| (t.1 ||| t.2))).1 ||| (mixS s t (x ||| (t.1 ||| t.2))).2) &&& x = 0 ∧ nandN (diffS s (mixS s t (x ||| (t.1 ||| t.2)))) (x ||| (t.1 ||| t.2)) = 0 := by
  have vm := mix_valid hs ht (x ||| (t.1 ||| t.2))
  have b1 := mixS_bit (s := s) (t := t) (Sok.of_valid hs) (x ||| (t.1 ||| t.2))
  have b2 := mixS_bit (t := t) (Sok.of_valid vm) (x ||| (t.1 ||| t.2))
  rw [and_zero] at hd
  have hd32 : diffS s (mixS s t (x ||| (t.1 ||| t.2))) < 2 ^ 32 := Nat.lt_trans diff_lt (by decide)
  refine ⟨Snd.ext (fun g => ?_) (fun g => ?_), (sat_iff vm ht).2 ⟨fun i hi => ?_, fun i hi => ?_⟩, and_zero.2 fun i hi => ?_, (nandN_zero hd32).2 fun i hi => ?_⟩
  · rw [(b2 g).1, (b1 g).1]; split <;> rfl
  · rw [(b2 g).2, (b1 g).2]; split <;> rfl
  · rw [(b1 i).1, if_pos (by simp [hi]), hi]
  · rw [(b1 i).2, if_pos (by simp [hi]), hi]
  · have h3 := hd i
    rw [Nat.testBit_or, (b1 i).1, (b1 i).2, if_pos (by simp [hi.2]), if_pos (by simp [hi.2]), ← Nat.testBit_or] at hi
    exact h3 ⟨hi.2, hi.1⟩
  · rw [diff_bit hs vm, (b1 i).1, (b1 i).2] at hi
    cases hy : (x ||| (t.1 ||| t.2)).testBit i
    · simp [hy] at hi
    · rfl
end Go.Sy
/- Slices that the code owns: rows in memory; append. -/
namespace Go.Sy
open Go Go.RowKit
section
variable {P : Program} {c : Cx} {L : List Nat} {ρ : Env} {blks : List Blk} {m : Mem} {R : Value → HW → Prop} {Dn : Nat → List U → HW → Prop} {A : List (List U → HW → Prop)}
/-- An operation that changes one block of the memory at most, and makes new ones. -/
theorem DenM.extM {p : Bool} {x : XOp} {sh : Sh} {k : Tree} (hs : scBlks ρ.length blks = true) (h : Good c L m → ∀ w, Wd L ρ blks (c.hw m) w → ∃ v w' g0 m' us, (XOp.sem x.op x.type (SV.dens L ρ x.args)).run P w = .ok (.value v) w' ∧ w.grownBy w' g0 ∧ (∀ g, g0 = some g → m g ≠ none) ∧
      (∀ b, b < w.heap.size → some b ≠ g0 → m' b = m b) ∧ (HW.mem m').H w' ∧ (p = true → g0 = none) ∧ UOk sh us ∧ v = (sh.fresh ρ.length).1.den L (ρ ++ us) ∧ DenM P R Dn k L (ρ ++ us) c m' A) : DenM P R Dn (.ext p x sh blks k) L ρ c m A := fun g w hw => by
  obtain ⟨v, w', g0, m', us, hrun, hgr, hg0, hm', hH, hp, hus, hv, hk⟩ := h g w hw
  have hgood : Good c L m' := ⟨fun b hb' ho => by
      have hlt := c.hb.inb w b hw.hold.1 ho
      by_cases e : some b = g0
      · exact g.mem b (hg0 b e.symm) ho
      · rw [hm' b hlt e] at hb'; exact g.mem b hb' ho, fun b hb' => ⟨by
      have e : some b ≠ g0 := fun e => hg0 b e.symm (g.blk b hb').1
      rw [hm' b (hw.lt b hb') e]; exact (g.blk b hb').1, (g.blk b hb').2⟩, g.nd⟩
  have hblk : ∀ b, b < w.heap.size → m b = none → w'.heap[b]? = w.heap[b]? ∧ m' b = none := fun b hb hn => by
    have e : some b ≠ g0 := fun e => hg0 b e.symm hn
    exact ⟨hgr.block b hb e, (hm' b hb e).trans hn⟩
  have hwd : Wd L ρ blks (c.hw m') w' := ⟨hw.len, fun j k hj => (hblk _ (hw.lt _ (getD_mem (by rw [hw.len]; exact (List.getElem?_eq_some_iff.1 hj).1))) (g.blk _ (getD_mem (by rw [hw.len]; exact (List.getElem?_eq_some_iff.1 hj).1))).1).1.trans (hw.blk j k hj), hw.nd, fun b hb ho => by
    rcases ho with ho | ho
    · exact (g.blk b hb).2 ho
    · exact ho (hgood.blk b hb).1, c.hb.stab w w' hw.hold.1 hgr.size (fun b hb => (hblk b (c.hb.inb w b hw.hold.1 hb) (by
      cases hm : m b with
      | none => rfl
      | some o => exact absurd hb (g.mem b (by rw [hm]; simp)))).1) hgr.tape hgr.os hgr.output, hH⟩
  refine ⟨v, w', hrun, us, c.hw m', hus, hv, ⟨hgr.size, fun k hk hn => ?_, hgr.tape, hgr.os, hgr.output⟩, fun hpt w2 hw2 => ?_, (Wd.letters hs).2 hwd, hk hgood⟩
  · have hn' : m k = none := by
      cases hm : m k with
      | none => rfl
      | some o => exact absurd (Or.inl (.inr (by show m k ≠ none; rw [hm]; simp))) hn
    have h2 := hblk k hk hn'
    refine ⟨fun ho => ?_, h2.1⟩
    rcases ho with (ho | ho) | ho
    · exact hn (.inl (.inl ho))
    · exact ho h2.2
    · exact hn (.inr ho)
  · have h2 := (Wd.letters hs).1 hw2
    have hg := hp hpt
    exact ⟨h2.len, h2.blk, h2.nd, fun b hb' ho => by
      rcases ho with ho | ho
      · exact (g.blk b hb').2 ho
      · exact ho (g.blk b hb').1, h2.hold.1, fun b o hbo => h2.hold.2 b o (by
      have hlt : b < w.heap.size := (HW.mem m).inb w b hw.hold.2 (by show m b ≠ none; rw [hbo]; simp)
      rw [hm' b hlt (by rw [hg]; simp)]; exact hbo)⟩
/-- What is known of a slice's type and its elements'. -/
structure El (P : Program) (t e : TypeId) (size bytes : Nat) : Prop where
  und : P.underlying t = some (.slice e)
  info : ∃ i z, P.info? e = some i ∧ i.zero = some z ∧ i.size = size ∧ i.bytes = bytes ∧ z.cells.size = size
  pos : 0 < size
def elB (P : Program) (t e : TypeId) (size bytes : Nat) : Bool := (match P.underlying t with | some (.slice e') => e' == e | _ => false) && (match P.info? e with | some i => (match i.zero with | some z => i.size == size && i.bytes == bytes && z.cells.size == size | none => false) | none => false) && decide (0 < size)
theorem El.of {P : Program} {t e : TypeId} {size bytes : Nat} (h : elB P t e size bytes = true) : El P t e size bytes := by
  unfold elB at h
  rw [Bool.and_eq_true, Bool.and_eq_true, decide_eq_true_eq] at h
  obtain ⟨⟨h1, h2⟩, h3⟩ := h
  refine ⟨?_, ?_, h3⟩
  · split at h1
    · rename_i e' hu
      rw [hu, beq_iff_eq.1 h1]
    · cases h1
  · split at h2
    · rename_i i hi
      split at h2
      · rename_i z hz
        simp only [Bool.and_eq_true, beq_iff_eq] at h2
        exact ⟨i, z, hi, hz, h2.1.1, h2.1.2, h2.2⟩
      · cases h2
    · cases h2
/-- What memory reads as, beside the state's blocks. -/
theorem vw_mem {c : Cx} {L : List Nat} {ρ : Env} {blks : List Blk} {m : Mem} (g : Good c L m) {b : Nat} {cur : Array Value} {e : TypeId} {fr : Nat × Nat} (h : m b = some (.cells cur e fr)) (o : Nat) : vw c L ρ blks m b o = cur[o]? := by
  have hb : b ∉ L := fun hb => by rw [(g.blk b hb).1] at h; cases h
  show (match blkMem L ρ L blks m b with | some (.cells c _ _) => c[o]? | some _ => none | none => c.R b o) = _
  rw [blkMem_not hb, h]
/-- A slice that the code owns: none yet, or the head of a block of its own. -/
def Row (m : Mem) (e : TypeId) (size : Nat) (q : Option Addr) (cap n : Nat) (xs : List Value) : Prop :=
  xs.length = n * size ∧ ((q = none ∧ n = 0 ∧ cap = 0) ∨ ∃ g cur, q = some ⟨g, 0, none⟩ ∧ m g = some (.cells cur e (0, 0)) ∧ n ≤ cap ∧ cap ≤ maxLen ∧ cur.size = cap * size ∧ cur.toList.take (n * size) = xs)
theorem Row.nil (m : Mem) (e : TypeId) (size : Nat) : Row m e size none 0 0 [] := ⟨by simp, .inl ⟨rfl, rfl, rfl⟩⟩
theorem Row.keep {m m' : Mem} {e : TypeId} {size : Nat} {q : Option Addr} {cap n : Nat} {xs : List Value} (h : Row m e size q cap n xs) (hk : ∀ g, q = some ⟨g, 0, none⟩ → m g ≠ none → m' g = m g) : Row m' e size q cap n xs := by
  obtain ⟨h1, h2⟩ := h
  refine ⟨h1, ?_⟩
  rcases h2 with h2 | ⟨g, cur, rfl, hg, rest⟩
  · exact .inl h2
  · exact .inr ⟨g, cur, rfl, (hk g rfl (by rw [hg]; simp)).trans hg, rest⟩
theorem Row.owns {m : Mem} {e : TypeId} {size : Nat} {q : Option Addr} {cap n : Nat} {xs : List Value} {w : World} (h : Row m e size q cap n xs) (hw : (HW.mem m).H w) : w.ownsRow 0 e size (slv q n cap) n xs := by
  refine ⟨h.1, ?_⟩
  rcases h.2 with ⟨rfl, rfl, rfl⟩ | ⟨g, cur, rfl, hg, h1, h2, h3, h4⟩
  · exact .inl ⟨rfl, rfl⟩
  · exact .inr ⟨g, cap, cur, rfl, Nat.zero_le _, hw g _ hg, h1, h2, h3, h4⟩
/-- What a row reads as. -/
theorem Row.cells {m : Mem} {e : TypeId} {size : Nat} {q : Option Addr} {cap n : Nat} {xs : List Value} (h : Row m e size q cap n xs) {V : Mv} (hV : ∀ g cur, m g = some (.cells cur e (0, 0)) → ∀ o, V g o = cur[o]?) : Cells V q xs := by
  intro i x hx
  rcases h.2 with ⟨rfl, rfl, rfl⟩ | ⟨g, cur, rfl, hg, h1, h2, h3, h4⟩
  · have := h.1
    have : i < xs.length := (List.getElem?_eq_some_iff.1 hx).1
    omega
  · refine ⟨g, 0, rfl, ?_⟩
    rw [hV g cur hg, Nat.zero_add]
    rw [← h4, List.getElem?_take] at hx
    split at hx
    · rw [← Array.getElem?_toList]; exact hx
    · cases hx
theorem slv_fresh (ρ : Env) (L : List Nat) (q : Option Addr) (n cap : Nat) : (Sh.sl.fresh ρ.length).1.den L (ρ ++ [.p q, .i n, .i cap]) = slv q n cap := by
  simp only [Sh.fresh, SV.den, IT.eval, atAddr, env_ptr_at, env_int_at1, env_int_at2, slv]
  cases q <;> simp [addr_zero]
theorem append_core {K : List U → Mem → Prop} {as : Array Operand} {t ty e : TypeId} {size bytes : Nat} {sv xv : SV} {q qx : Option Addr} {cap n kx capx : Nat} {xs news : List Value} (hE : El P t e size bytes) (hR : Row m e size q cap n xs)
    (hx : Good c L m → Cells (vw c L ρ blks m) qx news) (hl : news.length = kx * size) (h1 : ∀ u ∈ news, u.oneCell' = true) (hn : qx = none → capx = 0) (h63 : n + kx ≤ maxLen) (hbytes : (n + kx) * bytes ≤ 140737488355328)
    (hk : ∀ q' cap' m', Row m' e size q' cap' (n + kx) (xs ++ news) → (∀ b, ((∃ o, q = some ⟨b, o, none⟩) → cap < n + kx) → m b ≠ none → m' b = m b) → (q' = q ∨ ∃ g, q' = some ⟨g, 0, none⟩ ∧ m g = none) → K [.p q', .i (n + kx : Nat), .i (cap' : Nat)] m')
    (hv : sv.den L ρ = slv q n cap) (hxv : xv.den L ρ = slv qx kx capx) (g : Good c L m) (w : World) (hw : Wd L ρ blks (c.hw m) w) :
    ∃ v w' g0 m' us, (XOp.sem (.call ⟨.builtin .append, as, #[t, t]⟩) ty (SV.dens L ρ [sv, xv])).run P w = .ok (.value v) w' ∧ w.grownBy w' g0 ∧ (∀ g, g0 = some g → m g ≠ none) ∧
      (∀ b, b < w.heap.size → some b ≠ g0 → m' b = m b) ∧ (HW.mem m').H w' ∧ (false = true → g0 = none) ∧ UOk .sl us ∧ v = (Sh.sl.fresh ρ.length).1.den L (ρ ++ us) ∧ K us m' := by
  obtain ⟨i, z, hi, hz, hsz, hby, hzs⟩ := hE.info
  have hown := hR.owns hw.hold.2
  have key : ∃ v' w' g0, (Builtin.append_ #[t, t] ty #[slv q n cap, slv qx kx capx]).run P w = .ok v' w' ∧ w'.ownsRow 0 e size v' (n + kx) (xs ++ news) ∧ w.grownBy w' g0 ∧ (g0 = none ∨ g0 = (slv q n cap).ownBlock ∧ n + kx ≤ cap) ∧
      (∀ g', v'.ownBlock = some g' → (slv q n cap).ownBlock = some g' ∨ w.heap.size ≤ g') ∧ (v' = .slice none 0 0 → q = none) := by
    rcases qx with _ | xa
    · have hnil : news = [] := by
        cases news with
        | nil => rfl
        | cons a l => obtain ⟨_, _, hc, _⟩ := hx g 0 a rfl; cases hc
      have hk0 : kx = 0 := by
        rw [hnil] at hl
        have := hE.pos
        rcases Nat.mul_eq_zero.1 hl.symm with h | h
        · exact h
        · omega
      rw [hn rfl, hk0, hnil]
      exact ⟨slv q n cap, w, none, run_append_owned_none w 0 t ty e i size hE.und hi (slv q n cap) n xs hown, by simpa using hown, ⟨rfl, rfl, rfl, Nat.le_refl _, fun _ _ _ => rfl⟩, .inl rfl, fun g' h => .inl h, fun h => by cases q with | none => rfl | some a => cases h⟩
    · have hnews : ∀ j u, news[j]? = some u → w.cell? (xa.add j) = some u := fun j u hu => by
        obtain ⟨b, o, hc, hr⟩ := hx g j u hu
        cases hc
        have := vw_cell hw _ _ _ hr
        unfold Mv.of at this
        rw [addr_add]; exact this
      have own : n + kx ≤ cap ∨ q = none → ∃ v' w' g0, (Builtin.append_ #[t, t] ty #[slv q n cap, slv (some xa) kx capx]).run P w = .ok v' w' ∧ w'.ownsRow 0 e size v' (n + kx) (xs ++ news) ∧ w.grownBy w' g0 ∧ (g0 = none ∨ g0 = (slv q n cap).ownBlock ∧ n + kx ≤ cap) ∧
      (∀ g', v'.ownBlock = some g' → (slv q n cap).ownBlock = some g' ∨ w.heap.size ≤ g') ∧ (v' = .slice none 0 0 → q = none) := fun hroom => by
        obtain ⟨v', w', hr, ho, hg, hnil, hb⟩ := run_append_own_at w 0 t ty e i z size bytes hE.und hi hz hsz hby hzs hE.pos (slv q n cap) n xs hown xa kx capx news hl hnews h1 h63 hbytes (Nat.zero_le _)
        refine ⟨v', w', (slv q n cap).ownBlock, hr, ho, hg, ?_, fun g' h => ?_, fun h => by have := (hnil.1 h).1; cases q with | none => rfl | some a => cases this⟩
        · rcases hroom with h | h
          · exact .inr ⟨rfl, h⟩
          · left; rw [h]; rfl
        · rcases hb with hb | hb
          · left; rw [← hb, h]
          · right; rw [hb] at h; cases h; exact Nat.le_refl _
      rcases Nat.lt_or_ge cap (n + kx) with hlt | hge
      · rcases hR.2 with ⟨hq, _, _⟩ | ⟨g2, cur2, hq, hg2, _⟩
        · exact own (.inr hq)
        · have holds := fun j u => hown.cells (g := g2) (by rw [hq]; rfl) j u
          rw [hq]
          obtain ⟨v', w', hr, ho, hg⟩ := run_append_arg_grows w t ty e i z size bytes hE.und hi hz hsz hby hzs hE.pos ⟨g2, 0, none⟩ n cap xs hR.1 holds xa kx capx news hl hnews hlt h63 hbytes
          refine ⟨v', w', none, hr, ⟨ho.1, ?_⟩, hg, .inl rfl, fun g' h => .inr ?_, fun h => ?_⟩
          · rcases ho.2 with h | ⟨a, b, d, h1, _, h3⟩
            · exact .inl h
            · exact .inr ⟨a, b, d, h1, Nat.zero_le _, h3⟩
          · rcases ho.2 with ⟨h', _⟩ | ⟨a, b, d, h', h2, _⟩
            · rw [h'] at h; cases h
            · rw [h'] at h; cases h; exact h2
          · rcases ho.2 with ⟨_, h'⟩ | ⟨a, b, d, h', _⟩
            · omega
            · rw [h'] at h; cases h
      · exact own (.inl hge)
  obtain ⟨v', w', g0, hr, ho, hgr, hg0, hb, hnil⟩ := key
  have hmb : ∀ b, (slv q n cap).ownBlock = some b → m b ≠ none ∧ q = some ⟨b, 0, none⟩ := by
    intro b hb'
    rcases hR.2 with ⟨rfl, _, _⟩ | ⟨g', cur, rfl, hg, _⟩
    · cases hb'
    · cases hb'; exact ⟨by show m g' ≠ none; rw [hg]; simp, rfl⟩
  have hmg : ∀ b, g0 = some b → m b ≠ none ∧ q = some ⟨b, 0, none⟩ ∧ n + kx ≤ cap := by
    intro b hb'
    rcases hg0 with h | ⟨h, h'⟩
    · rw [h] at hb'; cases hb'
    · rw [h] at hb'; exact ⟨(hmb b hb').1, (hmb b hb').2, h'⟩
  have hinb : ∀ b, m b ≠ none → b < w.heap.size := fun b hb' => (HW.mem m).inb w b hw.hold.2 hb'
  have hrun : (XOp.sem (.call ⟨.builtin .append, as, #[t, t]⟩) ty (SV.dens L ρ [sv, xv])).run P w = .ok (.value v') w' := by
    show (builtin .append #[t, t] ty (as.map fun | .const _ => true | _ => false) #[sv.den L ρ, xv.den L ρ]).run P w = _
    rw [hv, hxv]
    show (do pure (Next.value (← Builtin.append_ #[t, t] ty #[slv q n cap, slv qx kx capx])) : Sem Next).run P w = _
    rw [Sem.run_bind, hr]; rfl
  rcases ho.2 with ⟨hv0, hn0⟩ | ⟨g', cap', cur, rfl, _, hg', h5, h6, h7, h8⟩
  · refine ⟨v', w', g0, fun b => if some b = g0 then none else m b, [.p none, .i (n + kx : Nat), .i (0 : Nat)], hrun, hgr, fun b h => (hmg b h).1, fun b _ hne => if_neg hne, fun b o hbo => ?_, fun h => (by cases h), ⟨_, _, _, rfl⟩, ?_, hk none 0 _ ⟨ho.1, .inl ⟨rfl, hn0, rfl⟩⟩ (fun b hb' _ => if_neg fun e' => ?_) ?_⟩
    · dsimp only at hbo
      split at hbo
      · cases hbo
      · rename_i hne
        rw [hgr.block b (hinb b (by rw [hbo]; simp)) hne]; exact hw.hold.2 b o hbo
    · rw [slv_fresh, hv0, hn0]; rfl
    · have h3 := hmg b e'.symm
      have := hb' ⟨0, h3.2.1⟩
      omega
    · exact .inl (hnil hv0).symm
  · have hgq : q = some ⟨g', 0, none⟩ ∨ m g' = none := by
      rcases hb g' rfl with h | h
      · exact .inl (hmb g' h).2
      · right
        cases hm : m g' with
        | none => rfl
        | some o => have := hinb g' (by rw [hm]; simp); omega
    have hsame : ∀ b, b < w.heap.size → some b ≠ g0 → (if b = g' then some (.cells cur e (0, 0)) else if some b = g0 then none else m b : Option Obj) = m b := fun b hlt hne => by
      by_cases e' : b = g'
      · rw [if_pos e']
        subst e'
        rcases hb b rfl with h | h
        · cases hm : m b with
          | none => exact absurd hm (hmb b h).1
          | some o =>
            have h1 := hw.hold.2 b o hm
            rw [← hgr.block b hlt hne, hg'] at h1
            exact h1
        · omega
      · rw [if_neg e', if_neg hne]
    refine ⟨_, w', g0, fun b => if b = g' then some (.cells cur e (0, 0)) else if some b = g0 then none else m b, [.p (some ⟨g', 0, none⟩), .i (n + kx : Nat), .i (cap' : Nat)], hrun, hgr, fun b h => (hmg b h).1, hsame, fun b o hbo => ?_, fun h => (by cases h), ⟨_, _, _, rfl⟩, (slv_fresh ρ L (some ⟨g', 0, none⟩) (n + kx) cap').symm, hk (some ⟨g', 0, none⟩) cap' _ ⟨ho.1, .inr ⟨g', cur, rfl, if_pos rfl, h5, h6, h7, h8⟩⟩ (fun b hbq hmne => hsame b (hinb b hmne) fun e' => ?_) ?_⟩
    · replace hbo : (if b = g' then some (.cells cur e (0, 0)) else if some b = g0 then none else m b : Option Obj) = some o := hbo
      by_cases e' : b = g'
      · rw [if_pos e'] at hbo; cases hbo; rw [e']; exact hg'
      · rw [if_neg e'] at hbo
        split at hbo
        · cases hbo
        · rename_i hne
          rw [hgr.block b (hinb b (by rw [hbo]; simp)) hne]; exact hw.hold.2 b o hbo
    · have h3 := hmg b e'.symm
      have := hbq ⟨0, h3.2.1⟩
      omega
    · rcases hgq with h | h
      · exact .inl h.symm
      · exact .inr ⟨g', rfl, h⟩
theorem DenM.append {as : Array Operand} {t ty e : TypeId} {size bytes : Nat} {sv xv : SV} {k : Tree} {q qx : Option Addr} {cap n kx capx : Nat} {xs news : List Value} (hE : El P t e size bytes) (hR : Row m e size q cap n xs)
    (hx : Good c L m → Cells (vw c L ρ blks m) qx news) (hl : news.length = kx * size) (h1 : ∀ u ∈ news, u.oneCell' = true) (hn : qx = none → capx = 0) (h63 : n + kx ≤ maxLen) (hbytes : (n + kx) * bytes ≤ 140737488355328)
    (hk : ∀ q' cap' m', Row m' e size q' cap' (n + kx) (xs ++ news) → (∀ b, ((∃ o, q = some ⟨b, o, none⟩) → cap < n + kx) → m b ≠ none → m' b = m b) → (q' = q ∨ ∃ g, q' = some ⟨g, 0, none⟩ ∧ m g = none) → DenM P R Dn k L (ρ ++ [.p q', .i (n + kx : Nat), .i (cap' : Nat)]) c m' A)
    (hv : sv.den L ρ = slv q n cap := by rfl) (hxv : xv.den L ρ = slv qx kx capx := by rfl) (hs : scBlks ρ.length blks = true := by rfl) :
    DenM P R Dn (.ext false ⟨.call ⟨.builtin .append, as, #[t, t]⟩, ty, [sv, xv]⟩ .sl blks k) L ρ c m A := .extM hs fun g w hw =>
  append_core (K := fun us m' => DenM P R Dn k L (ρ ++ us) c m' A) hE hR hx hl h1 hn h63 hbytes hk hv hxv g w hw
/-- append to an empty literal: a copy. -/
theorem DenM.appendLitF {p : Bool} {as : Array Operand} {t ty e : TypeId} {size bytes : Nat} {sv xv : SV} {k : Tree} {b0 : Nat} {qx : Option Addr} {kx capx : Nat} {news : List Value} (hE : El P t e size bytes)
    (hx : Good c L m → Cells (vw c L ρ blks m) qx news) (hl : news.length = kx * size) (h1 : ∀ u ∈ news, u.oneCell' = true) (hn : qx = none → capx = 0) (h63 : kx ≤ maxLen) (hbytes : kx * bytes ≤ 140737488355328)
    (hk : ∀ q' cap' m', (kx ≠ 0 → Row m' e size q' cap' kx news) → (kx = 0 → q' = some ⟨b0, 0, none⟩ ∧ cap' = 0) → (∀ b, m b ≠ none → m' b = m b) → (kx ≠ 0 → ∃ g, q' = some ⟨g, 0, none⟩ ∧ m g = none) → DenM P R Dn k L (ρ ++ [.p q', .i (kx : Nat), .i (cap' : Nat)]) c m' A)
    (hv : sv.den L ρ = slv (some ⟨b0, 0, none⟩) 0 0 := by rfl) (hxv : xv.den L ρ = slv qx kx capx := by rfl) (hs : scBlks ρ.length blks = true := by rfl) :
    DenM P R Dn (.ext p ⟨.call ⟨.builtin .append, as, #[t, t]⟩, ty, [sv, xv]⟩ .sl blks k) L ρ c m A := .extM hs fun g w hw => by
  obtain ⟨i, z, hi, hz, hsz, hby, hzs⟩ := hE.info
  have hinb : ∀ b, m b ≠ none → b < w.heap.size := fun b hb' => (HW.mem m).inb w b hw.hold.2 hb'
  have hrun : ∀ v' w', (Builtin.append_ #[t, t] ty #[slv (some ⟨b0, 0, none⟩) 0 0, slv qx kx capx]).run P w = .ok v' w' → (XOp.sem (.call ⟨.builtin .append, as, #[t, t]⟩) ty (SV.dens L ρ [sv, xv])).run P w = .ok (.value v') w' := fun v' w' hr => by
    show (builtin .append #[t, t] ty (as.map fun | .const _ => true | _ => false) #[sv.den L ρ, xv.den L ρ]).run P w = _
    rw [hv, hxv]
    show (do pure (Next.value (← Builtin.append_ #[t, t] ty #[slv (some ⟨b0, 0, none⟩) 0 0, slv qx kx capx])) : Sem Next).run P w = _
    rw [Sem.run_bind, hr]; rfl
  by_cases hk0 : kx = 0
  · subst hk0
    have hr : (Builtin.append_ #[t, t] ty #[slv (some ⟨b0, 0, none⟩) 0 0, slv qx 0 capx]).run P w = .ok (slv (some ⟨b0, 0, none⟩) 0 0) w := by
      rcases qx with _ | xa
      · rw [hn rfl]
        simp [slv, Builtin.append_, run_underlying hE.und, sizeOf, typeInfo, hi, Builtin.lenOf, Builtin.firstCells, storeCells]
      · have := run_append_room_cells w t ty e i hE.und hi b0 0 0 0 xa 0 capx [] (by simp) (by simp) (by simp) (Nat.le_refl _) (by simp) (by simp)
        exact this.trans rfl
    exact ⟨_, w, none, m, [.p (some ⟨b0, 0, none⟩), .i (0 : Nat), .i (0 : Nat)], hrun _ _ hr, ⟨rfl, rfl, rfl, Nat.le_refl _, fun _ _ _ => rfl⟩, fun _ h => (by cases h), fun _ _ _ => rfl, hw.hold.2, fun _ => rfl, ⟨_, _, _, rfl⟩, (slv_fresh ρ L _ _ _).symm,
      hk (some ⟨b0, 0, none⟩) 0 m (fun h => absurd rfl h) (fun _ => ⟨rfl, rfl⟩) (fun _ _ => rfl) fun h => absurd rfl h⟩
  · have hpos := hE.pos
    rcases qx with _ | xa
    · exfalso
      cases news with
      | nil => rcases Nat.mul_eq_zero.1 hl.symm with h | h <;> omega
      | cons a l => obtain ⟨_, _, hc, _⟩ := hx g 0 a rfl; cases hc
    · have hnews : ∀ j u, news[j]? = some u → w.cell? (xa.add j) = some u := fun j u hu => by
        obtain ⟨b, o, hc, hr⟩ := hx g j u hu
        cases hc
        have := vw_cell hw _ _ _ hr
        unfold Mv.of at this
        rw [addr_add]; exact this
      obtain ⟨v', w', hr, ho, hgr⟩ := run_append_arg_grows w t ty e i z size bytes hE.und hi hz hsz hby hzs hE.pos ⟨b0, 0, none⟩ 0 0 [] (by simp) (by simp) xa kx capx news hl hnews (by omega) (by omega) (by simpa using hbytes)
      rcases ho.2 with ⟨_, h'⟩ | ⟨g', cap', cur, rfl, hge, hg', h5, h6, h7, h8⟩
      · omega
      · simp only [Nat.zero_add, List.nil_append] at *
        have hne : ∀ b, b < w.heap.size → b ≠ g' := fun b hb => by omega
        have hmg : m g' = none := by
          cases e : m g' with
          | none => rfl
          | some o => have := hinb g' (by rw [e]; simp); omega
        refine ⟨_, w', none, m.upd g' (.cells cur e (0, 0)), [.p (some ⟨g', 0, none⟩), .i (kx : Nat), .i (cap' : Nat)], hrun _ _ hr, hgr, fun _ h => (by cases h), fun b hb _ => Mem.upd_other _ _ (hne b hb), fun b o hbo => ?_, fun _ => rfl, ⟨_, _, _, rfl⟩, (slv_fresh ρ L (some ⟨g', 0, none⟩) kx cap').symm,
          hk (some ⟨g', 0, none⟩) cap' _ (fun _ => ⟨hl, .inr ⟨g', cur, rfl, Mem.upd_same _ _ _, h5, h6, h7, h8⟩⟩) (fun h => absurd h hk0) (fun b hb => Mem.upd_other _ _ (hne b (hinb b hb))) fun _ => ⟨g', rfl, hmg⟩⟩
        by_cases e' : b = g'
        · rw [e', Mem.upd_same] at hbo; cases hbo; rw [e']; exact hg'
        · rw [Mem.upd_other _ _ e'] at hbo
          rw [hgr.block b (hinb b (by rw [hbo]; simp)) (by simp)]; exact hw.hold.2 b o hbo
theorem DenM.appendLit {p : Bool} {as : Array Operand} {t ty e : TypeId} {size bytes : Nat} {sv xv : SV} {k : Tree} {b0 : Nat} {qx : Option Addr} {kx capx : Nat} {news : List Value} (hE : El P t e size bytes)
    (hx : Good c L m → Cells (vw c L ρ blks m) qx news) (hl : news.length = kx * size) (h1 : ∀ u ∈ news, u.oneCell' = true) (hn : qx = none → capx = 0) (h63 : kx ≤ maxLen) (hbytes : kx * bytes ≤ 140737488355328)
    (hk : ∀ q' cap' m', (kx ≠ 0 → Row m' e size q' cap' kx news) → (kx = 0 → q' = some ⟨b0, 0, none⟩ ∧ cap' = 0) → (∀ b, m b ≠ none → m' b = m b) → DenM P R Dn k L (ρ ++ [.p q', .i (kx : Nat), .i (cap' : Nat)]) c m' A)
    (hv : sv.den L ρ = slv (some ⟨b0, 0, none⟩) 0 0 := by rfl) (hxv : xv.den L ρ = slv qx kx capx := by rfl) (hs : scBlks ρ.length blks = true := by rfl) :
    DenM P R Dn (.ext p ⟨.call ⟨.builtin .append, as, #[t, t]⟩, ty, [sv, xv]⟩ .sl blks k) L ρ c m A :=
  .appendLitF hE hx hl h1 hn h63 hbytes (fun q' cap' m' a b d _ => hk q' cap' m' a b d) hv hxv hs
theorem Row.reads {e : TypeId} {size : Nat} {q : Option Addr} {cap n : Nat} {xs : List Value} (h : Row m e size q cap n xs) (g : Good c L m) : Cells (vw c L ρ blks m) q xs :=
  h.cells fun _ _ hg o => vw_mem g hg o
end
end Go.Sy
/- Alignments of two words in plain Lean: smallest costs, their number, the first of them; common subsequences. -/
namespace Go.Sy
open Go
theorem pair_ind {α β : Type} {M : List α → List β → Prop} (h0 : M [] []) (h1 : ∀ y b, M [] b → M [] (y :: b)) (h2 : ∀ x a, M a [] → M (x :: a) []) (h3 : ∀ x a y b, M a b → M a (y :: b) → M (x :: a) b → M (x :: a) (y :: b)) : ∀ a b, M a b
  | [], [] => h0
  | [], y :: b => h1 y b (pair_ind h0 h1 h2 h3 [] b)
  | x :: a, [] => h2 x a (pair_ind h0 h1 h2 h3 a [])
  | x :: a, y :: b => h3 x a y b (pair_ind h0 h1 h2 h3 a b) (pair_ind h0 h1 h2 h3 a (y :: b)) (pair_ind h0 h1 h2 h3 (x :: a) b)
section
variable (d : Snd → Snd → Int) (g : Int)
def rst0 : List Snd → Int
  | [] => 0
  | _ :: b => g + rst0 b
def rst1 (x : Snd) (f : List Snd → Int) : List Snd → Int
  | [] => g + f []
  | y :: b => min (min (d x y + f b) (g + f (y :: b))) (g + rst1 x f b)
/-- The smallest cost of an alignment. -/
def rst : List Snd → List Snd → Int
  | [] => rst0 g
  | x :: a => rst1 d g x (rst a)
theorem rst_nn : rst d g [] [] = 0 := rfl
theorem rst_nc (y : Snd) (b : List Snd) : rst d g [] (y :: b) = g + rst d g [] b := rfl
theorem rst_cn (x : Snd) (a : List Snd) : rst d g (x :: a) [] = g + rst d g a [] := rfl
theorem rst_cc (x : Snd) (a : List Snd) (y : Snd) (b : List Snd) : rst d g (x :: a) (y :: b) = min (min (d x y + rst d g a b) (g + rst d g a (y :: b))) (g + rst d g (x :: a) b) := rfl
variable {d g}
theorem rst_del (x : Snd) (a b : List Snd) : rst d g (x :: a) b ≤ g + rst d g a b := by
  cases b with
  | nil => rw [rst_cn]; omega
  | cons y b => rw [rst_cc]; omega
theorem rst_ins (y : Snd) (a b : List Snd) : rst d g a (y :: b) ≤ g + rst d g a b := by
  cases a with
  | nil => rw [rst_nc]; omega
  | cons x a => rw [rst_cc]; omega
theorem rst_sub (x : Snd) (a : List Snd) (y : Snd) (b : List Snd) : rst d g (x :: a) (y :: b) ≤ d x y + rst d g a b := by
  rw [rst_cc]; omega
/-- The first step of an alignment of the smallest cost. -/
theorem rst_cases (a b : List Snd) : (a = [] ∧ b = []) ∨ (∃ x a', a = x :: a' ∧ rst d g a b = g + rst d g a' b) ∨ (∃ y b', b = y :: b' ∧ rst d g a b = g + rst d g a b') ∨ ∃ x a' y b', a = x :: a' ∧ b = y :: b' ∧ rst d g a b = d x y + rst d g a' b' := by
  cases a with
  | nil =>
    cases b with
    | nil => exact .inl ⟨rfl, rfl⟩
    | cons y b => exact .inr (.inr (.inl ⟨y, b, rfl, rfl⟩))
  | cons x a =>
    cases b with
    | nil => exact .inr (.inl ⟨x, a, rfl, rfl⟩)
    | cons y b =>
      have h := rst_cc d g x a y b
      by_cases h1 : rst d g (x :: a) (y :: b) = g + rst d g a (y :: b)
      · exact .inr (.inl ⟨x, a, rfl, h1⟩)
      · by_cases h2 : rst d g (x :: a) (y :: b) = g + rst d g (x :: a) b
        · exact .inr (.inr (.inl ⟨y, b, rfl, h2⟩))
        · exact .inr (.inr (.inr ⟨x, a, y, b, rfl, rfl, by omega⟩))
theorem rst_pos (hg : 0 ≤ g) (hd : ∀ x y, 0 ≤ d x y) (a b : List Snd) : 0 ≤ rst d g a b := by
  refine pair_ind (M := fun a b => 0 ≤ rst d g a b) ?_ ?_ ?_ ?_ a b
  · rw [rst_nn]; exact Int.le_refl 0
  · intro y b h; rw [rst_nc]; omega
  · intro x a h; rw [rst_cn]; omega
  · intro x a y b h1 h2 h3; have := hd x y; rw [rst_cc]; omega
theorem rst_le (a b : List Snd) : rst d g a b ≤ g * (a.length + b.length : Nat) := by
  refine pair_ind (M := fun a b => rst d g a b ≤ g * (a.length + b.length : Nat)) ?_ ?_ ?_ ?_ a b
  · simp [rst_nn]
  · intro y b h
    have := rst_ins (d := d) (g := g) y [] b
    rw [List.length_cons, show ([] : List Snd).length + (b.length + 1) = ([] : List Snd).length + b.length + 1 by omega, Int.natCast_add, Int.mul_add]; omega
  · intro x a h
    have := rst_del (d := d) (g := g) x a []
    rw [List.length_cons, show a.length + 1 + ([] : List Snd).length = a.length + ([] : List Snd).length + 1 by omega, Int.natCast_add, Int.mul_add]; omega
  · intro x a y b _ h _
    have := rst_del (d := d) (g := g) x a (y :: b)
    rw [List.length_cons (a := x), show a.length + 1 + (y :: b).length = a.length + (y :: b).length + 1 by omega, Int.natCast_add, Int.mul_add]; omega
theorem rst_comm (hd : ∀ x y, d x y = d y x) (a b : List Snd) : rst d g a b = rst d g b a := by
  refine pair_ind (M := fun a b => rst d g a b = rst d g b a) rfl ?_ ?_ ?_ a b
  · intro y b h; rw [rst_nc, rst_cn, h]
  · intro x a h; rw [rst_nc, rst_cn, h]
  · intro x a y b h1 h2 h3; rw [rst_cc, rst_cc, h1, h2, h3, hd x y]; omega
theorem rst_self (hg : 0 ≤ g) (hd : ∀ x y, 0 ≤ d x y) (h0 : ∀ x, d x x = 0) (a : List Snd) : rst d g a a = 0 := by
  induction a with
  | nil => rfl
  | cons x a ih =>
    have h1 := rst_sub (d := d) (g := g) x a x a
    have h2 := rst_pos hg hd (x :: a) (x :: a)
    have := h0 x
    omega
theorem rst_tri (hg : 0 ≤ g) (hd : ∀ x y, 0 ≤ d x y) (ht : ∀ x y z, d x z ≤ d x y + d y z) : ∀ (n : Nat) (a w b : List Snd), a.length + w.length + b.length = n → rst d g a b ≤ rst d g a w + rst d g w b := by
  intro n
  induction n using Nat.strongRecOn with
  | _ n ih =>
    intro a w b hn
    rcases rst_cases (d := d) (g := g) a w with ⟨rfl, rfl⟩ | ⟨x, a', rfl, e1⟩ | h
    · rw [rst_nn]; omega
    · have := ih _ (by simp at hn; omega) a' w b rfl
      have := rst_del (d := d) (g := g) x a' b
      omega
    · obtain ⟨z, w', rfl⟩ : ∃ z w', w = z :: w' := by
        rcases h with ⟨z, w', rfl, _⟩ | ⟨_, _, z, w', _, rfl, _⟩ <;> exact ⟨z, w', rfl⟩
      rcases rst_cases (d := d) (g := g) (z :: w') b with ⟨h', _⟩ | ⟨z', w'', h', e2⟩ | ⟨y, b', rfl, e2⟩ | ⟨z', w'', y, b', h', rfl, e2⟩
      · cases h'
      · cases h'
        rcases h with ⟨z', w'', h', e1⟩ | ⟨x, a', z', w'', rfl, h', e1⟩
        · cases h'
          have := ih _ (by simp at hn; omega) a w' b rfl
          omega
        · cases h'
          have := ih _ (by simp at hn; omega) a' w' b rfl
          have := rst_del (d := d) (g := g) x a' b
          have := hd x z
          omega
      · have := ih _ (by simp at hn ⊢; omega) a (z :: w') b' rfl
        have := rst_ins (d := d) (g := g) y a b'
        omega
      · cases h'
        rcases h with ⟨z', w'', h', e1⟩ | ⟨x, a', z', w'', rfl, h', e1⟩
        · cases h'
          have := ih _ (by simp at hn; omega) a w' b' rfl
          have := rst_ins (d := d) (g := g) y a b'
          have := hd z y
          omega
        · cases h'
          have := ih _ (by simp at hn; omega) a' w' b' rfl
          have := rst_sub (d := d) (g := g) x a' y b'
          have := ht x z y
          omega
theorem rst_triangle (hg : 0 ≤ g) (hd : ∀ x y, 0 ≤ d x y) (ht : ∀ x y z, d x z ≤ d x y + d y z) (a w b : List Snd) : rst d g a b ≤ rst d g a w + rst d g w b := rst_tri hg hd ht _ a w b rfl
theorem rst_front (hg : 0 ≤ g) (hd : ∀ x y, 0 ≤ d x y) (h0 : ∀ x, d x x = 0) (ht : ∀ x y z, d x z ≤ d x y + d y z) (s : Snd) (a b : List Snd) : rst d g (s :: a) (s :: b) = rst d g a b := by
  have h1 := rst_sub (d := d) (g := g) s a s b
  have h2 := rst_triangle hg hd ht a (s :: b) b
  have h3 := rst_del (d := d) (g := g) s b b
  have h4 := rst_triangle hg hd ht a (s :: a) b
  have h5 := rst_ins (d := d) (g := g) s a a
  rw [rst_self hg hd h0] at h3 h5
  have := h0 s
  rw [rst_cc] at h1 ⊢
  omega
theorem rst_end1 (hg : 0 ≤ g) (hd : ∀ x y, 0 ≤ d x y) (h0 : ∀ x, d x x = 0) (s : Snd) (a : List Snd) : rst d g (a ++ [s]) a ≤ g ∧ rst d g a (a ++ [s]) ≤ g := by
  induction a with
  | nil => constructor <;> simp [rst_nn, rst_cn, rst_nc]
  | cons x a ih =>
    have h1 := rst_sub (d := d) (g := g) x (a ++ [s]) x a
    have h2 := rst_sub (d := d) (g := g) x a x (a ++ [s])
    have := h0 x
    simp only [List.cons_append]
    omega
theorem rst_end (hg : 0 ≤ g) (hd : ∀ x y, 0 ≤ d x y) (h0 : ∀ x, d x x = 0) (ht : ∀ x y z, d x z ≤ d x y + d y z) (s : Snd) (a b : List Snd) : rst d g (a ++ [s]) b ≤ rst d g a b + g ∧ rst d g a b - g ≤ rst d g (a ++ [s]) b := by
  have h1 := rst_triangle hg hd ht (a ++ [s]) a b
  have h2 := rst_triangle hg hd ht a (a ++ [s]) b
  have := rst_end1 hg hd h0 s a
  omega
end
/-! The longest common subsequence. -/
def lcs1 (x : Snd) (f : List Snd → Nat) : List Snd → Nat
  | [] => 0
  | y :: b => if x = y then 1 + f b else max (f (y :: b)) (lcs1 x f b)
def lcs : List Snd → List Snd → Nat
  | [] => fun _ => 0
  | x :: a => lcs1 x (lcs a)
theorem lcs_nil (b : List Snd) : lcs [] b = 0 := rfl
theorem lcs_cn (x : Snd) (a : List Snd) : lcs (x :: a) [] = 0 := rfl
theorem lcs_cc (x : Snd) (a : List Snd) (y : Snd) (b : List Snd) : lcs (x :: a) (y :: b) = if x = y then 1 + lcs a b else max (lcs a (y :: b)) (lcs (x :: a) b) := rfl
/-- One sound more. -/
theorem lcs_more (a b : List Snd) : (∀ x, lcs a b ≤ lcs (x :: a) b ∧ lcs (x :: a) b ≤ 1 + lcs a b) ∧ ∀ y, lcs a b ≤ lcs a (y :: b) ∧ lcs a (y :: b) ≤ 1 + lcs a b := by
  refine pair_ind (M := fun a b => (∀ x, lcs a b ≤ lcs (x :: a) b ∧ lcs (x :: a) b ≤ 1 + lcs a b) ∧ ∀ y, lcs a b ≤ lcs a (y :: b) ∧ lcs a (y :: b) ≤ 1 + lcs a b) ?_ ?_ ?_ ?_ a b
  · simp [lcs_nil, lcs_cn]
  · intro y b h
    refine ⟨fun x => ?_, by simp [lcs_nil]⟩
    have := (h.1 x)
    rw [lcs_cc]
    simp only [lcs_nil] at *
    split <;> omega
  · intro x a h
    refine ⟨by simp [lcs_cn], fun y => ?_⟩
    have := (h.2 y)
    have e : lcs a [] = 0 := by cases a <;> rfl
    rw [lcs_cc]
    simp only [lcs_cn, e] at *
    split <;> omega
  · intro x a y b h1 h2 h3
    refine ⟨fun z => ?_, fun z => ?_⟩
    · have k1 := h3.1 z
      have k2 := h2.1 z
      have k3 := h2.1 x
      have k4 := h1.2 y
      have k5 := h1.1 x
      have k6 := h3.2 y
      rw [lcs_cc z (x :: a) y b]
      split <;> omega
    · have k1 := h2.2 z
      have k3 := h3.2 y
      have k4 := h1.2 y
      have k5 := h1.1 x
      have k6 := h3.2 z
      have k7 := h2.1 x
      rw [lcs_cc x a z (y :: b)]
      split <;> omega
theorem lcs_comm (a b : List Snd) : lcs a b = lcs b a := by
  refine pair_ind (M := fun a b => lcs a b = lcs b a) rfl ?_ ?_ ?_ a b
  · intro y b _; rfl
  · intro x a _; rfl
  · intro x a y b h1 h2 h3
    rw [lcs_cc, lcs_cc, h1, h2, h3]
    by_cases e : x = y
    · rw [if_pos e, if_pos e.symm]
    · rw [if_neg e, if_neg (Ne.symm e), Nat.max_comm]
theorem lcs_le (a b : List Snd) : lcs a b ≤ a.length ∧ lcs a b ≤ b.length := by
  refine pair_ind (M := fun a b => lcs a b ≤ a.length ∧ lcs a b ≤ b.length) ?_ ?_ ?_ ?_ a b
  · simp [lcs_nil]
  · intro y b _; simp [lcs_nil]
  · intro x a _; simp [lcs_cn]
  · intro x a y b h1 h2 h3
    simp only [List.length_cons] at *
    rw [lcs_cc]; split <;> omega
theorem rst_lcs {d : Snd → Snd → Int} {g : Int} (hg : 0 ≤ g) (hd : ∀ x y, 0 ≤ d x y) (h0 : ∀ x, d x x = 0) (ht : ∀ x y z, d x z ≤ d x y + d y z) (a b : List Snd) (h2 : ∀ x ∈ a, ∀ y ∈ b, x ≠ y → 2 * g ≤ d x y) : rst d g a b + 2 * (g * (lcs a b : Int)) = g * (a.length : Int) + g * (b.length : Int) := by
  have L : ∀ (z : Snd) (c : List Snd), g * ((z :: c).length : Int) = g * (c.length : Int) + g := fun z c => by rw [List.length_cons, Int.natCast_add, Int.mul_add]; simp
  revert h2
  refine pair_ind (M := fun a b => (∀ x ∈ a, ∀ y ∈ b, x ≠ y → 2 * g ≤ d x y) → rst d g a b + 2 * (g * (lcs a b : Int)) = g * (a.length : Int) + g * (b.length : Int)) ?_ ?_ ?_ ?_ a b
  · intro _; simp [rst_nn, lcs_nil]
  · intro y b h _
    replace h := h (by simp)
    rw [lcs_nil] at h ⊢
    rw [rst_nc, L]; omega
  · intro x a h _
    replace h := h (by simp)
    have e : lcs a [] = 0 := by cases a <;> rfl
    rw [e] at h
    rw [lcs_cn, rst_cn, L]; omega
  · intro x a y b k1 k2 k3 h2
    replace k1 := k1 fun s hs t ht => h2 s (by simp [hs]) t (by simp [ht])
    replace k2 := k2 fun s hs t ht => h2 s (by simp [hs]) t ht
    replace k3 := k3 fun s hs t ht => h2 s hs t (by simp [ht])
    rw [L, L]
    rw [L] at k2 k3
    by_cases e : x = y
    · subst e
      have : g * ((1 + lcs a b : Nat) : Int) = g + g * (lcs a b : Int) := by rw [Int.natCast_add, Int.mul_add]; simp
      rw [rst_front hg hd h0 ht, lcs_cc, if_pos rfl, this]
      omega
    · rw [rst_cc, lcs_cc, if_neg e]
      have m1 := (lcs_more a b).1 x
      have m2 := (lcs_more a b).2 y
      have := h2 x (by simp) y (by simp) e
      have q1 : g * (lcs a b : Int) ≤ g * (lcs a (y :: b) : Int) := Int.mul_le_mul_of_nonneg_left (by omega) hg
      have q2 : g * (lcs a b : Int) ≤ g * (lcs (x :: a) b : Int) := Int.mul_le_mul_of_nonneg_left (by omega) hg
      rcases Nat.le_total (lcs a (y :: b)) (lcs (x :: a) b) with hm | hm
      · have q3 : g * (lcs a (y :: b) : Int) ≤ g * (lcs (x :: a) b : Int) := Int.mul_le_mul_of_nonneg_left (by omega) hg
        rw [Nat.max_eq_right hm]
        omega
      · have q3 : g * (lcs (x :: a) b : Int) ≤ g * (lcs a (y :: b) : Int) := Int.mul_le_mul_of_nonneg_left (by omega) hg
        rw [Nat.max_eq_left hm]
        omega
theorem rst_congr {d d' : Snd → Snd → Int} {g : Int} (a b : List Snd) (h : ∀ x ∈ a, ∀ y ∈ b, d x y = d' x y) : rst d g a b = rst d' g a b := by
  revert h
  refine pair_ind (M := fun a b => (∀ x ∈ a, ∀ y ∈ b, d x y = d' x y) → rst d g a b = rst d' g a b) ?_ ?_ ?_ ?_ a b
  · intro _; rfl
  · intro y b k _; rw [rst_nc, rst_nc, k (by simp)]
  · intro x a k _; rw [rst_cn, rst_cn, k (by simp)]
  · intro x a y b k1 k2 k3 h
    rw [rst_cc, rst_cc, k1 fun s hs t ht => h s (by simp [hs]) t (by simp [ht]), k2 fun s hs t ht => h s (by simp [hs]) t ht, k3 fun s hs t ht => h s hs t (by simp [ht]), h x (by simp) y (by simp)]
end Go.Sy
namespace Go.Sy
open Go
/-! Words: their errors; steps of alignments; the number of the cheapest alignments; the first of them; the cost of any. -/
def checkW (w : List Snd) : Int := if w.length > 32 then 11 else if w.all valid = true then 0 else 14
theorem checkW_zero {w : List Snd} (h : checkW w = 0) : w.length ≤ 32 ∧ ∀ s ∈ w, valid s = true := by
  unfold checkW at h
  split at h
  · cases h
  · split at h
    · rename_i h1 h2; exact ⟨by omega, fun s hs => List.all_eq_true.1 h2 s hs⟩
    · cases h
/-- The first error of some words. -/
def checkL : List (List Snd) → Int
  | [] => 0
  | w :: l => if checkW w ≠ 0 then checkW w else checkL l
def checkE (ws : List Int) (gap : Int) (l : List (List Snd)) : Int := if checkC ws gap ≠ 0 then checkC ws gap else checkL l
abbrev Stp := Nat × Nat × Int
section
variable (d : Snd → Snd → Int) (g : Int) (a b : List Snd)
/-- The smallest cost from two places on. -/
def RA (i j : Nat) : Int := rst d g (a.drop i) (b.drop j)
def stepsA (i j : Nat) : List Stp :=
  match a[i]?, b[j]? with
  | some x, some y => [(i + 1, j + 1, d x y), (i + 1, j, g), (i, j + 1, g)]
  | some _, none => [(i + 1, j, g)]
  | none, some _ => [(i, j + 1, g)]
  | none, none => []
def minL : List Int → Int
  | [] => 0
  | x :: l => l.foldl min x
theorem RA_steps (i j : Nat) : RA d g a b i j = minL ((stepsA d g a b i j).map fun x => x.2.2 + RA d g a b x.1 x.2.1) := by
  unfold stepsA
  rcases Nat.lt_or_ge i a.length with hi | hi <;> rcases Nat.lt_or_ge j b.length with hj | hj
  · rw [List.getElem?_eq_getElem hi, List.getElem?_eq_getElem hj]
    simp only [RA, List.drop_eq_getElem_cons hi, List.drop_eq_getElem_cons hj, rst_cc, List.map_cons, List.map_nil, minL, List.foldl_cons, List.foldl_nil]
  · rw [List.getElem?_eq_getElem hi, List.getElem?_eq_none hj]
    simp only [RA, List.drop_eq_getElem_cons hi, List.drop_of_length_le hj, rst_cn, List.map_cons, List.map_nil, minL, List.foldl_nil]
  · rw [List.getElem?_eq_none hi, List.getElem?_eq_getElem hj]
    simp only [RA, List.drop_eq_getElem_cons hj, List.drop_of_length_le hi, rst_nc, List.map_cons, List.map_nil, minL, List.foldl_nil]
  · rw [List.getElem?_eq_none hi, List.getElem?_eq_none hj]
    simp only [RA, List.drop_of_length_le hi, List.drop_of_length_le hj, rst_nn, List.map_nil, minL]
/-- The steps of the cheapest alignments. -/
def cheapA (i j : Nat) : List Stp := (stepsA d g a b i j).filter fun x => x.2.2 + RA d g a b x.1 x.2.1 == RA d g a b i j
end
/-- A sum, or 2 to the 63. -/
def sat (x y : Nat) : Nat := min (x + y) (2 ^ 63)
theorem sat_comm (x y : Nat) : sat x y = sat y x := by unfold sat; rw [Nat.add_comm]
theorem sat_le (x y : Nat) : sat x y ≤ 2 ^ 63 := Nat.min_le_right _ _
section
variable (d : Snd → Snd → Int) (g : Int)
/-- How many alignments have the smallest cost. -/
def wayN : Nat → List Snd → List Snd → Nat
  | 0, _, _ => 1
  | n + 1, a, b =>
    match a, b with
    | [], [] => 1
    | x :: a, [] => wayN n a []
    | [], y :: b => wayN n [] b
    | x :: a, y :: b =>
      let R := rst d g (x :: a) (y :: b)
      sat (sat (if d x y + rst d g a b = R then wayN n a b else 0) (if g + rst d g a (y :: b) = R then wayN n a (y :: b) else 0)) (if g + rst d g (x :: a) b = R then wayN n (x :: a) b else 0)
theorem wayN_more (n m : Nat) (a b : List Snd) (h : a.length + b.length ≤ n) (h' : a.length + b.length ≤ m) : wayN d g n a b = wayN d g m a b := by
  induction n generalizing m a b with
  | zero =>
    cases a with
    | nil =>
      cases b with
      | nil => cases m <;> rfl
      | cons y b => simp at h
    | cons x a => simp at h
  | succ n ih =>
    cases m with
    | zero =>
      cases a with
      | nil =>
        cases b with
        | nil => rfl
        | cons y b => simp at h'
      | cons x a => simp at h'
    | succ m =>
      cases a with
      | nil =>
        cases b with
        | nil => rfl
        | cons y b => exact ih m [] b (by simp at h ⊢; omega) (by simp at h' ⊢; omega)
      | cons x a =>
        cases b with
        | nil => exact ih m a [] (by simp at h ⊢; omega) (by simp at h' ⊢; omega)
        | cons y b =>
          simp only [List.length_cons] at h h'
          simp only [wayN]
          rw [ih m a b (by omega) (by omega), ih m a (y :: b) (by simp; omega) (by simp; omega), ih m (x :: a) b (by simp; omega) (by simp; omega)]
def way (a b : List Snd) : Nat := wayN d g (a.length + b.length) a b
variable {d g}
theorem way_nn : way d g [] [] = 1 := rfl
theorem way_cn (x : Snd) (a : List Snd) : way d g (x :: a) [] = way d g a [] := by
  unfold way
  rw [show (x :: a).length + ([] : List Snd).length = (a.length + ([] : List Snd).length) + 1 by simp]
  rfl
theorem way_nc (y : Snd) (b : List Snd) : way d g [] (y :: b) = way d g [] b := by
  unfold way
  rw [show ([] : List Snd).length + (y :: b).length = (([] : List Snd).length + b.length) + 1 by simp]
  rfl
theorem wayN_cc (n : Nat) (x : Snd) (a : List Snd) (y : Snd) (b : List Snd) : wayN d g (n + 1) (x :: a) (y :: b) = sat (sat (if d x y + rst d g a b = rst d g (x :: a) (y :: b) then wayN d g n a b else 0) (if g + rst d g a (y :: b) = rst d g (x :: a) (y :: b) then wayN d g n a (y :: b) else 0)) (if g + rst d g (x :: a) b = rst d g (x :: a) (y :: b) then wayN d g n (x :: a) b else 0) := rfl
theorem way_cc (x : Snd) (a : List Snd) (y : Snd) (b : List Snd) : way d g (x :: a) (y :: b) = sat (sat (if d x y + rst d g a b = rst d g (x :: a) (y :: b) then way d g a b else 0) (if g + rst d g a (y :: b) = rst d g (x :: a) (y :: b) then way d g a (y :: b) else 0)) (if g + rst d g (x :: a) b = rst d g (x :: a) (y :: b) then way d g (x :: a) b else 0) := by
  unfold way
  rw [show (x :: a).length + (y :: b).length = (a.length + b.length + 1) + 1 by simp; omega, wayN_cc]
  rw [wayN_more d g _ (a.length + b.length) a b (by omega) (by omega), wayN_more d g _ (a.length + (y :: b).length) a (y :: b) (by simp; omega) (by simp), wayN_more d g _ ((x :: a).length + b.length) (x :: a) b (by simp; omega) (by simp)]
theorem way_le (a b : List Snd) : way d g a b ≤ 2 ^ 63 := by
  refine pair_ind (M := fun a b => way d g a b ≤ 2 ^ 63) (by rw [way_nn]; decide) ?_ ?_ ?_ a b
  · intro y b h; rw [way_nc]; exact h
  · intro x a h; rw [way_cn]; exact h
  · intro x a y b _ _ _; rw [way_cc]; exact sat_le _ _
theorem way_pos (a b : List Snd) : 1 ≤ way d g a b := by
  refine pair_ind (M := fun a b => 1 ≤ way d g a b) (by rw [way_nn]; decide) ?_ ?_ ?_ a b
  · intro y b h; rw [way_nc]; exact h
  · intro x a h; rw [way_cn]; exact h
  · intro x a y b h1 h2 h3
    have h := rst_cc d g x a y b
    rw [way_cc]
    unfold sat
    have hc : d x y + rst d g a b = rst d g (x :: a) (y :: b) ∨ g + rst d g a (y :: b) = rst d g (x :: a) (y :: b) ∨ g + rst d g (x :: a) b = rst d g (x :: a) (y :: b) := by omega
    rcases hc with e | e | e <;> rw [if_pos e] <;> omega
theorem way_comm (hd : ∀ x y, d x y = d y x) (a b : List Snd) : way d g a b = way d g b a := by
  refine pair_ind (M := fun a b => way d g a b = way d g b a) rfl ?_ ?_ ?_ a b
  · intro y b h; rw [way_nc, way_cn, h]
  · intro x a h; rw [way_nc, way_cn, h]
  · intro x a y b h1 h2 h3
    rw [way_cc, way_cc, h1, h2, h3, rst_comm hd (y :: b) (x :: a), rst_comm hd b a, rst_comm hd b (x :: a), rst_comm hd (y :: b) a, hd y x]
    unfold sat
    omega
end
section
variable (d : Snd → Snd → Int) (g : Int) (a b : List Snd)
def WA (i j : Nat) : Nat := way d g (a.drop i) (b.drop j)
theorem sat_zero {x : Nat} (h : x ≤ 2 ^ 63) : sat 0 x = x := by unfold sat; omega
theorem zero_sat {x : Nat} (h : x ≤ 2 ^ 63) : sat x 0 = x := by unfold sat; omega
theorem WA_steps (i j : Nat) : WA d g a b i j = ((cheapA d g a b i j).map fun x => WA d g a b x.1 x.2.1).foldl sat (if a.length ≤ i ∧ b.length ≤ j then 1 else 0) := by
  unfold cheapA stepsA
  rcases Nat.lt_or_ge i a.length with hi | hi <;> rcases Nat.lt_or_ge j b.length with hj | hj
  · rw [List.getElem?_eq_getElem hi, List.getElem?_eq_getElem hj, if_neg (by omega)]
    simp only [RA, WA, List.drop_eq_getElem_cons hi, List.drop_eq_getElem_cons hj, way_cc]
    have hc := rst_cc d g a[i] (a.drop (i + 1)) b[j] (b.drop (j + 1))
    have w1 := way_le (d := d) (g := g) (a.drop (i + 1)) (b.drop (j + 1))
    have w2 := way_le (d := d) (g := g) (a.drop (i + 1)) (b[j] :: b.drop (j + 1))
    have w3 := way_le (d := d) (g := g) (a[i] :: a.drop (i + 1)) (b.drop (j + 1))
    have f3 : ∀ (p q r : Stp → Bool) (X Y Z : Stp), [X, Y, Z].filter p = (if p X = true then [X] else []) ++ (if p Y = true then [Y] else []) ++ (if p Z = true then [Z] else []) := fun p _ _ X Y Z => by
      simp only [List.filter_cons, List.filter_nil]
      cases p X <;> cases p Y <;> cases p Z <;> rfl
    rw [f3 _ (fun _ => true) (fun _ => true)]
    simp only [List.drop_eq_getElem_cons hi, List.drop_eq_getElem_cons hj, beq_iff_eq]
    by_cases e1 : d a[i] b[j] + rst d g (a.drop (i + 1)) (b.drop (j + 1)) = rst d g (a[i] :: a.drop (i + 1)) (b[j] :: b.drop (j + 1)) <;>
    by_cases e2 : g + rst d g (a.drop (i + 1)) (b[j] :: b.drop (j + 1)) = rst d g (a[i] :: a.drop (i + 1)) (b[j] :: b.drop (j + 1)) <;>
    by_cases e3 : g + rst d g (a[i] :: a.drop (i + 1)) (b.drop (j + 1)) = rst d g (a[i] :: a.drop (i + 1)) (b[j] :: b.drop (j + 1)) <;>
    simp only [e1, e2, e3, if_true, if_false, List.nil_append, List.append_nil, List.cons_append, List.map_cons, List.map_nil, List.foldl_cons, List.foldl_nil, List.drop_eq_getElem_cons hi, List.drop_eq_getElem_cons hj] <;>
    simp only [sat] <;> omega
  · rw [List.getElem?_eq_getElem hi, List.getElem?_eq_none hj, if_neg (by omega)]
    simp only [RA, WA, List.drop_eq_getElem_cons hi, List.drop_of_length_le hj, way_cn, rst_cn, List.filter_cons, List.filter_nil, beq_self_eq_true, if_true, List.map_cons, List.map_nil, List.foldl_cons, List.foldl_nil, sat_zero (way_le _ _)]
  · rw [List.getElem?_eq_none hi, List.getElem?_eq_getElem hj, if_neg (by omega)]
    simp only [RA, WA, List.drop_eq_getElem_cons hj, List.drop_of_length_le hi, way_nc, rst_nc, List.filter_cons, List.filter_nil, beq_self_eq_true, if_true, List.map_cons, List.map_nil, List.foldl_cons, List.foldl_nil, sat_zero (way_le _ _)]
  · rw [List.getElem?_eq_none hi, List.getElem?_eq_none hj, if_pos ⟨hi, hj⟩]
    simp only [WA, List.drop_of_length_le hi, List.drop_of_length_le hj, way_nn, List.filter_nil, List.map_nil, List.foldl_nil]
/-- The first alignment of the smallest cost, from two places on. -/
def algA : Nat → Nat → Nat → List (Int × Int)
  | 0, _, _ => []
  | n + 1, i, j =>
    match cheapA d g a b i j with
    | [] => []
    | x :: _ => ((if x.1 = i then -1 else (i : Int)), (if x.2.1 = j then -1 else (j : Int))) :: algA n x.1 x.2.1
def algn : List (Int × Int) := algA d g a b (a.length + b.length) 0 0
/-- A step of an alignment that is given, by its places. -/
def stepQ (i j : Nat) (x : Int × Int) : Option Stp :=
  match a[i]?, b[j]? with
  | some u, some v => if x = ((i : Int), (j : Int)) then some (i + 1, j + 1, d u v) else if x = ((i : Int), -1) then some (i + 1, j, g) else if x = (-1, (j : Int)) then some (i, j + 1, g) else none
  | some _, none => if x = ((i : Int), -1) then some (i + 1, j, g) else none
  | none, some _ => if x = (-1, (j : Int)) then some (i, j + 1, g) else none
  | none, none => none
/-- Its cost from two places on. -/
def scoreA : List (Int × Int) → Nat → Nat → Option Int
  | [], i, j => if a.length ≤ i ∧ b.length ≤ j then some 0 else none
  | x :: l, i, j => (stepQ d g a b i j x).bind fun s => (scoreA l s.1 s.2.1).map (s.2.2 + ·)
end
end Go.Sy
/- Rules for what code does with slices and tables: elements, words, lists of words, tables in one block; what goes over where a round ends. -/
namespace Go.Sy
open Go Go.RowKit
section
variable {P : Program} {c : Cx} {L : List Nat} {ρ : Env} {blks : List Blk} {m : Mem} {R : Value → HW → Prop} {Dn : Nat → List U → HW → Prop} {A : List (List U → HW → Prop)}
/-- A round's end: blocks that it made go over to the next round as memory. -/
theorem DenM.againL {lvl nb : Nat} {shs : List Sh} {vals : List SV} {I : List U → Mem → Prop} (hA : A[lvl]? = some (inM c I)) (hI : Good c L m → I (Sh.uss L ρ shs vals) (blkMem L ρ (L.drop nb) (blks.drop nb) m)) : DenM P R Dn (.again lvl nb shs vals blks) L ρ c m A := fun g => by
  have hm' : ∀ b, blkMem L ρ (L.drop nb) (blks.drop nb) m b ≠ none → b ∈ L.drop nb ∨ m b ≠ none := fun b hb => by
    by_cases hL : b ∈ L.drop nb
    · exact .inl hL
    · rw [blkMem_not hL] at hb; exact .inr hb
  refine ⟨c.hw (blkMem L ρ (L.drop nb) (blks.drop nb) m), fun w hw => ⟨hw.hold.1, fun b o hb => ?_⟩, fun b hb => ?_, _, hA, _, fun b hb => ?_, rfl, hI g⟩
  · rcases blkMem_spec hb with ⟨j, k, h1, h2, rfl⟩ | h
    · rw [List.getElem?_drop] at h1 h2
      have := hw.blk _ k h2
      simpa [List.getD, h1] using this
    · exact hw.hold.2 b o h
  · rcases hb with hb | hb
    · exact .inl (.inl hb)
    · exact (hm' b hb).elim .inr fun h => .inl (.inr h)
  · rcases hm' b hb with h | h
    · exact (g.blk b (List.drop_subset _ _ h)).2
    · exact g.mem b h
theorem getElem_env (ρ : Env) (us : List U) (k : Nat) : (ρ ++ us)[ρ.length + k]? = us[k]? := by
  rw [List.getElem?_append_right (by omega), Nat.add_sub_cancel_left]
/-- A slice's element: the test and the load. -/
theorem DenM.elem {i : Nat} {I len : IT} {size : Nat} {sh : List Sh} {k : Tree} (us : List U) (xs : List Value) (j n : Nat) (hI : I.eval ρ = (j : Int)) (hn : len.eval ρ = (n : Int)) (hj : j < n) (hus : Sh.eats sh us = some []) (hc : Good c L m → Cells (vw c L ρ blks m) (ρ.ptr i) xs) (hlt : j * size < xs.length)
    (hx : ∀ (q : Nat) v, (SV.dens L (ρ ++ us) (Sh.freshs sh ρ.length).1)[q]? = some v → xs[j * size + q]? = some v) (hk : DenM P R Dn k L (ρ ++ us) c m A) :
    DenM P R Dn (.chk (.pick (.cmp .geq I (.lit 0)) (.pick (.cmp .lss I len) (.some i) (.lit false)) (.lit false)) (.load i (.off I size (.lit 0)) sh blks k)) L ρ c m A := fun g => by
  obtain ⟨b, o, hpe⟩ := (hc g).some hlt
  refine (DenM.chk ?_ (DenM.loadC us (ρ.ptr i) xs (j * size) rfl ?_ hus hc hlt hx hk)) g
  · simp only [BT.eval, IT.eval, hI, hn, hpe, cm, pick_and]
    simp; omega
  · simp only [IT.eval, hI]; simp
/-- Of one cell. -/
theorem DenM.elem1 {i : Nat} {I len : IT} {s : Sh} {k : Tree} (v : Value) (xs : List Value) (j n : Nat) (hI : I.eval ρ = (j : Int)) (hn : len.eval ρ = (n : Int)) (hj : j < n) (hc : Good c L m → Cells (vw c L ρ blks m) (ρ.ptr i) xs) (hx : xs[j]? = some v)
    (hk : DenM P R Dn k L (ρ ++ letU v) c m A) (hus : Sh.eats [s] (letU v) = some [] := by rfl) (hv : SV.dens L (ρ ++ letU v) (Sh.freshs [s] ρ.length).1 = [v] := by rfl) :
    DenM P R Dn (.chk (.pick (.cmp .geq I (.lit 0)) (.pick (.cmp .lss I len) (.some i) (.lit false)) (.lit false)) (.load i (.off I 1 (.lit 0)) [s] blks k)) L ρ c m A :=
  .elem (letU v) xs j n hI hn hj hus hc (by rw [Nat.mul_one]; exact (List.getElem?_eq_some_iff.1 hx).1) (fun q w hw => by
    rw [hv] at hw
    cases q with
    | zero => simp at hw; subst hw; simpa using hx
    | succ q => simp at hw) hk
/-! Words. -/
def scell (s : Snd) : List Value := [.int .u32 s.1, .int .u32 s.2]
def wcells (w : List Snd) : List Value := w.flatMap scell
theorem wcells_len (w : List Snd) : (wcells w).length = w.length * 2 := by
  induction w with
  | nil => rfl
  | cons s w ih => simp only [wcells, List.flatMap_cons, List.length_append, List.length_cons] at *; rw [ih]; simp [scell]; omega
theorem wcells_append (a b : List Snd) : wcells (a ++ b) = wcells a ++ wcells b := List.flatMap_append ..
theorem wcells_at (w : List Snd) (j : Nat) (h : j < w.length) : (wcells w)[j * 2]? = some (.int .u32 w[j].1) ∧ (wcells w)[j * 2 + 1]? = some (.int .u32 w[j].2) := by
  induction w generalizing j with
  | nil => simp at h
  | cons s w ih =>
    cases j with
    | zero => exact ⟨rfl, rfl⟩
    | succ j =>
      have := ih j (by simpa using h)
      simp only [wcells, List.flatMap_cons, scell, List.cons_append, List.nil_append] at *
      rw [show (j + 1) * 2 = j * 2 + 2 by omega, show j * 2 + 2 + 1 = (j * 2 + 1) + 2 by omega]
      simpa using this
abbrev WordAt (V : Mv) (p : Option Addr) (w : List Snd) : Prop := Cells V p (wcells w)
theorem DenM.loadW {i : Nat} {I len : IT} {k : Tree} (w : List Snd) (j : Nat) (hj : j < w.length) (hw : Good c L m → WordAt (vw c L ρ blks m) (ρ.ptr i) w) (hk : DenM P R Dn k L (ρ ++ [.i (w[j].1 : Int), .i (w[j].2 : Int)]) c m A) (hI : I.eval ρ = (j : Int) := by rfl) (hn : len.eval ρ = (w.length : Int) := by rfl) :
    DenM P R Dn (.chk (.pick (.cmp .geq I (.lit 0)) (.pick (.cmp .lss I len) (.some i) (.lit false)) (.lit false)) (.load i (.off I 2 (.lit 0)) [(.int .u32), (.int .u32)] blks k)) L ρ c m A := by
  have h := wcells_at w j hj
  refine .elem [.i (w[j].1 : Int), .i (w[j].2 : Int)] (wcells w) j w.length hI hn hj rfl hw (by rw [wcells_len]; omega) (fun q v hv => ?_) hk
  simp only [Sh.freshs, Sh.fresh, SV.dens, SV.den, IT.eval, int_at, env_int_at1] at hv
  match q, hv with
  | 0, hv => simp at hv; rw [← hv]; exact h.1
  | 1, hv => simp at hv; rw [← hv]; exact h.2
  | q + 2, hv => simp at hv
/-- A slice's value is in a cell: three letters. -/
structure WD where
  p : Option Addr
  cap : Nat
  w : List Snd
def WD.v (x : WD) : Value := slv x.p x.w.length x.cap
theorem DenM.loadSl {i : Nat} {I len : IT} {k : Tree} (xs : List Value) (j n : Nat) (q : Option Addr) (kn cap : Nat) (hj : j < n) (hx : xs[j]? = some (slv q kn cap)) (hw : Good c L m → Cells (vw c L ρ blks m) (ρ.ptr i) xs) (hk : DenM P R Dn k L (ρ ++ [.p q, .i kn, .i cap]) c m A) (hI : I.eval ρ = (j : Int) := by rfl) (hn : len.eval ρ = (n : Int) := by rfl) :
    DenM P R Dn (.chk (.pick (.cmp .geq I (.lit 0)) (.pick (.cmp .lss I len) (.some i) (.lit false)) (.lit false)) (.load i (.off I 1 (.lit 0)) [.sl] blks k)) L ρ c m A := by
  refine .elem [.p q, .i kn, .i cap] xs j n hI hn hj rfl hw (by rw [Nat.mul_one]; exact (List.getElem?_eq_some_iff.1 hx).1) (fun q' v hv => ?_) hk
  match q', hv with
  | 0, hv =>
    simp only [Sh.freshs, SV.dens] at hv
    rw [slv_fresh] at hv
    simp only [List.getElem?_cons_zero, Option.some.injEq] at hv
    rw [← hv, Nat.mul_one]; exact hx
  | q' + 1, hv => simp [Sh.freshs, SV.dens] at hv
/-- A word in a cell of a slice. -/
theorem DenM.loadWD {i : Nat} {I len : IT} {k : Tree} (l : List WD) (j : Nat) (hj : j < l.length) (hw : Good c L m → Cells (vw c L ρ blks m) (ρ.ptr i) (l.map WD.v)) (hk : DenM P R Dn k L (ρ ++ [.p l[j].p, .i l[j].w.length, .i l[j].cap]) c m A) (hI : I.eval ρ = (j : Int) := by rfl) (hn : len.eval ρ = (l.length : Int) := by rfl) :
    DenM P R Dn (.chk (.pick (.cmp .geq I (.lit 0)) (.pick (.cmp .lss I len) (.some i) (.lit false)) (.lit false)) (.load i (.off I 1 (.lit 0)) [.sl] blks k)) L ρ c m A :=
  .loadSl (l.map WD.v) j l.length _ _ _ hj (by simp [hj, WD.v]) hw hk hI hn
/-! A table of 33 rows of 33 numbers in one block, behind other cells. -/
def gcells (hd : List Value) (k : IntKind) (f : Nat → Nat → Int) : List Value := hd ++ (List.range 1089).map fun t => .int k (f (t / 33) (t % 33))
def upd2 (f : Nat → Nat → Int) (i j : Nat) (v : Int) : Nat → Nat → Int := fun i' j' => if i' = i ∧ j' = j then v else f i' j'
theorem gcells_len (hd : List Value) (k : IntKind) (f : Nat → Nat → Int) : (gcells hd k f).length = hd.length + 1089 := by simp [gcells]
theorem gcells_at (hd : List Value) (k : IntKind) (f : Nat → Nat → Int) (i j : Nat) (hi : i < 33) (hj : j < 33) : (gcells hd k f)[hd.length + (i * 33 + j)]? = some (.int k (f i j)) := by
  have ht : i * 33 + j < 1089 := by omega
  rw [gcells, List.getElem?_append_right (by omega), Nat.add_sub_cancel_left, List.getElem?_map, List.getElem?_range ht, Option.map_some, show (i * 33 + j) / 33 = i by omega, show (i * 33 + j) % 33 = j by omega]
theorem gcells_hd (hd : List Value) (k : IntKind) (f : Nat → Nat → Int) (o : Nat) (h : o < hd.length) : (gcells hd k f)[o]? = hd[o]? := List.getElem?_append_left h
theorem gcells_zero (hd : List Value) (k : IntKind) : gcells hd k (fun _ _ => 0) = hd ++ List.replicate 1089 (.int k 0) := by
  unfold gcells
  rw [List.map_const', List.length_range]
theorem gcells_upd (hd : List Value) (k : IntKind) (f : Nat → Nat → Int) (i j : Nat) (v : Int) (hi : i < 33) (hj : j < 33) : putAt (gcells hd k f) (hd.length + (i * 33 + j)) [.int k v] = gcells hd k (upd2 f i j v) := by
  have ht : i * 33 + j < 1089 := by omega
  apply List.ext_getElem?
  intro n
  have hlen := gcells_len hd k f
  unfold putAt
  rcases Nat.lt_trichotomy n (hd.length + (i * 33 + j)) with hn | rfl | hn
  · rw [List.append_assoc, List.getElem?_append_left (by rw [List.length_take]; omega), List.getElem?_take, if_pos hn]
    rcases Nat.lt_or_ge n hd.length with h | h
    · rw [gcells_hd _ _ _ _ h, gcells_hd _ _ _ _ h]
    · obtain ⟨t, rfl⟩ : ∃ t, n = hd.length + t := ⟨n - hd.length, by omega⟩
      simp only [gcells]
      rw [List.getElem?_append_right (by omega), List.getElem?_append_right (by omega), Nat.add_sub_cancel_left, List.getElem?_map, List.getElem?_map, List.getElem?_range (by omega)]
      simp only [Option.map_some, upd2]
      rw [if_neg (by omega)]
  · rw [List.append_assoc, List.getElem?_append_right (by rw [List.length_take]; omega), List.length_take, Nat.min_eq_left (by omega), Nat.sub_self, gcells_at _ _ _ i j hi hj]
    simp [upd2]
  · rw [List.getElem?_append_right (by simp; omega)]
    simp only [List.length_append, List.length_take, List.length_cons, List.length_nil, Nat.min_eq_left (by omega : hd.length + (i * 33 + j) ≤ (gcells hd k f).length)]
    rw [List.getElem?_drop, show hd.length + (i * 33 + j) + (0 + 1) + (n - (hd.length + (i * 33 + j) + (0 + 1))) = n by omega]
    obtain ⟨t, rfl⟩ : ∃ t, n = hd.length + t := ⟨n - hd.length, by omega⟩
    rcases Nat.lt_or_ge t 1089 with h | h
    · simp only [gcells]
      rw [List.getElem?_append_right (by omega), List.getElem?_append_right (by omega), Nat.add_sub_cancel_left, List.getElem?_map, List.getElem?_map, List.getElem?_range h]
      simp only [Option.map_some, upd2]
      rw [if_neg (by omega)]
    · rw [List.getElem?_eq_none (by rw [gcells_len]; omega), List.getElem?_eq_none (by rw [gcells_len]; omega)]
theorem DenM.loadG {pi : Nat} {I J : IT} {base : Nat} {kd : IntKind} {k : Tree} (b : Nat) (hd : List Value) (f : Nat → Nat → Int) (i j : Nat) (hp : ρ.ptr pi = some ⟨b, 0, none⟩) (hi : i < 33) (hj : j < 33) (hb : hd.length = base) (hc : Good c L m → Cells (vw c L ρ blks m) (ρ.ptr pi) (gcells hd kd f)) (hk : DenM P R Dn k L (ρ ++ [.i (f i j)]) c m A)
    (hI : I.eval ρ = (i : Int) := by rfl) (hJ : J.eval ρ = (j : Int) := by rfl) :
    DenM P R Dn (.chk (.pick (.cmp .geq I (.lit 0)) (.pick (.cmp .lss I (.lit 33)) (.some pi) (.lit false)) (.lit false)) (.chk (.pick (.cmp .geq (.off I 33 (.lit base)) (.lit 0)) (.pick (.cmp .geq J (.lit 0)) (.pick (.cmp .lss J (.lit 33)) (.some pi) (.lit false)) (.lit false)) (.lit false))
      (.load pi (.off J 1 (.off I 33 (.lit base))) [(.int kd)] blks k))) L ρ c m A := by
  refine .chk ?_ (.chk ?_ (.loadC [.i (f i j)] (ρ.ptr pi) (gcells hd kd f) (base + (i * 33 + j)) rfl ?_ rfl hc (by rw [gcells_len]; omega) (fun q v hv => ?_) hk))
  · simp only [BT.eval, IT.eval, hI, hp, cm, pick_and]; simp; omega
  · simp only [BT.eval, IT.eval, hI, hJ, hp, cm, pick_and]; simp; omega
  · simp only [IT.eval, hI, hJ]; omega
  · simp only [Sh.freshs, Sh.fresh, SV.dens, SV.den, IT.eval, int_at] at hv
    match q, hv with
    | 0, hv => simp at hv; rw [← hv, ← hb]; exact gcells_at hd kd f i j hi hj
    | q + 1, hv => simp at hv
theorem DenM.storeG {pi : Nat} {I J T : IT} {base : Nat} {kd : IntKind} {k : Tree} (b : Nat) (e : TypeId) (hd : List Value) (f : Nat → Nat → Int) (i j : Nat) (v : Int) (hp : ρ.ptr pi = some ⟨b, 0, none⟩) (hi : i < 33) (hj : j < 33) (hb : hd.length = base) (hm : m b = some (.cells (gcells hd kd f).toArray e (0, 0)))
    (hT : T.eval ρ = v) (hk : DenM P R Dn k L ρ c (m.upd b (.cells (gcells hd kd (upd2 f i j v)).toArray e (0, 0))) A) (hI : I.eval ρ = (i : Int) := by rfl) (hJ : J.eval ρ = (j : Int) := by rfl) :
    DenM P R Dn (.chk (.pick (.cmp .geq I (.lit 0)) (.pick (.cmp .lss I (.lit 33)) (.some pi) (.lit false)) (.lit false)) (.chk (.pick (.cmp .geq (.off I 33 (.lit base)) (.lit 0)) (.pick (.cmp .geq J (.lit 0)) (.pick (.cmp .lss J (.lit 33)) (.some pi) (.lit false)) (.lit false)) (.lit false))
      (.store false pi (.off J 1 (.off I 33 (.lit base))) [(.int kd T)] blks k))) L ρ c m A := by
  refine .chk ?_ (.chk ?_ (.store b (base + (i * 33 + j)) (gcells hd kd f).toArray e rfl ?_ hm ?_ ?_))
  · simp only [BT.eval, IT.eval, hI, hp, cm, pick_and]; simp; omega
  · simp only [BT.eval, IT.eval, hI, hJ, hp, cm, pick_and]; simp; omega
  · simp only [atAddr, hp, IT.eval, hI, hJ, Option.map_some, addr_add]
    rw [show ((base : Int) + (i : Int) * ((33 : Nat) : Int) + (j : Int) * ((1 : Nat) : Int)).toNat = base + (i * 33 + j) by omega]
    simp
  · have := gcells_len hd kd f
    simp; omega
  · simp only [SV.dens, SV.den, hT]
    rw [← hb, gcells_upd hd kd f i j v hi hj]
    exact hk
end
end Go.Sy
/- Functions that are ranged over: contracts out of their trees; what stands around a yield; a range inside them. -/
namespace Go.Sy
open Go Go.RowKit
/-- What all worlds read at a cell is one's own. -/
theorem own_of_reads {hT : HW} {b o : Nat} {v : Value} (hw : ∃ w, hT.H w) (h : ∀ w, hT.H w → w.cell? ⟨b, o, none⟩ = some v) : hT.own b := by
  refine Classical.byContradiction fun hn => ?_
  obtain ⟨w, hw⟩ := hw
  have h1 := h w hw
  have h2 := h _ (hT.stab w (w.setRow b #[]) hw (by simp) (fun k hk => setRow_other _ _ _ _ fun e => hn (e ▸ hk)) rfl rfl rfl)
  have hlt := World.block_lt_of_cell? w ⟨b, o, none⟩ h1
  unfold World.cell? at h1
  simp only at h1
  split at h1
  · rename_i cs e fr hb
    have h3 := setRow_heap w b cs #[] e fr hb
    unfold World.cell? at h2
    simp only [h3] at h2
    simp at h2
  · cases h1
theorem own_of_map {hT : HW} {b : Nat} {es : Array MapEntry} (hw : ∃ w, hT.H w) (h : ∀ w, hT.H w → (Mv.of w).m b = some es) : hT.own b := by
  refine Classical.byContradiction fun hn => ?_
  obtain ⟨w, hw⟩ := hw
  obtain ⟨k, h1⟩ := Mv.of_m.1 (h w hw)
  have hlt := (Array.getElem?_eq_some_iff.1 h1).1
  obtain ⟨k2, h2⟩ := Mv.of_m.1 (h { w with heap := w.heap.setIfInBounds b (.cells #[] 0 (0, 0)) } (hT.stab w _ hw (by simp) (fun k hk => by
    have hne : b ≠ k := fun e => hn (by rw [e]; exact hk)
    show (w.heap.setIfInBounds b _)[k]? = _
    rw [Array.getElem?_setIfInBounds_ne hne]) rfl rfl rfl))
  replace h2 : (w.heap.setIfInBounds b (.cells #[] 0 (0, 0)))[b]? = some (.map es k2) := h2
  rw [Array.getElem?_setIfInBounds_self_of_lt hlt] at h2
  cases h2
/-- What stands around a yield, and how it reads. -/
def Cx.inside (hT : HW) (S : Mv) (hw : ∃ w, hT.H w) (hS : ∀ w, hT.H w → S.le (Mv.of w)) : Cx where
  hb := hT
  R := S
  ok w b o v := fun h hv => hS w h b o v hv
  own b o v := fun hv => own_of_reads hw fun w h => hS w h b o v hv
  okm w b es := fun h hv => (hS w h).m b es hv
  ownm b es := fun hv => own_of_map hw fun w h => (hS w h).m b es hv
/-- How an iterator ends. -/
def REnd (n : Nat) (J : Nat → HW → Prop) (E : HW → Prop) : Value → HW → Prop := fun _ h' => ∃ hT : HW, (∀ w, h'.H w → hT.H w) ∧ (∀ b, hT.own b → h'.own b) ∧ (J n hT ∨ E hT)
section
variable {P : Program}
/-- An iterator, out of its tree. -/
theorem Iter.of {gf : FuncId} {shs : List Sh} {t : Tree} (hS : FnIs P gf shs t) (hmix : P.follows .mixedOrders = true) {lb : Array Value} {mf : Mem} {S : Mv} {xs : List (List Value)} (cap : List U)
    (hargs : ∀ yv, SV.dens [] (.v yv :: cap) (Sh.freshs shs 0).1 = yv :: lb.toList) (hus : ∀ yv, Value.oneCell' yv = true → Sh.eats shs (.v yv :: cap) = some [])
    (hd : ∀ (yv : Value) (J : Nat → HW → Prop) (E : HW → Prop), yv.oneCell' = true → YieldOk P yv xs J E → (∀ k h w, J k h → h.H w → S.le (Mv.of w)) → ∀ h (hw : ∃ w, h.H w) (hJ : J 0 h), Disj h (HW.mem mf) →
      DenM P (REnd xs.length J E) (fun _ _ _ => False) t [] (.v yv :: cap) (Cx.around h) mf []) : Iter P gf lb (fun w => S.le (Mv.of w)) (HW.mem mf) xs := by
  intro yv J E h w hyv hy hpre hJ hh hf hdj
  obtain ⟨fn, ann, fuel, hfn, ht⟩ := hS
  have key := fn_sound hfn hmix ht (us := .v yv :: cap) (usOk_of (hus yv hyv)) (args := yv :: lb.toList) (hargs yv) (h := h.sep (HW.mem mf)) (w := w) ⟨hh, hf⟩ (R := REnd xs.length J E)
    (hd yv J E hyv hy hpre h ⟨w, hh⟩ hJ hdj ⟨fun k hk ho => hdj k ho hk, by simp, List.nodup_nil⟩)
  have he : (yv :: lb.toList).toArray = #[yv] ++ lb := by rw [show (yv :: lb.toList) = [yv] ++ lb.toList from rfl]; simp
  rw [he] at key
  refine key.mono ?_
  rintro e w' ⟨v, rfl, h', hH', hg, hT, h1, h2, h3⟩
  exact ⟨⟨v, rfl⟩, hT, h1 w' hH', ⟨hg.size, fun k hk hn => ⟨fun ho => (hg.same k hk hn).1 (h2 k ho), (hg.same k hk hn).2⟩, hg.tape, hg.os, hg.output⟩, h3⟩
end
section
variable {P : Program} {L : List Nat} {ρ : Env} {blks : List Blk} {m : Mem} {R : Value → HW → Prop} {Dn : Nat → List U → HW → Prop} {A : List (List U → HW → Prop)}
theorem cx_hw_inside {hT : HW} {S : Mv} {hw : ∃ w, hT.H w} {hS : ∀ w, hT.H w → S.le (Mv.of w)} : (Cx.inside hT S hw hS).hw m = hT.sep (HW.mem m) := rfl
theorem good_of_disj {hT : HW} {S : Mv} {hw : ∃ w, hT.H w} {hS : ∀ w, hT.H w → S.le (Mv.of w)} (hd : Disj hT (HW.mem m)) : Good (Cx.inside hT S hw hS) [] m := ⟨fun k hk ho => hd k ho hk, by simp, List.nodup_nil⟩
/-- Out of what stands around, as it reads. -/
theorem DenM.into {hT : HW} {S : Mv} {t : Tree} (hw : ∃ w, hT.H w) (hS : ∀ w, hT.H w → S.le (Mv.of w)) (h : DenM P R Dn t L ρ (Cx.inside hT S hw hS) m A) : DenM P R Dn t L ρ (Cx.around hT) m A := fun g => h ⟨g.mem, g.blk, g.nd⟩
theorem DenM.out {hT : HW} {S : Mv} {t : Tree} {hw : ∃ w, hT.H w} {hS : ∀ w, hT.H w → S.le (Mv.of w)} (h : DenM P R Dn t L ρ (Cx.around hT) m A) : DenM P R Dn t L ρ (Cx.inside hT S hw hS) m A := fun g => h ⟨g.mem, g.blk, g.nd⟩
/-- The next of the list is yielded. -/
theorem DenM.yield {c : Cx} {f : SV} {args : List SV} {k : Tree} {yv : Value} {xs : List (List Value)} {J : Nat → HW → Prop} {E : HW → Prop} {q : Nat} {x : List Value} (hy : YieldOk P yv xs J E) (hJ : J q c.hb) (hx : xs[q]? = some x)
    (ht : ∀ hT' (_ : ∃ w, hT'.H w), J (q + 1) hT' → DenM P R Dn k L (ρ ++ [.b true]) (Cx.around hT') m A) (he : ∀ hT', E hT' → DenM P R Dn k L (ρ ++ [.b false]) (Cx.around hT') m A)
    (hf : f.den L ρ = yv := by rfl) (hargs : SV.dens L ρ args = x := by rfl) (hs : scBlks ρ.length blks = true := by rfl) :
    DenM P R Dn (.callv false f args .bool blks k) L ρ c m A := fun g => by
  intro w hw
  rw [hf, hargs]
  refine CallV.mono ?_ (hy q x c.hb w hx hJ hw.hold.1)
  rintro v w' ⟨hT', hH, hg, hor⟩
  have hd : Disj c.hb (HW.mem m) := fun b ho hb => g.mem b hb ho
  have hmem := hg.keeps hw.hold.2 hd.symm
  have hkeep : ∀ b ∈ L, w'.heap[b]? = w.heap[b]? ∧ ¬ hT'.own b := fun b hb => by
    have := hg.same b (hw.lt b hb) (fun ho => hw.good b hb (.inl ho))
    exact ⟨this.2, this.1⟩
  have hgood : Good (Cx.around hT') L m := ⟨fun b hb ho => hmem.2 b hb ho, fun b hb => ⟨(g.blk b hb).1, (hkeep b hb).2⟩, g.nd⟩
  have hwd : Wd L ρ blks (hT'.sep (HW.mem m)) w' := ⟨hw.len, fun j k hj => ((hkeep _ (getD_mem (by rw [hw.len]; exact (List.getElem?_eq_some_iff.1 hj).1))).1).trans (hw.blk j k hj), hw.nd, fun b hb ho => by
    rcases ho with ho | ho
    · exact (hkeep b hb).2 ho
    · exact hw.good b hb (.inr ho), hH, hmem.1⟩
  have hgr : ∀ us, Grow (kw L ρ blks (c.hw m)) w (kw L (ρ ++ us) blks (hT'.sep (HW.mem m))) w' := fun us => ⟨hg.size, fun i hi hn => by
    have h1 := hg.same i hi (fun ho => hn (.inl (.inl ho)))
    refine ⟨fun ho => ?_, h1.2⟩
    rcases ho with (ho | ho) | ho
    · exact h1.1 ho
    · exact hn (.inl (.inr ho))
    · exact hn (.inr ho), hg.tape, hg.os, hg.output⟩
  rcases hor with ⟨rfl, hJ'⟩ | ⟨rfl, hE⟩
  · refine ⟨[.b true], _, ⟨true, rfl⟩, ?_, hgr _, fun h => (by cases h), (Wd.letters hs).2 hwd, ht hT' ⟨w', hH⟩ hJ' hgood⟩
    simp only [Sh.fresh, SV.den, BT.eval]; rw [bool_at]
  · refine ⟨[.b false], _, ⟨false, rfl⟩, ?_, hgr _, fun h => (by cases h), (Wd.letters hs).2 hwd, he hT' hE hgood⟩
    simp only [Sh.fresh, SV.den, BT.eval]; rw [bool_at]
/-- The end of an iterator. -/
theorem DenM.stop {c : Cx} {x : SV} {n : Nat} {J : Nat → HW → Prop} {E : HW → Prop} (h : J n c.hb ∨ E c.hb) : DenM P (REnd n J E) Dn (.ret x blks) L ρ c m A := fun _ =>
  ⟨c.hw m, fun _ hw => hw.hold, fun _ hb => .inl hb, c.hb, fun _ hw => hw.1, fun _ hb => .inl hb, h⟩
/-- What is around may change while ways part and meet again: I says what is around, too. -/
def inY (I : List U → Mem → HW → Prop) : List U → HW → Prop := fun us h => ∃ (hT : HW) (m : Mem), Disj hT (HW.mem m) ∧ h = hT.sep (HW.mem m) ∧ I us m hT
theorem DenM.joinY {c : Cx} {lvl : Nat} {shs : List Sh} {head : List Blk} {t k : Tree} (I : List U → Mem → HW → Prop) (ht : DenM P R Dn t L ρ c m (A.take lvl ++ [inY I]))
    (hk : ∀ us m' hT, UsOk shs us → I us m' hT → (∃ w, hT.H w) → DenM P R Dn k L (ρ ++ us) (Cx.around hT) m' A) : DenM P R Dn (.join lvl shs head t k) L ρ c m A := fun g => by
  refine ⟨inY I, ht g, ?_⟩
  rintro us _ hus ⟨hT, m', hm', rfl, hI⟩ ⟨w, hw⟩
  exact hk us m' hT hus hI ⟨w, hw.hold.1⟩ ⟨fun b hb ho => hm' b ho hb, fun b hb' => ⟨by
    cases hm : m' b with
    | none => rfl
    | some o => exact absurd (Or.inr (by show m' b ≠ none; rw [hm]; simp)) (hw.good b hb'), fun ho => hw.good b hb' (.inl ho)⟩, hw.nd⟩
theorem DenM.loopY {c : Cx} {lvl : Nat} {shs : List Sh} {vals : List SV} {head : List Blk} {body : Tree} (I : Nat → List U → Mem → HW → Prop) (n0 : Nat) (h0 : I n0 (Sh.uss L ρ shs vals) m c.hb)
    (hb : ∀ n us m' hT, UsOk shs us → I n us m' hT → (∃ w, hT.H w) → DenM P R Dn body L (ρ ++ us) (Cx.around hT) m' (A.take lvl ++ [inY fun us' m'' hT' => ∃ n', n' < n ∧ I n' us' m'' hT'])) : DenM P R Dn (.loop lvl shs vals blks head body) L ρ c m A := fun g => by
  refine ⟨fun n => inY (I n), n0, ⟨c.hb, m, fun b ho hb => g.mem b hb ho, rfl, h0⟩, ?_⟩
  rintro n us _ hus ⟨hT, m', hm', rfl, hI⟩ ⟨w, hw⟩
  have := hb n us m' hT hus hI ⟨w, hw.hold.1⟩ ⟨fun b hb ho => hm' b ho hb, fun b hb' => ⟨by
    cases hm : m' b with
    | none => rfl
    | some o => exact absurd (Or.inr (by show m' b ≠ none; rw [hm]; simp)) (hw.good b hb'), fun ho => hw.good b hb' (.inl ho)⟩, hw.nd⟩
  have he : (fun us' h' => ∃ m', m' < n ∧ inY (I m') us' h') = inY fun us' m'' hT' => ∃ n', n' < n ∧ I n' us' m'' hT' := by
    funext us' h'
    apply propext
    constructor
    · rintro ⟨n', hn', hT', m2, q1, q2, q3⟩; exact ⟨hT', m2, q1, q2, n', hn', q3⟩
    · rintro ⟨hT', m2, q1, q2, n', hn', q3⟩; exact ⟨n', hn', hT', m2, q1, q2, q3⟩
  rw [he]
  exact this
theorem DenM.againY {c : Cx} {lvl nb : Nat} {shs : List Sh} {vals : List SV} {I : List U → Mem → HW → Prop} (hA : A[lvl]? = some (inY I)) (hI : I (Sh.uss L ρ shs vals) m c.hb) : DenM P R Dn (.again lvl nb shs vals blks) L ρ c m A :=
  fun g => ⟨c.hw m, fun _ hw => hw.hold, fun _ h => .inl h, _, hA, c.hb, m, fun b ho hb => g.mem b hb ho, rfl, hI⟩
theorem DenM.leaveY {c : Cx} {n nb : Nat} {shs : List Sh} {vals : List SV} {I : Nat → List U → Mem → HW → Prop} (hI : I n (Sh.uss L ρ shs vals) m c.hb) : DenM P R (fun n => inY (I n)) (.leave n nb shs vals blks) L ρ c m A :=
  fun g => ⟨c.hw m, fun _ hw => hw.hold, fun _ h => .inl h, c.hb, m, fun b ho hb => g.mem b hb ho, rfl, hI⟩
/-- Memory without what another has. -/
def Mem.minus (m mf : Mem) : Mem := fun b => match mf b with | some _ => none | none => m b
theorem Mem.minus_join {m mf : Mem} (h : ∀ b o, mf b = some o → m b = some o) : m = (m.minus mf).join mf := by
  funext b
  show m b = match (match mf b with | some _ => none | none => m b : Option Obj) with | some o => some o | none => mf b
  cases hf : mf b with
  | none => dsimp only; cases m b <;> rfl
  | some o => exact h b o hf
theorem Mem.minus_none {m mf : Mem} (b : Nat) (h : m.minus mf b ≠ none) : mf b = none := by
  unfold Mem.minus at h
  cases hf : mf b with
  | none => rfl
  | some o => rw [hf] at h; exact absurd rfl h
theorem Mem.minus_at {m mf : Mem} {b : Nat} (h : mf b = none) : m.minus mf b = m b := by unfold Mem.minus; rw [h]
/-- A range over a function, where what is around may change in the rounds (yields). S: how the function's world reads. -/
theorem DenM.rangeY {c : Cx} {f : SV} {psh shs : List Sh} {vals : List SV} {head : List Blk} {body rest : Tree} (gf : FuncId) (lb : Array Value) (xs : List (List U)) (S : Mv) (mf : Mem) (I E : Nat → List U → Mem → HW → Prop)
    (hfv : f.den L ρ = .func (.func gf) #[] lb) (hgf : goodFn P gf = true) (hmf : ∀ b o, mf b = some o → m b = some o) (hxs : ∀ ux ∈ xs, Sh.eats psh ux = some [])
    (hiter : Iter P gf lb (fun w => S.le (Mv.of w)) (HW.mem mf) (xs.map fun ux => SV.dens [] ux (Sh.freshs psh 0).1)) (h0 : I 0 (Sh.uss L ρ shs vals) (m.minus mf) c.hb)
    (hpre : ∀ k us m' hT w, I k us m' hT → Wd L (ρ ++ us) head (hT.sep (HW.mem m')) w → S.le (Mv.of w))
    (hbody : ∀ k us ux m' hT, UsOk shs us → xs[k]? = some ux → I k us m' hT → (∃ w, hT.H w) → DenM P (fun _ _ => False) (fun n => inY fun us' m'' hT' => (n = 0 ∧ I (k + 1) us' m'' hT') ∨ (n ≠ 0 ∧ E n us' m'' hT')) body L (ρ ++ us ++ ux) (Cx.around hT) m' [])
    (hend : ∀ us m' hT, UsOk shs us → I xs.length us m' hT → (∃ w, hT.H w) → DenM P R Dn rest L (ρ ++ us ++ [.i 0]) (Cx.around hT) m' A)
    (hleft : ∀ n us m' hT, n ≠ 0 → UsOk shs us → E n us m' hT → (∃ w, hT.H w) → DenM P R Dn rest L (ρ ++ us ++ [.i (n : Nat)]) (Cx.around hT) m' A) : DenM P R Dn (.range f psh shs vals blks head body rest) L ρ c m A := fun g => by
  have hm0 : ∀ b, m.minus mf b ≠ none → m b ≠ none := fun b hb => by rw [Mem.minus_at (Mem.minus_none b hb)] at hb; exact hb
  have hmf' : ∀ b, mf b ≠ none → m b ≠ none := fun b hb => by
    cases h : mf b with
    | none => exact absurd h hb
    | some o => rw [hmf b o h]; simp
  have good : ∀ us m' hT, Disj hT (HW.mem m') → (∃ w, Wd L (ρ ++ us) head (hT.sep (HW.mem m')) w) → Good (Cx.around hT) L m' ∧ ∃ w, hT.H w := fun us m' hT h1 ⟨w, hw⟩ => ⟨⟨fun b hb ho => h1 b ho hb, fun b hb' => ⟨by
    cases hm : m' b with
    | none => rfl
    | some o => exact absurd (Or.inr (by show m' b ≠ none; rw [hm]; simp)) (hw.good b hb'), fun ho => hw.good b hb' (.inl ho)⟩, hw.nd⟩, w, hw.hold.1⟩
  refine ⟨gf, lb, xs.length, fun k ux hx => xs[k]? = some ux ∧ hx = .nil, fun w => S.le (Mv.of w), HW.mem mf, c.hb.sep (HW.mem (m.minus mf)), fun k => inY (I k), fun k => inY (E k), hfv, fun args w => run_callFunc hgf args w, fun w hw => ⟨⟨hw.hold.1, fun b o hb => ?_⟩, fun b o hb => hw.hold.2 b o (hmf b o hb)⟩, fun b hb => ?_, fun b hb => .inr (hmf' b hb), fun b h1 h2 => ?_, fun k ux hx h => usOk_of (hxs ux (List.mem_of_getElem? h.1)), ?_, ⟨c.hb, _, fun b ho hb => g.mem b (hm0 b hb) ho, rfl, h0⟩, ?_, ?_, ?_, ?_⟩
  · exact hw.hold.2 b o (by rw [Mem.minus_at (Mem.minus_none b (by rw [hb]; simp))] at hb; exact hb)
  · rcases hb with hb | hb
    · exact .inl hb
    · exact .inr (hm0 b hb)
  · rcases h1 with h1 | h1
    · exact g.mem b (hmf' b h2) h1
    · exact h2 (Mem.minus_none b h1)
  · have := hiter.toX (X := fun k x hx => ∃ ux, (xs[k]? = some ux ∧ hx = HW.nil) ∧ x = SV.dens [] ux (Sh.freshs psh 0).1) fun k x hx => by
      rw [List.getElem?_map, Option.map_eq_some_iff] at hx
      obtain ⟨ux, h1, h2⟩ := hx
      exact ⟨ux, ⟨h1, rfl⟩, h2.symm⟩
    rwa [List.length_map] at this
  · rintro k us _ w ⟨hT, m', _, rfl, hI⟩ hw
    exact hpre k us m' hT w hI hw
  · rintro k us ux _ hx hus ⟨hxk, rfl⟩ ⟨hT, m', hm', rfl, hI⟩ hdj hw
    rw [HW.sep_nil] at hw ⊢
    have he : (fun (n : Nat) us' (h' : HW) => (∀ w, h'.H w → HW.nil.H w) ∧ ((n = 0 ∧ inY (I (k + 1)) us' h') ∨ (n ≠ 0 ∧ inY (E n) us' h'))) = fun n => inY fun us' m'' hT' => (n = 0 ∧ I (k + 1) us' m'' hT') ∨ (n ≠ 0 ∧ E n us' m'' hT') := by
      funext n us' h'
      apply propext
      constructor
      · rintro ⟨_, ⟨q, hT', m2, q1, q2, q3⟩ | ⟨q, hT', m2, q1, q2, q3⟩⟩
        · exact ⟨hT', m2, q1, q2, .inl ⟨q, q3⟩⟩
        · exact ⟨hT', m2, q1, q2, .inr ⟨q, q3⟩⟩
      · rintro ⟨hT', m2, q1, q2, ⟨q, q3⟩ | ⟨q, q3⟩⟩
        · exact ⟨fun _ _ => trivial, .inl ⟨q, hT', m2, q1, q2, q3⟩⟩
        · exact ⟨fun _ _ => trivial, .inr ⟨q, hT', m2, q1, q2, q3⟩⟩
    rw [he]
    obtain ⟨g', hw'⟩ := good us m' hT hm' hw
    exact hbody k us ux m' hT hus hxk hI hw' g'
  · rintro us _ hus ⟨hT, m', hm', rfl, hI⟩ hw
    obtain ⟨g', hw'⟩ := good us m' hT hm' hw
    exact hend us m' hT hus hI hw' g'
  · rintro n us _ hn hus ⟨hT, m', hm', rfl, hE⟩ hw
    obtain ⟨g', hw'⟩ := good us m' hT hm' hw
    exact hleft n us m' hT hn hus hE hw' g'
end
end Go.Sy
/- A variable of which it is known that it is there, and no more: for stores beside loads in one region. -/
namespace Go.Sy
open Go Go.RowKit
/-- A variable in a block of its own. -/
def box (e : TypeId) (v : Value) : Obj := .cells #[v] e (0, 0)
def HW.holds (b : Nat) (e : TypeId) : HW where
  H w := ∃ v, w.heap[b]? = some (box e v)
  own k := k = b
  stab w w' := fun ⟨v, h⟩ _ hk _ _ _ => ⟨v, (hk b rfl).trans h⟩
  inb w k := fun ⟨v, h⟩ hk => by subst hk; exact (Array.getElem?_eq_some_iff.1 h).1
def Cx.unk (c : Cx) (b : Nat) (e : TypeId) : Cx where
  hb := c.hb.sep (HW.holds b e)
  R := c.R
  ok w k o v := fun h hv => c.ok w k o v h.1 hv
  own k o v := fun hv => .inl (c.own k o v hv)
  okm w k es := fun h hv => c.okm w k es h.1 hv
  ownm k es := fun hv => .inl (c.ownm k es hv)
def Mem.del (m : Mem) (b : Nat) : Mem := fun k => if k = b then none else m k
theorem Mem.del_same (m : Mem) (b : Nat) : m.del b b = none := if_pos rfl
theorem Mem.del_other (m : Mem) {b k : Nat} (h : k ≠ b) : m.del b k = m k := if_neg h
section
variable {P : Program} {c : Cx} {L : List Nat} {ρ : Env} {blks : List Blk} {m : Mem} {R : Value → HW → Prop} {Dn : Nat → List U → HW → Prop} {A : List (List U → HW → Prop)}
theorem DenM.good {t : Tree} (h : Good c L m → DenM P R Dn t L ρ c m A) : DenM P R Dn t L ρ c m A := fun g => h g g
theorem DenM.joinC (c2 : Cx) {lvl : Nat} {shs : List Sh} {head : List Blk} {t k : Tree} (I : List U → Mem → Prop) (ht : DenM P R Dn t L ρ c m (A.take lvl ++ [inM c2 I])) (hk : ∀ us m', UsOk shs us → I us m' → DenM P R Dn k L (ρ ++ us) c2 m' A) :
    DenM P R Dn (.join lvl shs head t k) L ρ c m A := fun g => by
  refine ⟨inM c2 I, ht g, ?_⟩
  rintro us _ hus ⟨m', hm', rfl, hI⟩ ⟨w, hw⟩
  exact hk us m' hus hI ⟨hm', fun b hb' => not_own (hw.good b hb'), hw.nd⟩
theorem DenM.againU {lvl nb : Nat} {shs : List Sh} {vals : List SV} {I : List U → Mem → Prop} {b : Nat} {e : TypeId} {v : Value} (hA : A[lvl]? = some (inM (c.unk b e) I)) (hb : m b = some (box e v)) (hI : I (Sh.uss L ρ shs vals) (m.del b)) : DenM P R Dn (.again lvl nb shs vals blks) L ρ c m A := fun g => by
  refine ⟨(c.unk b e).hw (m.del b), fun w hw => ⟨⟨hw.hold.1, v, hw.hold.2 b _ hb⟩, fun k o hk => ?_⟩, fun k hk => ?_, _, hA, _, fun k hk ho => ?_, rfl, hI⟩
  · by_cases e' : k = b
    · rw [e', Mem.del_same] at hk; cases hk
    · rw [Mem.del_other _ e'] at hk; exact hw.hold.2 k o hk
  · rcases hk with (hk | hk) | hk
    · exact .inl (.inl hk)
    · refine .inl (.inr ?_)
      have hk : k = b := hk
      subst hk
      show m k ≠ none
      rw [hb]; simp
    · refine .inl (.inr ?_)
      by_cases e' : k = b
      · rw [e']; show m b ≠ none; rw [hb]; simp
      · show m k ≠ none
        have hk : m.del b k ≠ none := hk
        rwa [Mem.del_other _ e'] at hk
  · rcases ho with ho | ho
    · by_cases e' : k = b
      · rw [e', Mem.del_same] at hk; exact hk rfl
      · rw [Mem.del_other _ e'] at hk; exact g.mem k hk ho
    · have ho : k = b := ho
      rw [ho, Mem.del_same] at hk; exact hk rfl
/-- A store into it: what it holds is known again. -/
theorem DenM.storeU {p : Bool} {i : Nat} {x : SV} {k : Tree} {b : Nat} {e : TypeId} (hcb : ¬ c.hb.own b) (hp : ρ.ptr i = some ⟨b, 0, none⟩) (hk : m b = none → DenM P R Dn k L ρ c (m.upd b (box e (x.den L ρ))) A) : DenM P R Dn (.store p i (.lit 0) [x] blks k) L ρ (c.unk b e) m A := fun g w hw => by
  have hbo : (c.unk b e).hb.own b := .inr rfl
  have hmb : m b = none := by
    cases h : m b with
    | none => rfl
    | some o => exact absurd hbo (g.mem b (by rw [h]; simp))
  have hbL : b ∉ L := fun h => (g.blk b h).2 hbo
  obtain ⟨v, hv⟩ := hw.hold.1.2
  have hgood : Good c L (m.upd b (box e (x.den L ρ))) := ⟨fun k hk ho => by
    by_cases e' : k = b
    · exact hcb (e' ▸ ho)
    · rw [Mem.upd_other _ _ e'] at hk; exact g.mem k hk (.inl ho), fun k hk => ⟨by rw [Mem.upd_other _ _ (fun (e' : k = b) => hbL (e' ▸ hk))]; exact (g.blk k hk).1, fun ho => (g.blk k hk).2 (.inl ho)⟩, g.nd⟩
  refine ⟨b, 0, #[v], e, by simp [atAddr, hp, IT.eval, addr_zero], hv, by simp, .inl (.inr rfl), c.hw (m.upd b (box e (x.den L ρ))), fun k hk => ?_, fun _ w2 hw2 => ?_, ⟨?_, fun k o hk => ?_⟩, hk hmb hgood⟩
  · rcases hk with hk | hk
    · exact .inl (.inl hk)
    · by_cases e' : k = b
      · exact .inl (.inr e')
      · exact .inr (by show m k ≠ none; have hk : m.upd b _ k ≠ none := hk; rwa [Mem.upd_other _ _ e'] at hk)
  · refine ⟨hw2.len, hw2.blk, hw2.nd, fun k hk ho => ?_, ⟨hw2.hold.1, x.den L ρ, hw2.hold.2 b _ (Mem.upd_same ..)⟩, fun k o hk => ?_⟩
    · rcases ho with (ho | ho) | ho
      · exact (g.blk k hk).2 (.inl ho)
      · have ho : k = b := ho
        exact hbL (ho ▸ hk)
      · exact ho (g.blk k hk).1
    · have : k ≠ b := fun e' => by rw [e', hmb] at hk; cases hk
      exact hw2.hold.2 k o (by rw [Mem.upd_other _ _ this]; exact hk)
  · exact c.hb.stab w _ hw.hold.1.1 (by simp) (fun k hk => setRow_other _ _ _ _ fun e' => hcb (e' ▸ hk)) rfl rfl rfl
  · unfold Mem.upd at hk
    split at hk
    · rename_i e'
      cases hk
      rw [e', setRow_heap _ _ _ _ _ _ hv]
      simp [box, putAt, SV.dens]
    · rename_i e'
      rw [setRow_other _ _ _ _ e']; exact hw.hold.2 k o hk
end
end Go.Sy
/- append to a literal of the call's own: in place where nothing is appended, else in new memory. -/
namespace Go.Sy
open Go Go.RowKit
section
variable {P : Program} {c : Cx} {L : List Nat} {ρ : Env} {blks : List Blk} {m : Mem} {R : Value → HW → Prop} {Dn : Nat → List U → HW → Prop} {A : List (List U → HW → Prop)}
theorem DenM.appendOwn {p : Bool} {as : Array Operand} {t ty e : TypeId} {size bytes : Nat} {sv xv : SV} {k : Tree} {b0 n : Nat} {xs : List Value} {qx : Option Addr} {kx capx : Nat} {news : List Value} (hE : El P t e size bytes) (hxs : xs.length = n * size) (hown : Good c L m → Cells (vw c L ρ blks m) (some ⟨b0, 0, none⟩) xs)
    (hx : Good c L m → Cells (vw c L ρ blks m) qx news) (hl : news.length = kx * size) (h1 : ∀ u ∈ news, u.oneCell' = true) (hn : qx = none → capx = 0) (h63 : n + kx ≤ maxLen) (hbytes : (n + kx) * bytes ≤ 140737488355328)
    (hk : ∀ q' cap' m', (kx ≠ 0 → Row m' e size q' cap' (n + kx) (xs ++ news) ∧ ∀ g, q' = some ⟨g, 0, none⟩ → m g = none) → (kx = 0 → q' = some ⟨b0, 0, none⟩ ∧ cap' = n) → (∀ b, m b ≠ none → m' b = m b) → DenM P R Dn k L (ρ ++ [.p q', .i (n + kx : Nat), .i (cap' : Nat)]) c m' A)
    (hv : sv.den L ρ = slv (some ⟨b0, 0, none⟩) n n := by rfl) (hxv : xv.den L ρ = slv qx kx capx := by rfl) (hs : scBlks ρ.length blks = true := by rfl) :
    DenM P R Dn (.ext p ⟨.call ⟨.builtin .append, as, #[t, t]⟩, ty, [sv, xv]⟩ .sl blks k) L ρ c m A := .extM hs fun g w hw => by
  obtain ⟨i, z, hi, hz, hsz, hby, hzs⟩ := hE.info
  have hinb : ∀ b, m b ≠ none → b < w.heap.size := fun b hb' => (HW.mem m).inb w b hw.hold.2 hb'
  have hrun : ∀ v' w', (Builtin.append_ #[t, t] ty #[slv (some ⟨b0, 0, none⟩) n n, slv qx kx capx]).run P w = .ok v' w' → (XOp.sem (.call ⟨.builtin .append, as, #[t, t]⟩) ty (SV.dens L ρ [sv, xv])).run P w = .ok (.value v') w' := fun v' w' hr => by
    show (builtin .append #[t, t] ty (as.map fun | .const _ => true | _ => false) #[sv.den L ρ, xv.den L ρ]).run P w = _
    rw [hv, hxv]
    show (do pure (Next.value (← Builtin.append_ #[t, t] ty #[slv (some ⟨b0, 0, none⟩) n n, slv qx kx capx])) : Sem Next).run P w = _
    rw [Sem.run_bind, hr]; rfl
  by_cases hk0 : kx = 0
  · subst hk0
    have hr : (Builtin.append_ #[t, t] ty #[slv (some ⟨b0, 0, none⟩) n n, slv qx 0 capx]).run P w = .ok (slv (some ⟨b0, 0, none⟩) n n) w := by
      rcases qx with _ | xa
      · rw [hn rfl]
        simp [slv, Builtin.append_, run_underlying hE.und, sizeOf, typeInfo, hi, Builtin.lenOf, Builtin.firstCells, storeCells]
      · have := run_append_room_cells w t ty e i hE.und hi b0 0 n n xa 0 capx [] (by simp) (by simp) (by simp) (Nat.le_refl _) (by simp) (by simp)
        exact this.trans rfl
    exact ⟨_, w, none, m, [.p (some ⟨b0, 0, none⟩), .i (n + 0 : Nat), .i (n : Nat)], hrun _ _ hr, ⟨rfl, rfl, rfl, Nat.le_refl _, fun _ _ _ => rfl⟩, fun _ h => (by cases h), fun _ _ _ => rfl, hw.hold.2, fun _ => rfl, ⟨_, _, _, rfl⟩, (slv_fresh ρ L _ _ _).symm,
      hk (some ⟨b0, 0, none⟩) n m (fun h => absurd rfl h) (fun _ => ⟨rfl, rfl⟩) fun _ _ => rfl⟩
  · have hpos := hE.pos
    rcases qx with _ | xa
    · exfalso
      cases news with
      | nil => rcases Nat.mul_eq_zero.1 hl.symm with h | h <;> omega
      | cons a l => obtain ⟨_, _, hc, _⟩ := hx g 0 a rfl; cases hc
    · have hnews : ∀ j u, news[j]? = some u → w.cell? (xa.add j) = some u := fun j u hu => by
        obtain ⟨b, o, hc, hr⟩ := hx g j u hu
        cases hc
        have := vw_cell hw _ _ _ hr
        unfold Mv.of at this
        rw [addr_add]; exact this
      have holds : ∀ j u, xs[j]? = some u → w.cell? (Addr.add ⟨b0, 0, none⟩ j) = some u := fun j u hu => by
        obtain ⟨b, o, hc, hr⟩ := hown g j u hu
        cases hc
        have := vw_cell hw _ _ _ hr
        unfold Mv.of at this
        rw [addr_add]; exact this
      obtain ⟨v', w', hr, ho, hgr⟩ := run_append_arg_grows w t ty e i z size bytes hE.und hi hz hsz hby hzs hE.pos ⟨b0, 0, none⟩ n n xs hxs holds xa kx capx news hl hnews (by omega) h63 hbytes
      rcases ho.2 with ⟨_, h'⟩ | ⟨g', cap', cur, rfl, hge, hg', h5, h6, h7, h8⟩
      · omega
      · have hne : ∀ b, b < w.heap.size → b ≠ g' := fun b hb => by omega
        refine ⟨_, w', none, m.upd g' (.cells cur e (0, 0)), [.p (some ⟨g', 0, none⟩), .i (n + kx : Nat), .i (cap' : Nat)], hrun _ _ hr, hgr, fun _ h => (by cases h), fun b hb _ => Mem.upd_other _ _ (hne b hb), fun b o hbo => ?_, fun _ => rfl, ⟨_, _, _, rfl⟩, (slv_fresh ρ L (some ⟨g', 0, none⟩) (n + kx) cap').symm,
          hk (some ⟨g', 0, none⟩) cap' _ (fun _ => ⟨⟨by rw [List.length_append, hxs, hl, Nat.add_mul], .inr ⟨g', cur, rfl, Mem.upd_same _ _ _, h5, h6, h7, h8⟩⟩, fun g e => by
            cases e
            exact Classical.byContradiction fun hne' => hne _ (hinb _ hne') rfl⟩) (fun h => absurd h hk0) fun b hb => Mem.upd_other _ _ (hne b (hinb b hb))⟩
        by_cases e' : b = g'
        · rw [e', Mem.upd_same] at hbo; cases hbo; rw [e']; exact hg'
        · rw [Mem.upd_other _ _ e'] at hbo
          rw [hgr.block b (hinb b (by rw [hbo]; simp)) (by simp)]; exact hw.hold.2 b o hbo
/-- append to what an append to an empty literal has left. -/
theorem DenM.appendE {as : Array Operand} {t ty e : TypeId} {size bytes : Nat} {sv xv : SV} {k : Tree} {b0 : Nat} {q qx : Option Addr} {cap n kx capx : Nat} {xs news : List Value} (hE : El P t e size bytes) (hR : n ≠ 0 → Row m e size q cap n xs) (h0 : n = 0 → q = some ⟨b0, 0, none⟩ ∧ cap = 0 ∧ xs = []) (hkx : kx ≠ 0)
    (hx : Good c L m → Cells (vw c L ρ blks m) qx news) (hl : news.length = kx * size) (h1 : ∀ u ∈ news, u.oneCell' = true) (hn : qx = none → capx = 0) (h63 : n + kx ≤ maxLen) (hbytes : (n + kx) * bytes ≤ 140737488355328)
    (hk : ∀ q' cap' m', Row m' e size q' cap' (n + kx) (xs ++ news) → (∀ b, (n ≠ 0 → q ≠ some ⟨b, 0, none⟩) → m b ≠ none → m' b = m b) → DenM P R Dn k L (ρ ++ [.p q', .i (n + kx : Nat), .i (cap' : Nat)]) c m' A)
    (hv : sv.den L ρ = slv q n cap := by rfl) (hxv : xv.den L ρ = slv qx kx capx := by rfl) (hs : scBlks ρ.length blks = true := by rfl) :
    DenM P R Dn (.ext false ⟨.call ⟨.builtin .append, as, #[t, t]⟩, ty, [sv, xv]⟩ .sl blks k) L ρ c m A := by
  by_cases hn0 : n = 0
  · obtain ⟨rfl, rfl, rfl⟩ := h0 hn0
    subst hn0
    exact .appendOwn (b0 := b0) (n := 0) (xs := []) hE (by simp) (fun _ i x h => by simp at h) hx hl h1 hn h63 hbytes (fun q' cap' m' a1 _ a3 => hk q' cap' m' (a1 hkx).1 fun b _ hb => a3 b hb) hv hxv hs
  · refine .append hE (hR hn0) hx hl h1 hn h63 hbytes (fun q' cap' m' a1 a2 _ => hk q' cap' m' a1 fun b hb hb' => a2 b (fun ⟨o, ho⟩ => ?_) hb') hv hxv hs
    exfalso
    rcases (hR hn0).2 with ⟨k1, _⟩ | ⟨g, _, k1, _⟩
    · rw [k1] at ho; cases ho
    · rw [k1] at ho; cases ho
      exact hb hn0 k1
theorem Cells.take {V : Mv} {p : Option Addr} {xs ys : List Value} (h : Cells V p (xs ++ ys)) : Cells V p xs := fun i x hx => h i x (by rw [List.getElem?_append_left (List.getElem?_eq_some_iff.1 hx).1]; exact hx)
end
end Go.Sy
/- append beside other operations of one region: the new row is known by its head alone, so that what is written behind it changes nothing that is known. -/
namespace Go.Sy
open Go Go.RowKit
def HW.rowc (g : Nat) (e : TypeId) (cap size n : Nat) (xs : List Value) : HW where
  H w := ∃ cur : Array Value, w.heap[g]? = some (.cells cur e (0, 0)) ∧ cur.size = cap * size ∧ cur.toList.take (n * size) = xs
  own k := k = g
  stab w w' := fun ⟨cur, h, h2⟩ _ hk _ _ _ => ⟨cur, (hk g rfl).trans h, h2⟩
  inb w k := fun ⟨cur, h, _⟩ hk => by subst hk; exact (Array.getElem?_eq_some_iff.1 h).1
def Cx.rowc (c : Cx) (g : Nat) (e : TypeId) (cap size n : Nat) (xs : List Value) : Cx where
  hb := c.hb.sep (HW.rowc g e cap size n xs)
  R := ⟨fun b o => if b = g then xs[o]? else c.R b o, c.R.m⟩
  ok w k o v := fun h hv => by
    replace hv : (if k = g then xs[o]? else c.R k o) = some v := hv
    split at hv
    · rename_i e'
      subst e'
      obtain ⟨_, cur, h1, h2, h3⟩ := h
      unfold World.cell?
      rw [← h3] at hv
      have hlt := (List.getElem?_eq_some_iff.1 hv).1
      rw [List.getElem?_take_of_lt (by rw [List.length_take] at hlt; omega)] at hv
      simp only [h1]
      simpa using hv
    · exact c.ok w k o v h.1 hv
  own k o v := fun hv => by
    replace hv : (if k = g then xs[o]? else c.R k o) = some v := hv
    split at hv
    · exact .inr (by assumption)
    · exact .inl (c.own k o v hv)
  okm w k es := fun h hv => c.okm w k es h.1 hv
  ownm k es := fun hv => .inl (c.ownm k es hv)
/-- c2 knows all that c knows. -/
structure Cx.sub (c2 c : Cx) : Prop where
  H : ∀ w, c2.hb.H w → c.hb.H w
  own : ∀ b, c.hb.own b → c2.hb.own b
  R : c.R.le c2.R
theorem Cx.sub_rowc {c : Cx} {g : Nat} {e : TypeId} {cap size n : Nat} {xs : List Value} (hg : ¬ c.hb.own g) : (c.rowc g e cap size n xs).sub c := ⟨fun _ h => h.1, fun _ h => .inl h, fun b o v hv => by
  show (if b = g then xs[o]? else c.R b o) = some v
  rw [if_neg (fun e' : b = g => hg (e' ▸ c.own b o v hv))]; exact hv, fun _ _ h => h⟩
theorem Cx.sub.refl (c : Cx) : c.sub c := ⟨fun _ h => h, fun _ h => h, Mv.le.refl _⟩
section
variable {P : Program} {c : Cx} {L : List Nat} {ρ : Env} {blks : List Blk} {m : Mem} {R : Value → HW → Prop} {Dn : Nat → List U → HW → Prop} {A : List (List U → HW → Prop)}
theorem DenM.retS {c2 : Cx} {x : SV} {Q : Value → Mem → Prop} {v : Value} (hs : c2.sub c) (hv : x.den L ρ = v) (hQ : Q v m) : DenM P (outM c Q) Dn (.ret x blks) L ρ c2 m A :=
  fun g => ⟨c.hw m, fun _ hw => ⟨hs.H _ hw.hold.1, hw.hold.2⟩, fun _ h => .inl (h.imp (hs.own _) id), by rw [hv]; exact ⟨m, fun b hb ho => g.mem b hb (hs.own b ho), rfl, hQ⟩⟩
theorem DenM.extC {p : Bool} {x : XOp} {sh : Sh} {k : Tree} (hs : scBlks ρ.length blks = true) (h : Good c L m → ∀ w, Wd L ρ blks (c.hw m) w → ∃ v w' us c' m', (XOp.sem x.op x.type (SV.dens L ρ x.args)).run P w = .ok (.value v) w' ∧ UOk sh us ∧ v = (sh.fresh ρ.length).1.den L (ρ ++ us) ∧ (w.heap.size ≤ w'.heap.size ∧ w'.tape = w.tape ∧ w'.os = w.os ∧ w'.output = w.output) ∧
      (∀ k, k < w.heap.size → ¬ (c.hw m).own k → ¬ (c'.hw m').own k ∧ w'.heap[k]? = w.heap[k]?) ∧ (c'.hw m').H w' ∧ (p = true → ∀ w, (c'.hw m').H w → (c.hw m).H w) ∧ Good c' L m' ∧ DenM P R Dn k L (ρ ++ us) c' m' A) : DenM P R Dn (.ext p x sh blks k) L ρ c m A := fun g w hw => by
  obtain ⟨v, w', us, c', m', hrun, hus, hv, ⟨h1, h2, h3, h4⟩, hsame, hH, hp, hgood, hk⟩ := h g w hw
  have hn : ∀ b ∈ L, ¬ (c.hw m).own b := fun b hb ho => by
    rcases ho with ho | ho
    · exact (g.blk b hb).2 ho
    · exact ho (g.blk b hb).1
  have hn' : ∀ b ∈ L, ¬ (c'.hw m').own b := fun b hb ho => by
    rcases ho with ho | ho
    · exact (hgood.blk b hb).2 ho
    · exact ho (hgood.blk b hb).1
  have hmem : ∀ (j : Nat) k, blks[j]? = some k → L.getD j 0 ∈ L := fun j k hj => getD_mem (by rw [hw.len]; exact (List.getElem?_eq_some_iff.1 hj).1)
  have hwd : Wd L ρ blks (c'.hw m') w' := ⟨hw.len, fun j k hj => (hsame _ (hw.lt _ (hmem j k hj)) (hn _ (hmem j k hj))).2.trans (hw.blk j k hj), hw.nd, hn', hH⟩
  refine ⟨v, w', hrun, us, c'.hw m', hus, hv, ⟨h1, fun k hk hk' => ?_, h2, h3, h4⟩, fun hpt w2 hw2 => ?_, (Wd.letters hs).2 hwd, hk hgood⟩
  · have := hsame k hk fun ho => hk' (.inl ho)
    refine ⟨fun ho => ?_, this.2⟩
    rcases ho with ho | ho
    · exact this.1 ho
    · exact hk' (.inr ho)
  · have h2 := (Wd.letters hs).1 hw2
    exact ⟨h2.len, h2.blk, h2.nd, hn, hp hpt w2 h2.hold⟩
theorem own_lt {w : World} (hw : Wd L ρ blks (c.hw m) w) {b : Nat} (h : (c.hw m).own b) : b < w.heap.size := (c.hw m).inb w b hw.hold h
/-- What an append that grows leaves, as what is known. -/
theorem DenM.grown {p : Bool} {x : XOp} {k : Tree} {e : TypeId} {size n : Nat} {xs : List Value} {w : World} (g : Good c L m) (hw : Wd L ρ blks (c.hw m) w) {v' : Value} {w' : World} (hn : 0 < n)
    (hrun : (XOp.sem x.op x.type (SV.dens L ρ x.args)).run P w = .ok (.value v') w') (ho : w'.ownsRow w.heap.size e size v' n xs) (hgr : w.grownBy w' none)
    (hk : ∀ g' cap', ¬ c.hb.own g' → m g' = none → n ≤ cap' → DenM P R Dn k L (ρ ++ [.p (some ⟨g', 0, none⟩), .i n, .i cap']) (c.rowc g' e cap' size n xs) m A) :
    ∃ v w' us c' m', (XOp.sem x.op x.type (SV.dens L ρ x.args)).run P w = .ok (.value v) w' ∧ UOk .sl us ∧ v = (Sh.sl.fresh ρ.length).1.den L (ρ ++ us) ∧ (w.heap.size ≤ w'.heap.size ∧ w'.tape = w.tape ∧ w'.os = w.os ∧ w'.output = w.output) ∧
      (∀ k, k < w.heap.size → ¬ (c.hw m).own k → ¬ (c'.hw m').own k ∧ w'.heap[k]? = w.heap[k]?) ∧ (c'.hw m').H w' ∧ (p = true → ∀ w, (c'.hw m').H w → (c.hw m).H w) ∧ Good c' L m' ∧ DenM P R Dn k L (ρ ++ us) c' m' A := by
  rcases ho.2 with ⟨_, h'⟩ | ⟨g', cap', cur, rfl, hge, hg', h5, h6, h7, h8⟩
  · omega
  · have hold : ∀ b, b < w.heap.size → b ≠ g' ∧ w'.heap[b]? = w.heap[b]? := fun b hb => ⟨by omega, hgr.block b hb (by simp)⟩
    have hcn : ¬ c.hb.own g' := fun h => by have := own_lt hw (.inl h); omega
    have hmn : m g' = none := by
      cases h : m g' with
      | none => rfl
      | some o => have := own_lt hw (.inr (by show m g' ≠ none; rw [h]; simp)); omega
    refine ⟨_, w', [.p (some ⟨g', 0, none⟩), .i n, .i cap'], c.rowc g' e cap' size n xs, m, hrun, ⟨_, _, _, rfl⟩, (slv_fresh ρ L (some ⟨g', 0, none⟩) n cap').symm, ⟨hgr.size, hgr.tape, hgr.os, hgr.output⟩, fun k hk hn => ⟨fun ho => ?_, (hold k hk).2⟩, ⟨⟨?_, cur, hg', h7, h8⟩, ?_⟩, fun _ w2 h => ⟨h.1.1, h.2⟩, ⟨fun b hb ho => ?_, fun b hb => ⟨(g.blk b hb).1, fun ho => ?_⟩, g.nd⟩, hk g' cap' hcn hmn h5⟩
    · rcases ho with (ho | ho) | ho
      · exact hn (.inl ho)
      · exact (hold k hk).1 ho
      · exact hn (.inr ho)
    · exact c.hb.stab w w' hw.hold.1 hgr.size (fun b hb => (hold b (own_lt hw (.inl hb))).2) hgr.tape hgr.os hgr.output
    · exact fun b o hb => (hold b (own_lt hw (.inr (by show m b ≠ none; rw [hb]; simp)))).2.trans (hw.hold.2 b o hb)
    · rcases ho with ho | ho
      · exact g.mem b hb ho
      · have ho : b = g' := ho
        rw [ho] at hb; exact hb hmn
    · rcases ho with ho | ho
      · exact (g.blk b hb).2 ho
      · have ho : b = g' := ho
        have := hw.lt b hb; omega
theorem run_app {as : Array Operand} {t ty : TypeId} {sv xv : SV} {v1 v2 v' : Value} {w w' : World} (hv : sv.den L ρ = v1) (hxv : xv.den L ρ = v2) (hr : (Builtin.append_ #[t, t] ty #[v1, v2]).run P w = .ok v' w') : (XOp.sem (.call ⟨.builtin .append, as, #[t, t]⟩) ty (SV.dens L ρ [sv, xv])).run P w = .ok (.value v') w' := by
  show (builtin .append #[t, t] ty (as.map fun | .const _ => true | _ => false) #[sv.den L ρ, xv.den L ρ]).run P w = _
  rw [hv, hxv]
  show (do pure (Next.value (← Builtin.append_ #[t, t] ty #[v1, v2])) : Sem Next).run P w = _
  rw [Sem.run_bind, hr]; rfl
/-- append of some to an empty literal of the call's own. -/
theorem DenM.appendNew {p : Bool} {as : Array Operand} {t ty e : TypeId} {size bytes : Nat} {sv xv : SV} {k : Tree} {b0 : Nat} {xa : Addr} {kx capx : Nat} {news : List Value} (hE : El P t e size bytes) (hkx : 0 < kx)
    (hx : Good c L m → Cells (vw c L ρ blks m) (some xa) news) (hl : news.length = kx * size) (h63 : kx ≤ maxLen) (hbytes : kx * bytes ≤ 140737488355328)
    (hk : ∀ g' cap', ¬ c.hb.own g' → m g' = none → kx ≤ cap' → DenM P R Dn k L (ρ ++ [.p (some ⟨g', 0, none⟩), .i kx, .i cap']) (c.rowc g' e cap' size kx news) m A)
    (hv : sv.den L ρ = slv (some ⟨b0, 0, none⟩) 0 0 := by rfl) (hxv : xv.den L ρ = slv (some xa) kx capx := by rfl) (hs : scBlks ρ.length blks = true := by rfl) :
    DenM P R Dn (.ext p ⟨.call ⟨.builtin .append, as, #[t, t]⟩, ty, [sv, xv]⟩ .sl blks k) L ρ c m A := .extC hs fun g w hw => by
  obtain ⟨i, z, hi, hz, hsz, hby, hzs⟩ := hE.info
  have hnews : ∀ j u, news[j]? = some u → w.cell? (xa.add j) = some u := fun j u hu => by
    obtain ⟨b, o, hc, hr⟩ := hx g j u hu
    cases hc
    have := vw_cell hw _ _ _ hr
    unfold Mv.of at this
    rw [addr_add]; exact this
  obtain ⟨v', w', hr, ho, hgr⟩ := run_append_arg_grows w t ty e i z size bytes hE.und hi hz hsz hby hzs hE.pos ⟨b0, 0, none⟩ 0 0 [] (by simp) (by simp) xa kx capx news hl hnews (by omega) (by omega) (by simpa using hbytes)
  rw [Nat.zero_add, List.nil_append] at ho
  exact DenM.grown (p := p) g hw hkx (run_app hv (hxv.trans (slv_eq _ _ _)) hr) ho hgr hk
/-- append of some to a row known by its head. -/
theorem DenM.appendC {p : Bool} {as : Array Operand} {t ty e : TypeId} {size bytes : Nat} {sv xv : SV} {k : Tree} {gq cap n : Nat} {xs : List Value} {xa : Addr} {kx capx : Nat} {news : List Value} (hE : El P t e size bytes) (hcg : ¬ c.hb.own gq) (hmg : m gq = none) (hn : 0 < n) (hkx : 0 < kx) (hxs : xs.length = n * size) (hnc : n ≤ cap)
    (hx : Good (c.rowc gq e cap size n xs) L m → Cells (vw (c.rowc gq e cap size n xs) L ρ blks m) (some xa) news) (hl : news.length = kx * size) (h1 : ∀ u ∈ news, u.oneCell' = true) (h63 : n + kx ≤ maxLen) (hbytes : (n + kx) * bytes ≤ 140737488355328)
    (hk : ∀ q' cap' c2, c2.sub c → (∀ b o v, q' = some ⟨b, o, none⟩ → ∀ j, (xs ++ news)[j]? = some v → c2.R b (o + j) = some v) → (∃ b, q' = some ⟨b, 0, none⟩) → DenM P R Dn k L (ρ ++ [.p q', .i (n + kx : Nat), .i (cap' : Nat)]) c2 m A)
    (hv : sv.den L ρ = slv (some ⟨gq, 0, none⟩) n cap := by rfl) (hxv : xv.den L ρ = slv (some xa) kx capx := by rfl) (hs : scBlks ρ.length blks = true := by rfl) :
    DenM P R Dn (.ext p ⟨.call ⟨.builtin .append, as, #[t, t]⟩, ty, [sv, xv]⟩ .sl blks k) L ρ (c.rowc gq e cap size n xs) m A := .extC hs fun g w hw => by
  obtain ⟨i, z, hi, hz, hsz, hby, hzs⟩ := hE.info
  have hnews : ∀ j u, news[j]? = some u → w.cell? (xa.add j) = some u := fun j u hu => by
    obtain ⟨b, o, hc, hr⟩ := hx g j u hu
    cases hc
    have := vw_cell hw _ _ _ hr
    unfold Mv.of at this
    rw [addr_add]; exact this
  have hlen : (xs ++ news).length = (n + kx) * size := by rw [List.length_append, hxs, hl, Nat.add_mul]
  obtain ⟨cur, hg, hcs, htake⟩ := hw.hold.1.2
  by_cases hroom : n + kx ≤ cap
  · subst hsz
    have hfit : n * i.size + news.length ≤ cur.size := by rw [hl, hcs, ← Nat.add_mul]; exact Nat.mul_le_mul_right _ hroom
    have hr := run_append_room (P := P) w t ty e i hE.und hi gq n cap cur hg xa kx capx news hl hnews h1 hroom hfit
    refine ⟨_, _, [.p (some ⟨gq, 0, none⟩), .i (n + kx : Nat), .i (cap : Nat)], c.rowc gq e cap i.size (n + kx) (xs ++ news), m, run_app (hv.trans (slv_eq _ _ _)) (hxv.trans (slv_eq _ _ _)) hr, ⟨_, _, _, rfl⟩, ((slv_fresh ρ L (some ⟨gq, 0, none⟩) (n + kx) cap).trans (slv_eq _ _ _)).symm, ⟨by simp, rfl, rfl, rfl⟩, fun k hk hno => ⟨fun ho => hno ?_, setRow_other w gq k _ (fun e' => hno (.inl (.inr e')))⟩, ⟨⟨?_, _, setRow_heap w gq cur _ e _ hg, ?_, ?_⟩, ?_⟩, fun _ w2 h => ⟨⟨h.1.1, ?_⟩, h.2⟩, ⟨g.mem, g.blk, g.nd⟩, hk _ cap _ (Cx.sub_rowc hcg) (fun b o v hq j hj => ?_) ⟨_, rfl⟩⟩
    · exact ho
    · exact c.hb.stab w _ hw.hold.1.1 (by simp) (fun b hb => setRow_other w gq b _ (fun e' => hcg (e' ▸ hb))) rfl rfl rfl
    · simp only [List.size_toArray, List.length_append, List.length_take, List.length_drop, Array.length_toList]
      omega
    · rw [htake, ← hlen]
      exact List.take_left
    · exact fun b o hb => (setRow_other w gq b _ (fun e' => by rw [e', hmg] at hb; cases hb)).trans (hw.hold.2 b o hb)
    · obtain ⟨cur2, k1, k2, k3⟩ := h.1.2
      refine ⟨cur2, k1, k2, ?_⟩
      have := congrArg (List.take (n * i.size)) k3
      rw [List.take_take, Nat.min_eq_left (Nat.mul_le_mul_right _ (by omega)), ← hxs, List.take_left] at this
      rw [← hxs]; exact this
    · cases hq
      show (if gq = gq then (xs ++ news)[0 + j]? else _) = _
      rw [if_pos rfl, Nat.zero_add]; exact hj
  · have holds : ∀ j u, xs[j]? = some u → w.cell? ((⟨gq, 0, none⟩ : Addr).add j) = some u := fun j u hu => by
      rw [addr_add]
      refine (c.rowc gq e cap size n xs).ok w gq (0 + j) u hw.hold.1 ?_
      show (if gq = gq then xs[0 + j]? else _) = _
      rw [if_pos rfl, Nat.zero_add]; exact hu
    obtain ⟨v', w', hr, ho, hgr⟩ := run_append_arg_grows w t ty e i z size bytes hE.und hi hz hsz hby hzs hE.pos ⟨gq, 0, none⟩ n cap xs hxs holds xa kx capx news hl hnews (by omega) h63 hbytes
    exact DenM.grown (p := p) g hw (by omega) (run_app (hv.trans (slv_eq _ _ _)) (hxv.trans (slv_eq _ _ _)) hr) ho hgr fun g' cap' hcn hmn hle => hk _ cap' _ ⟨fun _ h => h.1.1, fun _ h => .inl (.inl h), (Cx.sub_rowc hcg).R.trans (Cx.sub_rowc hcn).R⟩ (fun b o v hq j hj => by
      cases hq
      show (if g' = g' then (xs ++ news)[0 + j]? else _) = _
      rw [if_pos rfl, Nat.zero_add]; exact hj) ⟨_, rfl⟩
end
end Go.Sy
/- make with a length that is not a constant; a store into a row. -/
namespace Go.Sy
open Go Go.RowKit Go.Deep
section
variable {P : Program} {c : Cx} {L : List Nat} {ρ : Env} {blks : List Blk} {m : Mem} {R : Value → HW → Prop} {Dn : Nat → List U → HW → Prop} {A : List (List U → HW → Prop)}
theorem DenM.make {t e : TypeId} {bytes : Nat} {z : Value} {l d : IT} {k : Tree} (n : Nat) (_ht : P.underlying t = some (.slice e)) (hinfo : (P.info? e).map (fun i => (i.zero, i.size, i.bytes)) = some (some z, 1, bytes)) (hz1 : z.cells = #[z]) (hbytes : bytes * n ≤ 281474976710656) (h63 : n ≤ maxLen)
    (hk : ∀ g, m g = none → Row (m.upd g (.cells (madeCells #[z] n) e (0, 0))) e 1 (some ⟨g, 0, none⟩) n n (List.replicate n z) → DenM P R Dn k L (ρ ++ [.p (some ⟨g, 0, none⟩), .i n, .i n]) c (m.upd g (.cells (madeCells #[z] n) e (0, 0))) A)
    (hl : Value.int .i64 (l.eval ρ) = .int .i64 n := by rfl) (hc : Value.int .i64 (d.eval ρ) = .int .i64 n := by rfl) :
    DenM P R Dn (.makev e bytes l d k) L ρ c m A := .makev n n (by simpa using hl) (by simpa using hc) (Nat.le_refl _) hbytes (by simpa [maxLen] using h63) fun g hmn _ _ => by
  have eb : (bigCells P e (some n)).toArray = madeCells #[z] n := by
    cases hi : P.info? e with
    | none => rw [hi] at hinfo; cases hinfo
    | some i =>
      rw [hi] at hinfo
      simp only [Option.map_some, Option.some.injEq, Prod.mk.injEq] at hinfo
      simp [bigCells, zeroCells, sizeT, hi, hinfo.1, hinfo.2.1, hz1]
  rw [eb]
  exact hk g hmn ⟨by simp, .inr ⟨g, _, rfl, Mem.upd_same _ _ _, Nat.le_refl _, h63, by simp [size_madeCells], by rw [toList_madeCells_one]; simp⟩⟩
theorem Row.cap_le {e : TypeId} {size : Nat} {q : Option Addr} {cap n : Nat} {xs : List Value} (h : Row m e size q cap n xs) : n ≤ cap := by
  rcases h.2 with ⟨_, h1, h2⟩ | ⟨_, _, _, _, h, _⟩ <;> omega
/-- A store into a row of cells, at a place that is checked. -/
theorem DenM.storeR {i : Nat} {I len : IT} {x : SV} {k : Tree} {e : TypeId} {q : Option Addr} {cap n : Nat} {xs : List Value} (j : Nat) (hj : j < n) (hR : Row m e 1 q cap n xs) (hp : ρ.ptr i = q) (hI : I.eval ρ = (j : Int)) (hn : len.eval ρ = (n : Int))
    (hk : ∀ m' g, q = some ⟨g, 0, none⟩ → Row m' e 1 q cap n (xs.set j (x.den L ρ)) → (∀ b, b ≠ g → m' b = m b) → DenM P R Dn k L ρ c m' A) :
    DenM P R Dn (.chk (.pick (.cmp .geq I (.lit 0)) (.pick (.cmp .lss I len) (.some i) (.lit false)) (.lit false)) (.store false i (.off I 1 (.lit 0)) [x] blks k)) L ρ c m A := by
  rcases hR.2 with ⟨_, h, _⟩ | ⟨g, cur, hq, hg, h1, h2, h3, h4⟩
  · omega
  · subst hq
    have hlen : xs.length = n := by rw [hR.1, Nat.mul_one]
    rw [Nat.mul_one] at h3 h4
    refine .chk ?_ (.store g j cur e rfl ?_ hg (by simp; omega) (hk _ g rfl ⟨by rw [List.length_set, Nat.mul_one]; exact hlen, .inr ⟨g, _, rfl, Mem.upd_same _ _ _, h1, h2, ?_, ?_⟩⟩ fun b hb => Mem.upd_other _ _ hb))
    · simp only [BT.eval, IT.eval, hI, hn, hp, cm, pick_and]; simp; omega
    · simp only [atAddr, hp, IT.eval, hI, Option.map_some, addr_add]
      rw [show ((0 : Int) + (j : Int) * ((1 : Nat) : Int)).toNat = j by omega]; simp
    · simp only [putAt, SV.dens, List.size_toArray, List.length_append, List.length_take, List.length_drop, List.length_cons, List.length_nil, Array.length_toList]; omega
    · rw [Nat.mul_one]
      have hput : putAt cur.toList j (SV.dens L ρ [x]) = cur.toList.set j (x.den L ρ) := by
        unfold putAt
        rw [List.set_eq_take_append_cons_drop, if_pos (by simp; omega)]
        simp [SV.dens]
      rw [hput, List.take_set, h4]
end
end Go.Sy
