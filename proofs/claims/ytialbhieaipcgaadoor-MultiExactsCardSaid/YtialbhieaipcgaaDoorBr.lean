/- Chapter 18: the reference's small functions of Exact. -/
import Derived.Test.YtialbhieaipcgaaDoorBq
set_option linter.unusedSimpArgs false
set_option linter.unusedVariables false
/- Chapter 18: the reference's small functions of Exact. -/
namespace Go.Sy
open Go Go.RowKit
def lX (n : Nat) (p : P3) : List Int := (List.range n).map fun k => (at3 p k : Int)
theorem lX_len (n : Nat) (p : P3) : (lX n p).length = n := by unfold lX; rw [List.length_map, List.length_range]
theorem lX_get (n : Nat) (p : P3) (i : Nat) : (lX n p)[i]? = if i < n then some (at3 p i : Int) else none := by
  unfold lX
  rw [List.getElem?_map]
  by_cases h : i < n
  · rw [List.getElem?_range h, if_pos h]; rfl
  · rw [List.getElem?_eq_none (by rw [List.length_range]; omega), if_neg h]; rfl
theorem lX_at {n : Nat} (p : P3) {i : Nat} (h : i < n) : (intsL (lX n p))[i]? = some (.int .i64 (at3 p i : Int)) := by
  unfold intsL; rw [List.getElem?_map, lX_get, if_pos h]; rfl
def numK (p : P3) : Nat → Nat
  | 0 => 0
  | k + 1 => numK p k * 7 + at3 p k
theorem numK_le {p : P3} (h : ∀ k, k < 3 → at3 p k ≤ 6) : ∀ k, k ≤ 3 → numK p k ≤ 7 ^ k
  | 0, _ => Nat.zero_le _
  | k + 1, hk => by
    have ih := numK_le h k (by omega)
    have := h k (by omega)
    match k, hk with
    | 0, _ => show 0 * 7 + at3 p 0 ≤ _; omega
    | 1, _ =>
      have h0 := h 0 (by decide)
      show (0 * 7 + at3 p 0) * 7 + at3 p 1 ≤ _; omega
    | 2, _ =>
      have h0 := h 0 (by decide)
      have h1 := h 1 (by decide)
      show ((0 * 7 + at3 p 0) * 7 + at3 p 1) * 7 + at3 p 2 ≤ _; omega
/-- What the words that are not there have. -/
def padX (n : Nat) (p : P3) : Prop := ∀ k, n ≤ k → k < 3 → at3 p k = 0
theorem numK_inj {n : Nat} (hn3 : n ≤ 3) {x y : P3} (hx : padX n x) (hy : padX n y) (hx6 : ∀ k, k < 3 → at3 x k ≤ 6) (hy6 : ∀ k, k < 3 → at3 y k ≤ 6) (h : numK x n = numK y n) : x = y := by
  obtain ⟨a, b, d⟩ := x
  obtain ⟨a', b', d'⟩ := y
  have x0 : a ≤ 6 := hx6 0 (by decide)
  have x1 : b ≤ 6 := hx6 1 (by decide)
  have x2 : d ≤ 6 := hx6 2 (by decide)
  have y0 : a' ≤ 6 := hy6 0 (by decide)
  have y1 : b' ≤ 6 := hy6 1 (by decide)
  have y2 : d' ≤ 6 := hy6 2 (by decide)
  have px0 : n ≤ 0 → a = 0 := fun h => hx 0 h (by decide)
  have px1 : n ≤ 1 → b = 0 := fun h => hx 1 h (by decide)
  have px2 : n ≤ 2 → d = 0 := fun h => hx 2 h (by decide)
  have py0 : n ≤ 0 → a' = 0 := fun h => hy 0 h (by decide)
  have py1 : n ≤ 1 → b' = 0 := fun h => hy 1 h (by decide)
  have py2 : n ≤ 2 → d' = 0 := fun h => hy 2 h (by decide)
  simp only [Prod.mk.injEq]
  match n, hn3 with
  | 0, _ => omega
  | 1, _ =>
    have h : 0 * 7 + a = 0 * 7 + a' := h
    omega
  | 2, _ =>
    have h : (0 * 7 + a) * 7 + b = (0 * 7 + a') * 7 + b' := h
    omega
  | 3, _ =>
    have h : ((0 * 7 + a) * 7 + b) * 7 + d = ((0 * 7 + a') * 7 + b') * 7 + d' := h
    omega
theorem numK_mono {n : Nat} (hn3 : n ≤ 3) {x y : P3} (h : leX x y) : numK x n ≤ numK y n := by
  obtain ⟨a, b, d⟩ := x
  obtain ⟨a', b', d'⟩ := y
  obtain ⟨h1, h2, h3⟩ := h
  dsimp only at h1 h2 h3
  match n, hn3 with
  | 0, _ => exact Nat.le_refl _
  | 1, _ => show 0 * 7 + a ≤ 0 * 7 + a'; omega
  | 2, _ => show (0 * 7 + a) * 7 + b ≤ (0 * 7 + a') * 7 + b'; omega
  | 3, _ => show ((0 * 7 + a) * 7 + b) * 7 + d ≤ ((0 * 7 + a') * 7 + b') * 7 + d'; omega
theorem nxt_ge (p : P3) (s : Nat) : leX p (nxtX p s) := by
  unfold leX nxtX
  refine ⟨?_, ?_, ?_⟩ <;> dsimp only <;> omega
theorem leX.six {x e : P3} (h : leX x e) (h6 : ∀ k, k < 3 → at3 e k ≤ 6) : ∀ k, k < 3 → at3 x k ≤ 6 := fun k hk => by have := leX_at.1 h k hk; have := h6 k hk; omega
theorem leX.pad {x e : P3} {n : Nat} (h : leX x e) (hp : padX n e) : padX n x := fun k h1 h2 => by have := leX_at.1 h k h2; have := hp k h1 h2; omega
theorem numK_nxt {n : Nat} (hn3 : n ≤ 3) {e p : P3} {s : Nat} (hp : leX p e) (hpad : padX n e) (h6 : ∀ k, k < 3 → at3 e k ≤ 6) (ho : okX e p s = true) (h0 : 0 < s) (h7 : s ≤ 7) : numK p n < numK (nxtX p s) n := by
  have h1 := numK_mono hn3 (nxt_ge p s)
  have h2 := nxt_le hp ho
  rcases Nat.lt_or_ge (numK p n) (numK (nxtX p s) n) with h | h
  · exact h
  · have := numK_inj hn3 (hp.pad hpad) (h2.pad hpad) (hp.six h6) (h2.six h6) (by omega)
    have h3 := nxt_rem hp ho h0 h7
    rw [← this] at h3; omega
/-- The digits of a number. -/
def dig (n i : Nat) : P3 := (if n = 3 then i / 49 % 7 else if n = 2 then i / 7 % 7 else if n = 1 then i % 7 else 0, if n = 3 then i / 7 % 7 else if n = 2 then i % 7 else 0, if n = 3 then i % 7 else 0)
theorem dig_num {n : Nat} (hn3 : n ≤ 3) {x : P3} (hx : padX n x) (hx6 : ∀ k, k < 3 → at3 x k ≤ 6) : dig n (numK x n) = x := by
  obtain ⟨a, b, d⟩ := x
  have x0 : a ≤ 6 := hx6 0 (by decide)
  have x1 : b ≤ 6 := hx6 1 (by decide)
  have x2 : d ≤ 6 := hx6 2 (by decide)
  have px0 : n ≤ 0 → a = 0 := fun h => hx 0 h (by decide)
  have px1 : n ≤ 1 → b = 0 := fun h => hx 1 h (by decide)
  have px2 : n ≤ 2 → d = 0 := fun h => hx 2 h (by decide)
  match n, hn3 with
  | 0, _ => rw [px0 (by omega), px1 (by omega), px2 (by omega)]; rfl
  | 1, _ =>
    rw [px1 (by omega), px2 (by omega)]
    exact Prod.ext (show (0 * 7 + a) % 7 = a by omega) rfl
  | 2, _ =>
    rw [px2 (by omega)]
    exact Prod.ext (show ((0 * 7 + a) * 7 + b) / 7 % 7 = a by omega) (Prod.ext (show ((0 * 7 + a) * 7 + b) % 7 = b by omega) rfl)
  | 3, _ =>
    show ((((0 * 7 + a) * 7 + b) * 7 + d) / 49 % 7, (((0 * 7 + a) * 7 + b) * 7 + d) / 7 % 7, (((0 * 7 + a) * 7 + b) * 7 + d) % 7) = _
    simp only [Prod.mk.injEq]; omega
theorem num_dig {n i : Nat} (hn3 : n ≤ 3) (hi : i < 7 ^ n) : numK (dig n i) n = i := by
  match n, hn3 with
  | 0, _ => have : i < 1 := hi; show 0 = i; omega
  | 1, _ => have : i < 7 := hi; show 0 * 7 + i % 7 = i; omega
  | 2, _ => have : i < 49 := hi; show (0 * 7 + i / 7 % 7) * 7 + i % 7 = i; omega
  | 3, _ => have : i < 343 := hi; show ((0 * 7 + i / 49 % 7) * 7 + i / 7 % 7) * 7 + i % 7 = i; omega
theorem dig_at {n i k : Nat} (hn3 : n ≤ 3) (hk : k < n) : at3 (dig n i) k = i / 7 ^ (n - 1 - k) % 7 := by
  match n, hn3, k, hk with
  | 1, _, 0, _ => show i % 7 = i / 1 % 7; omega
  | 2, _, 0, _ => rfl
  | 2, _, 1, _ => show i % 7 = i / 1 % 7; omega
  | 3, _, 0, _ => rfl
  | 3, _, 1, _ => rfl
  | 3, _, 2, _ => show i % 7 = i / 1 % 7; omega
theorem dig_pad (n i : Nat) (hn3 : n ≤ 3) : padX n (dig n i) := fun k h1 h2 => by
  match n, hn3, k, h1, h2 with
  | 0, _, 0, _, _ => rfl
  | 0, _, 1, _, _ => rfl
  | 0, _, 2, _, _ => rfl
  | 1, _, 1, _, _ => rfl
  | 1, _, 2, _, _ => rfl
  | 2, _, 2, _, _ => rfl
  | n + 3, _, k, h1, h2 => exact absurd h1 (by omega)
/-- The reference's sets, as sets of three bits. -/
def dX (n : Nat) : Nat := 2 ^ (3 - n)
theorem bit_ref : ∀ n : Nat, n ≤ 3 → ∀ s : Nat, s < 2 ^ n → ∀ k : Nat, k < n → cm .eql (ar .and .i64 (ar .shr .i64 (s : Int) (ar .sub .i64 (ar .sub .i64 (n : Int) 1) (k : Int))) 1) 1 = bX (s * dX n) k := by decide
theorem bit_out : ∀ n : Nat, n ≤ 3 → ∀ s : Nat, s < 2 ^ n → ∀ k : Nat, k < 3 → n ≤ k → bX (s * dX n) k = false := by decide
theorem set_range : ∀ n : Nat, n ≤ 3 → ∀ s : Nat, s < 2 ^ n → s * dX n ≤ 7 := by decide
theorem mul_of_bits : ∀ n : Nat, n ≤ 3 → ∀ w : Nat, w ≤ 7 → (∀ k : Nat, k < 3 → n ≤ k → bX w k = false) → w = w / dX n * dX n ∧ w / dX n < 2 ^ n := by decide
theorem ok_mul {n : Nat} (hn3 : n ≤ 3) {e p : P3} (hp : leX p e) (hpad : padX n e) {w : Nat} (h7 : w ≤ 7) (ho : okX e p w = true) : w = w / dX n * dX n ∧ w / dX n < 2 ^ n := mul_of_bits n hn3 w h7 fun k hk hnk => by
  have := okX_at.1 ho k hk
  have h1 := hpad k hnk hk
  have h2 := leX_at.1 hp k hk
  cases hb : bX w k with
  | false => rfl
  | true => exact absurd (by omega) (this hb)
theorem pickF_skip {f : Nat → Option Int} {k : Nat} (h : f (7 - k) = none) : pickF f (k + 1) = pickF f k := by
  show stepP (pickF f k) (7 - k) (f (7 - k)) = _
  rw [h]; rfl
theorem pickR_step {f : Nat → Option Int} {n : Nat} (hn3 : n ≤ 3) (hn0 : 0 < n) (hf : ∀ w, w ≤ 7 → w ≠ w / dX n * dX n → f w = none) {s : Nat} (hs : s < 2 ^ n) (h0 : 0 < s) : pickF f (8 - s * dX n) = stepP (pickF f (8 - (s + 1) * dX n)) (s * dX n) (f (s * dX n)) := by
  match n, hn3, hn0 with
  | 3, _, _ =>
    have hs : s < 8 := hs
    show pickF f (8 - s * 1) = stepP (pickF f (8 - (s + 1) * 1)) (s * 1) (f (s * 1))
    rw [show 8 - s * 1 = (7 - s) + 1 by omega, show 8 - (s + 1) * 1 = 7 - s by omega]
    show stepP (pickF f (7 - s)) (7 - (7 - s)) (f (7 - (7 - s))) = _
    rw [show 7 - (7 - s) = s * 1 by omega]
  | 2, _, _ =>
    have hs : s < 4 := hs
    have h1 := hf (s * 2 + 1) (by omega) (by show s * 2 + 1 ≠ (s * 2 + 1) / 2 * 2; omega)
    show pickF f (8 - s * 2) = stepP (pickF f (8 - (s + 1) * 2)) (s * 2) (f (s * 2))
    rw [show 8 - s * 2 = (7 - s * 2) + 1 by omega]
    show stepP (pickF f (7 - s * 2)) (7 - (7 - s * 2)) (f (7 - (7 - s * 2))) = _
    rw [show 7 - (7 - s * 2) = s * 2 by omega, show 7 - s * 2 = (6 - s * 2) + 1 by omega, pickF_skip (by rw [show 7 - (6 - s * 2) = s * 2 + 1 by omega]; exact h1), show 8 - (s + 1) * 2 = 6 - s * 2 by omega]
  | 1, _, _ =>
    have hs : s < 2 := hs
    obtain rfl : s = 1 := by omega
    have h1 := hf 7 (by omega) (by decide)
    have h2 := hf 6 (by omega) (by decide)
    have h3 := hf 5 (by omega) (by decide)
    show stepP (pickF f 3) 4 (f 4) = stepP (pickF f 0) 4 (f 4)
    rw [pickF_skip (k := 2) h3, pickF_skip (k := 1) h2, pickF_skip (k := 0) h1]
theorem pickR_end {f : Nat → Option Int} {n : Nat} (hn3 : n ≤ 3) (hn0 : 0 < n) (hf : ∀ w, w ≤ 7 → w ≠ w / dX n * dX n → f w = none) : pickF f (8 - dX n) = pickF f 7 := by
  match n, hn3, hn0 with
  | 3, _, _ => rfl
  | 2, _, _ =>
    have h1 := hf 1 (by omega) (by decide)
    exact (pickF_skip (k := 6) h1).symm
  | 1, _, _ =>
    have h1 := hf 3 (by omega) (by decide)
    have h2 := hf 2 (by omega) (by decide)
    have h3 := hf 1 (by omega) (by decide)
    show pickF f 4 = pickF f 7
    rw [pickF_skip (k := 6) h3, pickF_skip (k := 5) h2, pickF_skip (k := 4) h1]
theorem cand_mul (c : P3 → Nat → Int) {n : Nat} (hn3 : n ≤ 3) {e p : P3} (hp : leX p e) (hpad : padX n e) (E : P3 → Int) : ∀ w, w ≤ 7 → w ≠ w / dX n * dX n → candX c e E p w = none := fun w h7 hne => by
  unfold candX
  rw [if_neg (fun ho => hne (ok_mul hn3 hp hpad h7 ho).1)]
end Go.Sy
namespace Go.Proofs.YtialbhieaipcgaaDoor
open Go Go.Sy Go.RowKit
theorem c_number (q : Option Addr) (cq n : Nat) (pt : P3) (hn3 : n ≤ 3) (h6 : ∀ k, k < 3 → at3 pt k ≤ 6) : RetP Tryd.prog n_ref18_number [slv q n cq] (fun R => Cells R q (intsL (lX n pt))) (.int .i64 ((numK pt n : Nat) : Int)) := by
  refine Fn.of S_ref18_number mx [.p q, .i n, .i cq] rfl rfl fun c hp => ?_
  refine .loop (fun z us _ => ∃ k : Nat, k ≤ n ∧ us = [.i (numK pt k : Nat), .i k] ∧ z = n - k) n ⟨0, Nat.zero_le _, rfl, rfl⟩ ?_
  rintro z _ m _ ⟨k, hk, rfl, rfl⟩
  refine .env (by (try simp only [liE, letsOf, letU, snd, List.append_nil]); rfl) (.chk (by ((try simp only [evE, liE, letsOf, letU, snd]); (try simp only [cmE])); omega) (.ite (fun h1 => ?_) (fun h1 => .ret rfl ?_))) <;> ((try simp only [evE, liE, letsOf, letU, snd] at h1); (try simp only [cmE] at h1))
  · have hk : k < n := by omega
    have hb := numK_le h6 k (by omega)
    have hb2 : 7 ^ k ≤ 49 := Nat.pow_le_pow_right (by decide) (by omega : k ≤ 2)
    have h6k := h6 k (by omega)
    refine .elem1 (.int .i64 (at3 pt k : Int)) (intsL (lX n pt)) k n rfl rfl hk (fun g => hp.mono g.R) (lX_at pt hk) (.env (by (try simp only [liE, letsOf, letU, snd, List.append_nil]); rfl) (.again rfl ⟨n - (k + 1), by omega, k + 1, by omega, ?_, rfl⟩))
    (simp only [evE, liE, letsOf, letU, snd, Sh.uss, Sh.us, atAddr, map_add0, List.append_nil]); rw [add_i64 k (by omega), mulI (by omega) (by omega), addI (by omega) (by omega)]
    show [U.i ((numK pt k : Int) * 7 + (at3 pt k : Int)), _] = [U.i ((numK pt k * 7 + at3 pt k : Nat) : Int), _]
    rw [show ((numK pt k * 7 + at3 pt k : Nat) : Int) = (numK pt k : Int) * 7 + (at3 pt k : Int) by omega]
  · have hk : k = n := by omega
    subst hk; rfl
/-- What the reference's choice of a column answers. -/
def ChosQ (n : Nat) (e pt : P3) (w : Nat) (v : Value) (mq : Mem) : Prop :=
  (okX e pt w = true ∧ ∃ q cq, v = .tuple #[slv q n cq, .bool true] ∧ Row mq 3 1 q cq n (intsL (colX n pt w))) ∨ (okX e pt w = false ∧ v = .tuple #[slv none 0 0, .bool false])
theorem slb_fresh (ρ : Env) (L : List Nat) (q : Option Addr) (n cap : Nat) (x : Bool) : ((Sh.tup [.sl, .bool]).fresh ρ.length).1.den L (ρ ++ [.p q, .i n, .i cap, .b x]) = .tuple #[slv q n cap, .bool x] := by
  have e1 := sl_at ρ L q n cap [.b x]
  have e3 := getElem_env ρ [.p q, .i n, .i cap, .b x] 3
  simp only [Sh.fresh, Sh.freshs, SV.den, SV.dens, BT.eval, IT.eval, Env.bool, Env.int, Nat.add_assoc] at e1 e3 ⊢
  rw [e1, e3]
  rfl
theorem c_chosen (p qn : Option Addr) (cp cn n : Nat) (l : List WD) (pt : P3) (s : Nat) (hln : l.length = n) (hn0 : 0 < n) (hn3 : n ≤ 3) (hs : s < 2 ^ n) (hle : leX pt (endX (l.map (·.w)))) (he6 : ∀ k, k < 3 → at3 (endX (l.map (·.w))) k ≤ 6) :
    FnM Tryd.prog n_ref18_chosen [slv p n cp, slv qn n cn, .int .i64 (s : Int)] (fun R => WordsAt R p l ∧ Cells R qn (intsL (lX n pt))) fun v mq _ => ChosQ n (endX (l.map (·.w))) pt (s * dX n) v mq := by
  have hend : ∀ k (hk : k < l.length), at3 (endX (l.map (·.w))) k = l[k].w.length := fun k hk => by rw [endX_at _ (by omega), getD_w l k hk]
  refine FnM.of S_ref18_chosen mx [.p p, .i n, .i cp, .p qn, .i n, .i cn, .i s] rfl rfl fun c hp => .chk (by ((try simp only [evE, liE, letsOf, letU, snd]); (try simp only [cmE])); omega) (.callE (c_gaps n (by omega)) (fun _ => trivial) ?_)
  rintro v mq m1 hle1 hqe1 ⟨q, cq, rfl, hR1⟩
  have hC0 : Row m1 3 1 q cq n (intsL (colK n pt (s * dX n) 0)) := by rw [colK_zero]; exact Row.le hR1 hqe1
  refine ⟨[.p q, .i n, .i cq], uOk_of rfl, (slv_fresh _ _ _ _ _).symm, .env (by (try simp only [liE, letsOf, letU, snd, List.append_nil]); rfl) ?_⟩
  refine .loop (fun z us m => ∃ k : Nat, k ≤ n ∧ us = [.p none, .i 0, .i 0, .b false, .i k] ∧ z = n - k ∧ (∀ x, x < k → bX (s * dX n) x = true → at3 pt x ≠ at3 (endX (l.map (·.w))) x) ∧ Row m 3 1 q cq n (intsL (colK n pt (s * dX n) k))) n
    ⟨0, by omega, by (simp only [evE, liE, letsOf, letU, snd, Sh.uss, Sh.us, atAddr, map_add0, List.append_nil]); rfl, rfl, fun x h => by omega, hC0⟩ ?_
  clear hC0
  rintro z _ m _ ⟨k, hk, rfl, rfl, hok, hC⟩
  refine .env (by (try simp only [liE, letsOf, letU, snd, List.append_nil]); rfl) (.chk (by ((try simp only [evE, liE, letsOf, letU, snd]); (try simp only [cmE])); omega) (.ite (fun h1 => ?_) (fun h1 => ?_))) <;> ((try simp only [evE, liE, letsOf, letU, snd] at h1); (try simp only [cmE] at h1))
  · have hkn : k < n := by omega
    have hkl : k < l.length := by omega
    refine .chk (by ((try simp only [evE, liE, letsOf, letU, snd]); (try simp only [cmE])); omega) (.chk (by ((try simp only [evE, liE, letsOf, letU, snd]); (try simp only [cmE])); rw [show ar .sub .i64 (n : Int) 1 = (n : Int) - 1 from subI (by omega) (by omega), subI (by omega) (by omega)]; omega) (.join (fun us m => us = [.p none, .i 0, .i 0, .b false] ∧ (bX (s * dX n) k = true → at3 pt k ≠ at3 (endX (l.map (·.w))) k) ∧ Row m 3 1 q cq n (intsL (colK n pt (s * dX n) (k + 1)))) (.ite (fun h2 => ?_) (fun h2 => .again rfl ⟨by (simp only [evE, liE, letsOf, letU, snd, Sh.uss, Sh.us, atAddr, map_add0, List.append_nil]), ?_⟩)) ?_))
    · have hb : bX (s * dX n) k = true := by
        have : cm .eql (ar .and .i64 (ar .shr .i64 (s : Int) (ar .sub .i64 (ar .sub .i64 (n : Int) 1) (k : Int))) 1) 1 = true := h2
        rwa [bit_ref n hn3 s hs k hkn] at this
      have hpk := leX_at.1 hle k (by omega)
      have hek := he6 k (by omega)
      have hee := hend k hkl
      refine .elem1 (.int .i64 (at3 pt k : Int)) (intsL (lX n pt)) k n rfl rfl hkn (fun g => hp.2.mono g.R) (lX_at pt hkn) (.env (by (try simp only [liE, letsOf, letU, snd, List.append_nil]); rfl) (.loadWD l k hkl (fun g => hp.1.1.mono g.R) (.env (by (try simp only [liE, letsOf, letU, snd, List.append_nil]); rfl) (.chk (by ((try simp only [evE, liE, letsOf, letU, snd]); (try simp only [cmE])); omega) (.ite (fun h3 => .ret rfl (.inr ⟨?_, rfl⟩)) (fun h3 => ?_)))) rfl (by show (n : Int) = _; rw [hln]))) <;> ((try simp only [evE, liE, letsOf, letU, snd] at h3); (try simp only [cmE] at h3))
      · rw [Bool.eq_false_iff]
        exact fun h => okX_at.1 h k (by omega) hb (by omega)
      · refine .elem1 (.int .i64 (at3 pt k : Int)) (intsL (lX n pt)) k n rfl rfl hkn (fun g => hp.2.mono g.R) (lX_at pt hkn) (.env (by (try simp only [liE, letsOf, letU, snd, List.append_nil]); rfl) (.storeR k hkn hC rfl rfl rfl fun m2 g2 hg2 hC2 hs2 => .again rfl ⟨by (simp only [evE, liE, letsOf, letU, snd, Sh.uss, Sh.us, atAddr, map_add0, List.append_nil]), fun _ => by omega, ?_⟩))
        replace hC2 : Row m2 3 1 q cq n ((intsL (colK n pt (s * dX n) k)).set k (.int .i64 (at3 pt k : Int))) := hC2
        rw [intsL_set, colK_yes hkn hb] at hC2
        exact hC2
    · have hb : bX (s * dX n) k = false := by
        have : cm .eql (ar .and .i64 (ar .shr .i64 (s : Int) (ar .sub .i64 (ar .sub .i64 (n : Int) 1) (k : Int))) 1) 1 = false := h2
        rwa [bit_ref n hn3 s hs k hkn] at this
      rw [colK_no hb]
      exact ⟨(fun h => by rw [hb] at h; cases h), hC⟩
    · rintro _ m2 _ ⟨rfl, hnew, hC2⟩
      refine .env (by (try simp only [liE, letsOf, letU, snd, List.append_nil]); rfl) (.again rfl ⟨n - (k + 1), by omega, k + 1, by omega, ?_, rfl, fun x hx hb => ?_, hC2⟩)
      · (simp only [evE, liE, letsOf, letU, snd, Sh.uss, Sh.us, atAddr, map_add0, List.append_nil]); rw [add_i64 k (by omega)]
      · rcases Nat.lt_or_ge x k with h | h
        · exact hok x h hb
        · obtain rfl : x = k := by omega
          exact hnew hb
  · obtain rfl : k = n := by omega
    rw [colK_all _ _ (Nat.le_refl k)] at hC
    refine .ret rfl (.inl ⟨okX_at.2 fun x hx hb => ?_, q, cq, rfl, hC⟩)
    rcases Nat.lt_or_ge x k with h | h
    · exact hok x h hb
    · rw [bit_out k hn3 s hs x hx h] at hb; cases hb
theorem lX_mix {n k : Nat} {pt : P3} {w : Nat} (hn3 : n ≤ 3) (hk : k < n) (hb : bX w k = true) : (lX n (mixX pt w k)).set k ((at3 pt k : Int) + 1) = lX n (mixX pt w (k + 1)) := by
  have h3 := mixX_yes (p := pt) (s := w) (k := k) (by omega) hb
  refine List.ext_getElem? fun i => ?_
  rw [List.getElem?_set, lX_len, lX_get, lX_get]
  have h4 : ∀ i, i < 3 → (at3 (mixX pt w (k + 1)) i : Int) = if k = i then (at3 pt k : Int) + 1 else (at3 (mixX pt w k) i : Int) := fun i hi => by
    have h5 := congrArg (fun l => labAt l i) h3
    rw [l3_at _ hi] at h5
    rw [← h5]
    unfold labAt
    rw [List.getElem?_set]
    by_cases e : k = i
    · rw [if_pos e, if_pos e, if_pos (show k < (l3 (mixX pt w k)).length by show k < 3; omega)]; rfl
    · rw [if_neg e, if_neg e]
      exact l3_at _ hi
  by_cases hin : i < n
  · rw [if_pos hin, if_pos hin, h4 i (by omega)]
    by_cases e : k = i
    · rw [if_pos e, if_pos e, if_pos hk]
    · rw [if_neg e, if_neg e]
  · rw [if_neg hin, if_neg hin]
    by_cases e : k = i
    · omega
    · rw [if_neg e]
theorem c_refBehind (qn qc : Option Addr) (cn cc n : Nat) (pt : P3) (w : Nat) (hn0 : 0 < n) (hn3 : n ≤ 3) (hcn : qn = none → cn = 0) (h6 : ∀ k, k < 3 → at3 pt k ≤ 6) (hout : ∀ k, k < 3 → n ≤ k → bX w k = false) :
    FnM Tryd.prog n_ref18_behind [slv qn n cn, slv qc n cc] (fun R => Cells R qn (intsL (lX n pt)) ∧ Cells R qc (intsL (colX n pt w))) fun v mq _ => ∃ q cq, v = slv q n cq ∧ Row mq 3 1 q cq n (intsL (lX n (nxtX pt w))) := by
  refine FnM.of S_ref18_behind mx [.p qn, .i n, .i cn, .p qc, .i n, .i cc] rfl rfl fun c hp => .alloc' fun b0 _ hb0 _ => .appendLit (b0 := b0) (qx := qn) (kx := n) (capx := cn) (news := intsL (lX n pt)) elI (fun g => hp.1.mono g.R) (by rw [intsL_len, lX_len, Nat.mul_one]) (intsL_one _) hcn (by simp [maxLen]; omega) (by omega) (fun q1 c1 m1 hr1 _ hle1 => ?_) rfl rfl
  have hR0 : Row m1 3 1 q1 c1 n (intsL (lX n (mixX pt w 0))) := hr1 (by omega)
  refine .env (by (try simp only [liE, letsOf, letU, snd, List.append_nil]); rfl) (.loop (fun z us m => ∃ k : Nat, k ≤ n ∧ us = [.i k] ∧ z = n - k ∧ Row m 3 1 q1 c1 n (intsL (lX n (mixX pt w k)))) n ⟨0, Nat.zero_le _, by (simp only [evE, liE, letsOf, letU, snd, Sh.uss, Sh.us, atAddr, map_add0, List.append_nil]); rfl, rfl, hR0⟩ ?_)
  clear hR0
  rintro z _ m _ ⟨k, hk, rfl, rfl, hR⟩
  refine .env (by (try simp only [liE, letsOf, letU, snd, List.append_nil]); rfl) (.chk (by ((try simp only [evE, liE, letsOf, letU, snd]); (try simp only [cmE])); omega) (.ite (fun h1 => ?_) (fun h1 => .ret rfl ⟨q1, c1, rfl, ?_⟩))) <;> ((try simp only [evE, liE, letsOf, letU, snd] at h1); (try simp only [cmE] at h1))
  · have hkn : k < n := by omega
    have hcol : (intsL (colX n pt w))[k]? = some (.int .i64 (if bX w k = true then (at3 pt k : Int) else -1)) := by rw [intsL_at _ _ (by rw [colX_len]; exact hkn), colX_at hkn]
    have hl : (intsL (lX n (mixX pt w k)))[k]? = some (.int .i64 (at3 pt k : Int)) := by rw [lX_at _ hkn, mixX_at _ _ (by omega)]
    have h6k := h6 k (by omega)
    refine .elem1 (.int .i64 (if bX w k = true then (at3 pt k : Int) else -1)) (intsL (colX n pt w)) k n rfl rfl hkn (fun g => hp.2.mono g.R) hcol (.env (by (try simp only [liE, letsOf, letU, snd, List.append_nil]); rfl) (.join (fun us m => us = [] ∧ Row m 3 1 q1 c1 n (intsL (lX n (mixX pt w (k + 1))))) (.ite (fun h2 => ?_) (fun h2 => .again rfl ⟨by (simp only [evE, liE, letsOf, letU, snd, Sh.uss, Sh.us, atAddr, map_add0, List.append_nil]), ?_⟩)) ?_))
    · have hb : bX w k = true := by
        have h2 : cm .geq (if bX w k = true then (at3 pt k : Int) else -1) 0 = true := h2
        cases hb : bX w k with
        | true => rfl
        | false => rw [hb, if_neg (by decide)] at h2; exact absurd h2 (by decide)
      refine .elem1 (.int .i64 (at3 pt k : Int)) (intsL (lX n (mixX pt w k))) k n rfl rfl hkn (fun g => hR.reads g) hl (.env (by (try simp only [liE, letsOf, letU, snd, List.append_nil]); rfl) (.storeR k hkn hR rfl rfl rfl fun m2 g2 hg2 hR2 hs2 => .again rfl ⟨by (simp only [evE, liE, letsOf, letU, snd, Sh.uss, Sh.us, atAddr, map_add0, List.append_nil]), ?_⟩))
      replace hR2 : Row m2 3 1 q1 c1 n ((intsL (lX n (mixX pt w k))).set k (.int .i64 (ar .add .i64 (at3 pt k : Int) 1))) := hR2
      rw [addI (by omega) (by omega), intsL_set, lX_mix hn3 hkn hb] at hR2
      exact hR2
    · have hb : bX w k = false := by
        have h2 : cm .geq (if bX w k = true then (at3 pt k : Int) else -1) 0 = false := h2
        cases hb : bX w k with
        | false => rfl
        | true => rw [hb, if_pos rfl] at h2; simp [cm] at h2
      rw [mixX_no (by omega) hb]; exact hR
    · rintro _ m2 _ ⟨rfl, hR2⟩
      refine .env (by (try simp only [liE, letsOf, letU, snd, List.append_nil]); rfl) (.again rfl ⟨n - (k + 1), by omega, k + 1, by omega, ?_, rfl, hR2⟩)
      (simp only [evE, liE, letsOf, letU, snd, Sh.uss, Sh.us, atAddr, map_add0, List.append_nil]); rw [add_i64 k (by omega)]
  · obtain rfl : k = n := by omega
    have e : lX k (mixX pt w k) = lX k (nxtX pt w) := by
      have : mixX pt w k = nxtX pt w := by
        rw [← mixX_three]
        match k, hn3, hn0 with
        | 3, _, _ => rfl
        | 2, _, _ => exact (mixX_no (by decide) (hout 2 (by decide) (by decide))).symm
        | 1, _, _ => rw [mixX_no (k := 2) (by decide) (hout 2 (by decide) (by decide)), mixX_no (k := 1) (by decide) (hout 1 (by decide) (by decide))]
      rw [this]
    rw [← e]; exact hR
end Go.Proofs.YtialbhieaipcgaaDoor
/- Chapter 18: the reference's Exact. -/
namespace Go.Sy
open Go Go.RowKit
theorem lX_zero (n : Nat) : lX n p0 = List.replicate n 0 := by
  refine List.ext_getElem? fun i => ?_
  rw [lX_get, List.getElem?_replicate]
  have : (at3 p0 i : Int) = 0 := by
    match i with
    | 0 => rfl
    | 1 => rfl
    | _ + 2 => rfl
  rw [this]
theorem at3_endK (W : List (List Snd)) (k : Nat) {i : Nat} (hi : i < 3) : at3 (endK W k) i = if i < k then (W.getD i []).length else 0 := by
  match i, hi with
  | 0, _ => rfl
  | 1, _ => rfl
  | 2, _ => rfl
theorem lX_endK {W : List (List Snd)} {n k : Nat} (hn3 : n ≤ 3) (hk : k < n) : (lX n (endK W k)).set k ((W.getD k []).length : Int) = lX n (endK W (k + 1)) := by
  refine List.ext_getElem? fun i => ?_
  rw [List.getElem?_set, lX_len, lX_get, lX_get]
  by_cases hin : i < n
  · rw [if_pos hin, if_pos hin, at3_endK W k (by omega), at3_endK W (k + 1) (by omega)]
    by_cases e : k = i
    · subst e; rw [if_pos rfl, if_pos hk, if_pos (by omega)]
    · rw [if_neg e]
      by_cases h : i < k
      · rw [if_pos h, if_pos (by omega)]
      · rw [if_neg h, if_neg (by omega)]
  · rw [if_neg hin, if_neg hin]
    by_cases e : k = i
    · omega
    · rw [if_neg e]
theorem full_sets : ∀ n : Nat, n ≤ 3 → (2 ^ n - 1 + 1) * dX n = 8 ∧ ar .sub .i64 (ar .shl .i64 1 (n : Int)) 1 = ((2 ^ n - 1 : Nat) : Int) := by decide
theorem dX_pos (n : Nat) : 0 < dX n := Nat.pow_pos (by decide)
theorem row_ints {n : Nat} : List.replicate n (.int .i64 0 : Value) = intsL (List.replicate n 0) := by unfold intsL; rw [List.map_replicate]
end Go.Sy
namespace Go.Proofs.YtialbhieaipcgaaDoor
open Go Go.Sy Go.RowKit
theorem int_info : (Tryd.prog.info? 3).map (fun i => (i.zero, i.size, i.bytes)) = some (some (.int .i64 0), 1, 8) := by kernel_rfl
/-- What the reference's digits are. -/
def DigQ (n i : Nat) (e : P3) (v : Value) (mq : Mem) : Prop :=
  (leX (dig n i) e ∧ ∃ q cq, v = .tuple #[slv q n cq, .bool true] ∧ Row mq 3 1 q cq n (intsL (lX n (dig n i)))) ∨ (¬ leX (dig n i) e ∧ v = .tuple #[slv none 0 0, .bool false])
theorem c_digits (p : Option Addr) (cp n i : Nat) (l : List WD) (hln : l.length = n) (hn3 : n ≤ 3) (hi : i < 2 ^ 40) :
    FnM Tryd.prog n_ref18_digits [.int .i64 (i : Int), slv p n cp] (fun R => WordsAt R p l) fun v mq _ => DigQ n i (endX (l.map (·.w))) v mq := by
  have hend : ∀ k (hk : k < l.length), at3 (endX (l.map (·.w))) k = l[k].w.length := fun k hk => by rw [endX_at _ (by omega), getD_w l k hk]
  refine FnM.of S_ref18_digits mx [.i i, .p p, .i n, .i cp] rfl rfl fun c hp => .chk (by ((try simp only [evE, liE, letsOf, letU, snd]); (try simp only [cmE])); omega) (.make (z := .int .i64 0) (bytes := 8) n Tryd.underlying49 int_info rfl (by omega) (by simp [maxLen]; omega) (fun g hg hrow => ?_))
  generalize Mem.upd _ g _ = m1 at hrow ⊢
  rw [row_ints] at hrow
  refine .env (by (try simp only [liE, letsOf, letU, snd, List.append_nil]); rfl) (.chk (by ((try simp only [evE, liE, letsOf, letU, snd]); (try simp only [cmE])); omega) (.loop (fun z us m => ∃ xs : List Int, z ≤ n ∧ us = [.i ((i / 7 ^ (n - z) : Nat) : Int), .p none, .i 0, .i 0, .b false, .i ((z : Int) - 1)] ∧ xs.length = n ∧ (∀ k, z ≤ k → k < n → xs[k]? = some (at3 (dig n i) k : Int) ∧ at3 (dig n i) k ≤ at3 (endX (l.map (·.w))) k) ∧ Row m 3 1 (some ⟨g, 0, none⟩) n n (intsL xs)) n
    ⟨List.replicate n 0, Nat.le_refl _, ?_, List.length_replicate, fun k h1 h2 => by omega, hrow⟩ ?_))
  · (simp only [evE, liE, letsOf, letU, snd, Sh.uss, Sh.us, atAddr, map_add0, List.append_nil]); rw [Nat.sub_self, Nat.pow_zero, Nat.div_one, subI (by omega) (by omega)]; rfl
  clear hrow
  rintro z _ m _ ⟨xs, hz, rfl, hxl, hxs, hR⟩
  refine .ite (fun h1 => ?_) (fun h1 => ?_) <;> ((try simp only [evE, liE, letsOf, letU, snd] at h1); (try simp only [cmE] at h1))
  · obtain ⟨k, rfl⟩ : ∃ k, z = k + 1 := ⟨z - 1, by omega⟩
    have hkl : k < l.length := by omega
    have hdk := dig_at (i := i) hn3 (show k < n by omega)
    rw [show n - 1 - k = n - (k + 1) by omega] at hdk
    have hpow : i / 7 ^ (n - (k + 1)) < 2 ^ 40 := Nat.lt_of_le_of_lt (Nat.div_le_self _ _) hi
    have hrem : ar .rem .i64 ((i / 7 ^ (n - (k + 1)) : Nat) : Int) 7 = (at3 (dig n i) k : Int) := by
      rw [hdk]
      generalize i / 7 ^ (n - (k + 1)) = a at *
      exact show Int.tmod (a : Int) 7 = ((a % 7 : Nat) : Int) from rfl
    refine .env (by (try simp only [liE, letsOf, letU, snd, List.append_nil]); rw [show ((k + 1 : Nat) : Int) - 1 = (k : Int) by omega]) (.storeR k (by omega : k < n) hR rfl rfl rfl fun m2 g2 hg2 hR2 hs2 => ?_)
    replace hR2 : Row m2 3 1 (some ⟨g, 0, none⟩) n n ((intsL xs).set k (.int .i64 (ar .rem .i64 ((i / 7 ^ (n - (k + 1)) : Nat) : Int) 7))) := hR2
    rw [hrem, intsL_set] at hR2
    have hat : (intsL (xs.set k (at3 (dig n i) k : Int)))[k]? = some (.int .i64 (at3 (dig n i) k : Int)) := by
      unfold intsL; rw [List.getElem?_map, List.getElem?_set_self (by omega)]; rfl
    refine .elem1 (.int .i64 (at3 (dig n i) k : Int)) (intsL (xs.set k (at3 (dig n i) k : Int))) k n rfl rfl (by omega) (fun g => hR2.reads g) hat (.env (by (try simp only [liE, letsOf, letU, snd, List.append_nil]); rfl) (.loadWD l k hkl (fun g => hp.1.mono g.R) (.env (by (try simp only [liE, letsOf, letU, snd, List.append_nil]); rfl) (.chk (by ((try simp only [evE, liE, letsOf, letU, snd]); (try simp only [cmE])); omega) (.ite (fun h2 => .ret rfl (.inr ⟨?_, rfl⟩)) (fun h2 => .again rfl ⟨k, by omega, xs.set k (at3 (dig n i) k : Int), by omega, ?_, by rw [List.length_set]; exact hxl, fun x h3 h4 => ?_, hR2⟩)))) rfl (by show (n : Int) = _; rw [hln]))) <;> ((try simp only [evE, liE, letsOf, letU, snd] at h2); (try simp only [cmE] at h2))
    · intro h
      have := leX_at.1 h k (by omega)
      rw [hend k hkl] at this; omega
    · (simp only [evE, liE, letsOf, letU, snd, Sh.uss, Sh.us, atAddr, map_add0, List.append_nil])
      have hq : ar .quo .i64 ((i / 7 ^ (n - (k + 1)) : Nat) : Int) 7 = ((i / 7 ^ (n - k) : Nat) : Int) := by
        rw [show n - k = n - (k + 1) + 1 by omega, Nat.pow_succ, ← Nat.div_div_eq_div_mul]
        generalize i / 7 ^ (n - (k + 1)) = a at *
        show IntKind.i64.wrap (Int.tdiv (a : Int) 7) = _
        rw [show Int.tdiv (a : Int) 7 = ((a / 7 : Nat) : Int) from rfl, wrap_i64 (by omega) (by omega)]
      rw [hq, subI (by omega) (by omega)]
    · rcases Nat.lt_or_ge k x with h | h
      · rw [List.getElem?_set_ne (by omega)]; exact hxs x (by omega) h4
      · obtain rfl : x = k := by omega
        rw [List.getElem?_set_self (by omega)]
        exact ⟨rfl, by rw [hend x hkl]; omega⟩
  · obtain rfl : z = 0 := by omega
    have hxe : xs = lX n (dig n i) := by
      refine List.ext_getElem? fun k => ?_
      rw [lX_get]
      by_cases h : k < n
      · rw [if_pos h]; exact (hxs k (Nat.zero_le _) h).1
      · rw [if_neg h, List.getElem?_eq_none (by omega)]
    rw [hxe] at hR
    refine .ret rfl (.inl ⟨leX_at.2 fun k hk => ?_, some ⟨g, 0, none⟩, n, rfl, hR⟩)
    rcases Nat.lt_or_ge k n with h | h
    · exact (hxs k (Nat.zero_le _) h).2
    · rw [dig_pad n i hn3 k h hk]; exact Nat.zero_le _
set_option maxHeartbeats 1000000 in
theorem c_refExact (p pc : Option Addr) (cp cc : Nat) (l : List WD) (ws : List Int) (gap : Int) (hl : l.length < 2 ^ 40) (hok : ∀ x ∈ l, Wok x.w) :
    FnM Tryd.prog n_ref18_Exact [slv p l.length cp, costs pc ws.length cc gap] (fun R => WordsAt R p l ∧ CostsAt R pc ws) fun v mq _ => ∃ q cq rs', v = .tuple #[slv q rs'.length cq, .int .i64 (exactA ws gap (l.map (·.w))).2.1, .int .i64 (exactA ws gap (l.map (·.w))).2.2] ∧ rs'.map (·.l) = (exactA ws gap (l.map (·.w))).1 ∧ TabI mq q cq rs' := by
  refine FnM.of S_ref18_Exact mx [.p p, .i l.length, .i cp, .p pc, .i ws.length, .i cc, .i gap] rfl rfl fun c hp => .alloc fun b0 => .callV (c_refCheckCosts pc cc ws gap) (fun g => hp.2.mono g.R) ?_
  refine .env (by (try simp only [liE, letsOf, letU, snd, List.append_nil]); rfl) (.join (fun us m => us = [.i (if checkC ws gap ≠ 0 then checkC ws gap else wordsE 3 (l.map (·.w)))] ∧ Mem.emp = m) (.ite (fun h1 => ?_) (fun h1 => .again rfl ⟨?_, rfl⟩)) ?_)
  · ((try simp only [evE, liE, letsOf, letU, snd] at h1); (try simp only [cmE] at h1))
    refine .callV (c_refWords p cp l 3 (by omega) hok) (fun g => hp.1.mono g.R) (.env (by (try simp only [liE, letsOf, letU, snd, List.append_nil]); rfl) (.again rfl ⟨?_, rfl⟩))
    rw [if_neg (by simp [h1])]; (simp only [evE, liE, letsOf, letU, snd, Sh.uss, Sh.us, atAddr, map_add0, List.append_nil])
  · ((try simp only [evE, liE, letsOf, letU, snd] at h1); (try simp only [cmE] at h1))
    rw [if_pos h1]; (simp only [evE, liE, letsOf, letU, snd, Sh.uss, Sh.us, atAddr, map_add0, List.append_nil])
  rintro _ _ _ ⟨rfl, rfl⟩
  refine .env (by (try simp only [liE, letsOf, letU, snd, List.append_nil]); rfl) (.ite (fun h1 => .ret rfl ?_) (fun h1 => ?_)) <;> ((try simp only [evE, liE, letsOf, letU, snd] at h1); (try simp only [cmE] at h1))
  · have hs : exactA ws gap (l.map (·.w)) = ([], 0, if checkC ws gap ≠ 0 then checkC ws gap else wordsE 3 (l.map (·.w))) := by
      unfold exactA
      by_cases h2 : checkC ws gap ≠ 0
      · rw [if_pos h2, if_pos h2]
      · rw [if_neg h2, if_neg h2]
        rw [if_neg h2] at h1
        rw [if_pos h1]
    rw [hs]
    exact ⟨none, 0, [], rfl, rfl, .empty _⟩
  have h2 : checkC ws gap = 0 := by
    by_cases h2 : checkC ws gap ≠ 0
    · rw [if_pos h2] at h1; exact h1
    · simpa using h2
  have h3 : wordsE 3 (l.map (·.w)) = 0 := by rw [if_neg (by simp [h2])] at h1; exact h1
  obtain ⟨hl3, hL⟩ := wordsE_zero h3
  have hspec : exactA ws gap (l.map (·.w)) = if (l.map (·.w)).any (fun w => decide (6 < w.length)) = true then ([], 0, 11) else (outX (cX ws gap (l.map (·.w))) (endX (l.map (·.w))) (colX l.length) (remX (endX (l.map (·.w))) p0) p0, EX (cX ws gap (l.map (·.w))) (endX (l.map (·.w))) p0, 0) := by unfold exactA; rw [if_neg (by simp [h2]), if_neg (by simp [h3]), List.length_map]
  rw [hspec]
  have hWl : (l.map (·.w)).length = l.length := List.length_map _
  have hwk : ∀ k (hk : k < l.length), (l.map (·.w)).getD k [] = l[k].w := fun k hk => getD_w l k hk
  rw [hWl] at hl3
  refine .chk (by ((try simp only [evE, liE, letsOf, letU, snd]); (try simp only [cmE])); omega) (.make (z := .int .i64 0) (bytes := 8) l.length Tryd.underlying49 int_info rfl (by omega) (by simp [maxLen]; omega) (fun ge hge hrow => ?_))
  generalize Mem.upd _ ge _ = m1 at hrow ⊢
  rw [row_ints, ← lX_zero] at hrow
  refine .env (by (try simp only [liE, letsOf, letU, snd, List.append_nil]); rfl) (.loop (fun z us m => ∃ k : Nat, k ≤ l.length ∧ us = [.p none, .i 0, .i 0, .i 0, .i 0, .i k] ∧ z = l.length - k ∧ (∀ x w, l[x]? = some w → x < k → w.w.length ≤ 6) ∧ Row m 3 1 (some ⟨ge, 0, none⟩) l.length l.length (intsL (lX l.length (endK (l.map (·.w)) k)))) l.length
    ⟨0, by omega, by (simp only [evE, liE, letsOf, letU, snd, Sh.uss, Sh.us, atAddr, map_add0, List.append_nil]); rfl, rfl, fun x _ _ h => by omega, hrow⟩ ?_)
  clear hrow
  rintro z _ m _ ⟨k, hk, rfl, rfl, hlen, hE⟩
  refine .env (by (try simp only [liE, letsOf, letU, snd, List.append_nil]); rfl) (.chk (by ((try simp only [evE, liE, letsOf, letU, snd]); (try simp only [cmE])); omega) (.ite (fun h4 => ?_) (fun h4 => ?_))) <;> ((try simp only [evE, liE, letsOf, letU, snd] at h4); (try simp only [cmE] at h4))
  · have hk : k < l.length := by omega
    refine .loadWD l k hk (fun g => hp.1.1.mono g.R) (.env (by (try simp only [liE, letsOf, letU, snd, List.append_nil]); rfl) (.chk (by ((try simp only [evE, liE, letsOf, letU, snd]); (try simp only [cmE])); omega) (.ite (fun h5 => .ret rfl ?_) (fun h5 => .loadWD l k hk (fun g => hp.1.1.mono g.R) (.env (by (try simp only [liE, letsOf, letU, snd, List.append_nil]); rfl) (.chk (by ((try simp only [evE, liE, letsOf, letU, snd]); (try simp only [cmE])); omega) (.storeR k (by omega) hE rfl rfl rfl fun m2 g2 hg2 hE2 hs2 => .again rfl ⟨l.length - (k + 1), by omega, k + 1, by omega, ?_, rfl, fun x w hx hxk => ?_, ?_⟩))))))) <;> ((try simp only [evE, liE, letsOf, letU, snd] at h5); (try simp only [cmE] at h5))
    · rw [if_pos (any_long (k := k) (by rw [hWl]; exact hk) (by rw [List.getElem_map]; omega))]
      exact ⟨none, 0, [], rfl, rfl, .empty _⟩
    · (simp only [evE, liE, letsOf, letU, snd, Sh.uss, Sh.us, atAddr, map_add0, List.append_nil]); rw [add_i64 k (by omega)]
    · rcases Nat.lt_or_ge x k with h | h
      · exact hlen x w hx h
      · obtain rfl : x = k := by omega
        rw [List.getElem?_eq_getElem hk] at hx
        cases hx
        omega
    · replace hE2 : Row m2 3 1 (some ⟨ge, 0, none⟩) l.length l.length ((intsL (lX l.length (endK (l.map (·.w)) k))).set k (.int .i64 (l[k].w.length : Int))) := hE2
      rw [intsL_set, ← hwk k hk, lX_endK (by omega) hk] at hE2
      exact hE2
  obtain rfl : k = l.length := by omega
  have h6 : ∀ k (hk : k < (l.map (fun x : WD => x.w)).length), ((l.map (fun x : WD => x.w))[k]'hk).length ≤ 6 := fun k hk => by rw [List.getElem_map]; exact hlen k _ (List.getElem?_eq_getElem (by rw [hWl] at hk; exact hk)) (by rw [hWl] at hk; exact hk)
  rw [none_long h6, if_neg (by simp)]
  have hka := endK_all (l.map (·.w)) (by rw [hWl]; omega)
  rw [hWl] at hka
  rw [hka] at hE
  have he6 := end_six h6
  have hez : padX l.length (endX (l.map (·.w))) := fun k h1 h2 => end_zero (W := l.map (·.w)) k (by rw [hWl]; exact h1) h2
  have hnn : ∀ p s, 0 ≤ cX ws gap (l.map (·.w)) p s := cX_nonneg h2 (by omega)
  have hcle : ∀ p s, cX ws gap (l.map (·.w)) p s ≤ 2199023255552 := cX_le h2 (by omega)
  refine .chk (by ((try simp only [evE, liE, letsOf, letU, snd]); (try simp only [cmE])); omega) (.ite (fun h5 => .ret rfl ⟨none, 0, [], ?_, ?_, .empty _⟩) (fun h5 => ?_)) <;> ((try simp only [evE, liE, letsOf, letU, snd] at h5); (try simp only [cmE] at h5))
  · have : l = [] := List.length_eq_zero_iff.1 (by omega)
    subst this
    show Value.tuple #[Value.slice none 0 0, .int .i64 0, .int .i64 0] = .tuple #[slv none 0 0, .int .i64 (EX (cX ws gap []) p0 p0), .int .i64 0]
    rw [EX_end]; rfl
  · have : l = [] := List.length_eq_zero_iff.1 (by omega)
    subst this
    show [] = outX (cX ws gap []) p0 (colX 0) (remX p0 p0) p0
    rw [outX_end]
  have hn0 : 0 < l.length := by omega
  have hent : ∀ pt w, leX pt (endX (l.map (·.w))) → okX (endX (l.map (·.w))) pt w = true → EntOk (l.map (·.w)) (colX l.length pt w) := fun pt w a b => by have := colX_ent (s := w) (by omega) a b; rwa [hWl] at this
  have hcol : ∀ pt w, columnE ws gap (l.map (·.w)) (colX l.length pt w) = cX ws gap (l.map (·.w)) pt w := fun pt w => by unfold cX; rw [hWl]
  have kdig := fun i hi => c_digits p cp l.length i l rfl (by omega) hi
  have kcho := fun qn cn pt s hs hle => c_chosen p qn cp cn l.length l pt s rfl hn0 (by omega) hs hle he6
  have kcol := fun qc c1 pt w hle hokw => c_refColumn p qc pc cp c1 cc l (colX l.length pt w) ws gap (by omega) hok h2 (colX_len _ _ _) (hent pt w hle hokw)
  simp only [colX_len, hcol] at kcol
  have hE18 : ∀ x, leX x (endX (l.map (·.w))) → remX (endX (l.map (·.w))) x ≤ 18 := fun x _ => by
    have e0 : (endX (l.map (·.w))).1 ≤ 6 := he6 0 (by decide)
    have e1 : (endX (l.map (·.w))).2.1 ≤ 6 := he6 1 (by decide)
    have e2 : (endX (l.map (·.w))).2.2 ≤ 6 := he6 2 (by decide)
    unfold remX; omega
  clear hwk hlen
  generalize hWW : l.map (·.w) = W at *
  generalize hEE : endX W = E at *
  generalize hCC : cX ws gap W = C at *
  generalize hnn' : l.length = n at *
  have hn3 : n ≤ 3 := by omega
  have hEX : ∀ x, leX x E → 0 ≤ EX C E x ∧ EX C E x ≤ 18 * 2199023255552 := fun x hx => by
    have h1 := EX_le hnn (fun p s _ _ => hcle p s) _ _ hx rfl
    have h2 := hE18 x hx
    exact ⟨EX_nonneg hnn hx, by omega⟩
  have hN : numK E n ≤ 343 := Nat.le_trans (numK_le he6 n hn3) (Nat.pow_le_pow_right (by decide) hn3)
  have hnum : ∀ {x}, leX x E → ∀ k, k < 3 → at3 x k ≤ 6 := fun hx => hx.six he6
  have hcm : ∀ {pt}, leX pt E → ∀ w, w ≤ 7 → w ≠ w / dX n * dX n → candX C E (EX C E) pt w = none := fun hpt => cand_mul C hn3 hpt hez _
  have eN := add_i64 (numK E n) (by omega)
  obtain ⟨hfull, hshl⟩ := full_sets n hn3
  have hdp := dX_pos n
  have h2n : 2 ^ n ≤ 8 := Nat.pow_le_pow_right (by decide) hn3
  refine .callV (c_number (some ⟨ge, 0, none⟩) n n E hn3 he6) (fun g => hE.reads g) (.env (by (try simp only [liE, letsOf, letU, snd, List.append_nil]); rfl) (.make (z := .int .i64 0) (bytes := 8) (numK E n + 1) Tryd.underlying24 i64_info rfl (by omega) (by simp [maxLen]; omega) (fun gl hgl hrow => ?_) (by show Value.int _ (ar .add .i64 (numK E n : Int) 1) = _; rw [eN]) (by show Value.int _ (ar .add .i64 (numK E n : Int) 1) = _; rw [eN])))
  have hle1 : ∀ o, m.le (m.upd gl o) := fun o b o' hb => by rw [Mem.upd_other _ _ (fun e => by rw [e, hgl] at hb; cases hb)]; exact hb
  replace hle1 := hle1 (.cells (madeCells #[.int .i64 0] (numK E n + 1)) 2 (0, 0))
  revert hrow hle1
  generalize Mem.upd m gl _ = m2
  intro hrow hle1
  rw [row_ints] at hrow
  replace hE := Row.le hE hle1
  refine .env (by (try simp only [liE, letsOf, letU, snd, List.append_nil]); rfl) (.callV (c_number (some ⟨ge, 0, none⟩) n n E hn3 he6) (fun g => hE.reads g) (.env (by (try simp only [liE, letsOf, letU, snd, List.append_nil]); rfl) ?_))
  refine .loop (fun z us m => ∃ vs : List Int, us = [.i ((z : Int) - 1)] ∧ z ≤ numK E n ∧ vs.length = numK E n + 1 ∧ (∀ x, leX x E → z ≤ numK x n → vs[numK x n]? = some (EX C E x)) ∧ Row m 3 1 (some ⟨ge, 0, none⟩) n n (intsL (lX n E)) ∧ Row m 2 1 (some ⟨gl, 0, none⟩) (numK E n + 1) (numK E n + 1) (intsL vs)) (numK E n)
    ⟨List.replicate (numK E n + 1) 0, by (simp only [evE, liE, letsOf, letU, snd, Sh.uss, Sh.us, atAddr, map_add0, List.append_nil]); rw [subI (by omega) (by omega)], Nat.le_refl _, List.length_replicate, fun x hx h => ?_, hE, hrow⟩ ?_
  · have h1 := numK_mono hn3 hx
    have : x = E := numK_inj hn3 (hx.pad hez) hez (hnum hx) he6 (by omega)
    rw [this, EX_end, List.getElem?_replicate, if_pos (by omega)]
  clear hE hrow
  rintro z _ m3 _ ⟨vs, rfl, hz, hvl, hvs, hE, hV⟩
  refine .ite (fun h6 => ?_) (fun h6 => ?_) <;> ((try simp only [evE, liE, letsOf, letU, snd] at h6); (try simp only [cmE] at h6))
  · obtain ⟨i, rfl⟩ : ∃ i, z = i + 1 := ⟨z - 1, by omega⟩
    have hi7 : i < 7 ^ n := by have := numK_le he6 n hn3; omega
    refine .env (by (try simp only [liE, letsOf, letU, snd, List.append_nil]); rw [show ((i + 1 : Nat) : Int) - 1 = (i : Int) by omega]) (.join (fun us m => us = [] ∧ ∃ vs : List Int, vs.length = numK E n + 1 ∧ (∀ x, leX x E → i ≤ numK x n → vs[numK x n]? = some (EX C E x)) ∧ Row m 3 1 (some ⟨ge, 0, none⟩) n n (intsL (lX n E)) ∧ Row m 2 1 (some ⟨gl, 0, none⟩) (numK E n + 1) (numK E n + 1) (intsL vs)) (.callE (kdig i (by omega)) (fun g => hp.1.mono g.R) ?_) ?_)
    · rintro v mq m4 hle4 hqe4 (⟨hpt, q4, c4, rfl, hR4⟩ | ⟨hno, rfl⟩)
      · replace hE := Row.le hE hle4
        replace hV := Row.le hV hle4
        replace hR4 := Row.le hR4 hqe4
        have hpn := num_dig hn3 hi7
        generalize hPT : dig n i = pt at *
        have hpe : pt ≠ E := fun e => by rw [e] at hpn; omega
        have hEXe := EX_eq (c := C) hpt hpe
        have hmul := hcm hpt
        have hcv : ∀ w, okX E pt w = true → candX C E (EX C E) pt w = some (C pt w + EX C E (nxtX pt w)) := fun w h => if_pos h
        have hcn : ∀ w, okX E pt w = false → candX C E (EX C E) pt w = none := fun w h => if_neg (by simp [h])
        generalize hcf : candX C E (EX C E) pt = cf at hEXe hmul hcv hcn
        refine ⟨[.p q4, .i n, .i c4, .b true], uOk_of rfl, (slb_fresh _ _ _ _ _ _).symm, .env (by (try simp only [liE, letsOf, letU, snd, List.append_nil]); rfl) (.no rfl (.chk (by ((try simp only [evE, liE, letsOf, letU, snd]); (try simp only [cmE])); omega) (.chk (by ((try simp only [evE, liE, letsOf, letU, snd]); (try simp only [cmE])); omega) ?_)))⟩
        refine .loop (fun z us m => ∃ s : Nat, s < 2 ^ n ∧ us = [.i (pickF cf (8 - (s + 1) * dX n)).1, .i s] ∧ z = s ∧ Row m 3 1 (some ⟨ge, 0, none⟩) n n (intsL (lX n E)) ∧ Row m 2 1 (some ⟨gl, 0, none⟩) (numK E n + 1) (numK E n + 1) (intsL vs) ∧ Row m 3 1 q4 c4 n (intsL (lX n pt))) (2 ^ n - 1)
          ⟨2 ^ n - 1, by have := Nat.pow_pos (a := 2) (n := n) (by decide); omega, ?_, rfl, hE, hV, hR4⟩ ?_
        · (simp only [evE, liE, letsOf, letU, snd, Sh.uss, Sh.us, atAddr, map_add0, List.append_nil]); rw [hshl, hfull]; rfl
        clear hE hV hR4
        rintro z _ m5 _ ⟨s, hs, rfl, rfl, hE, hV, hR⟩
        refine .env (by (try simp only [liE, letsOf, letU, snd, List.append_nil]); rfl) (.ite (fun h7 => ?_) (fun h7 => ?_)) <;> ((try simp only [evE, liE, letsOf, letU, snd] at h7); (try simp only [cmE] at h7))
        · have hs0 : 0 < z := by omega
          have hstep := pickR_step hn3 hn0 hmul hs hs0
          have hw7 := set_range n hn3 z hs
          have hw0 : 0 < z * dX n := Nat.mul_pos hs0 hdp
          refine .join (fun us m => us = [.i (pickF cf (8 - z * dX n)).1] ∧ Row m 3 1 (some ⟨ge, 0, none⟩) n n (intsL (lX n E)) ∧ Row m 2 1 (some ⟨gl, 0, none⟩) (numK E n + 1) (numK E n + 1) (intsL vs) ∧ Row m 3 1 q4 c4 n (intsL (lX n pt))) (.callE (kcho q4 c4 pt z hs hpt) (fun g => ⟨hp.1.mono g.R, hR.reads g⟩) ?_) ?_
          · rintro v mq m6 hle6 hqe6 (⟨hokw, q6, c6, rfl, hR6⟩ | ⟨hnow, rfl⟩)
            · replace hE := Row.le hE hle6
              replace hV := Row.le hV hle6
              replace hR := Row.le hR hle6
              replace hR6 := Row.le hR6 hqe6
              have hnle := nxt_le hpt hokw
              have hcfw := hcv _ hokw
              have hlt := numK_nxt hn3 hpt hez he6 hokw hw0 hw7
              have hc0 := hnn pt (z * dX n)
              have hc1 := hcle pt (z * dX n)
              have hb := hEX _ hnle
              have hnN := numK_mono hn3 hnle
              refine ⟨[.p q6, .i n, .i c6, .b true], uOk_of rfl, (slb_fresh _ _ _ _ _ _).symm, .env (by (try simp only [liE, letsOf, letU, snd, List.append_nil]); rfl) (.no rfl (.callV (kcol q6 c6 pt (z * dX n) hpt hokw) (fun g => ⟨hp.1.mono g.R, hR6.reads g, hp.2.mono g.R⟩) (.env (by (try simp only [liE, letsOf, letU, snd, List.append_nil]); rfl) (.callE (c_refBehind q4 q6 c4 c6 n pt (z * dX n) hn0 hn3 (fun h => cap0_of hR h) (hnum hpt) (fun k h1 h2 => bit_out n hn3 z hs k h1 h2)) (fun g => ⟨hR.reads g, hR6.reads g⟩) ?_))))⟩
              rintro v mq7 m7 hle7 hqe7 ⟨q7, c7, rfl, hR7⟩
              replace hE := Row.le hE hle7
              replace hV := Row.le hV hle7
              replace hR := Row.le hR hle7
              replace hR7 := Row.le hR7 hqe7
              have hget : (intsL vs)[numK (nxtX pt (z * dX n)) n]? = some (.int .i64 (EX C E (nxtX pt (z * dX n)))) := by unfold intsL; rw [List.getElem?_map, hvs _ hnle (by omega)]; rfl
              refine ⟨[.p q7, .i n, .i c7], uOk_of rfl, (slv_fresh _ _ _ _ _).symm, .env (by (try simp only [liE, letsOf, letU, snd, List.append_nil]); rfl) (.callV (c_number q7 c7 n (nxtX pt (z * dX n)) hn3 (hnum hnle)) (fun g => hR7.reads g) (.env (by (try simp only [liE, letsOf, letU, snd, List.append_nil]); rfl) (.elem1 (.int .i64 (EX C E (nxtX pt (z * dX n)))) (intsL vs) (numK (nxtX pt (z * dX n)) n) (numK E n + 1) rfl rfl (by omega) (fun g => hV.reads g) hget (.env (by (try simp only [liE, letsOf, letU, snd, List.append_nil]); rfl) (.join (fun us m => us = [.i (pickF cf (8 - z * dX n)).1] ∧ m7 = m) (.ite (fun h8 => .again rfl ⟨?_, rfl⟩) (fun h8 => .again rfl ⟨?_, rfl⟩)) ?_)))))⟩
              · ((try simp only [evE, liE, letsOf, letU, snd] at h8); (try simp only [cmE] at h8))
                rw [addI (by omega) (by omega)] at h8
                (simp only [evE, liE, letsOf, letU, snd, Sh.uss, Sh.us, atAddr, map_add0, List.append_nil]); rw [addI (by omega) (by omega), hstep, hcfw]; unfold stepP; dsimp only; rw [if_pos h8]
              · ((try simp only [evE, liE, letsOf, letU, snd] at h8); (try simp only [cmE] at h8))
                rw [addI (by omega) (by omega)] at h8
                (simp only [evE, liE, letsOf, letU, snd, Sh.uss, Sh.us, atAddr, map_add0, List.append_nil]); rw [hstep, hcfw]; unfold stepP; dsimp only; rw [if_neg (by omega)]
              · rintro _ _ _ ⟨rfl, rfl⟩
                exact .env (by (try simp only [liE, letsOf, letU, snd, List.append_nil]); rfl) (.again rfl ⟨by (simp only [evE, liE, letsOf, letU, snd, Sh.uss, Sh.us, atAddr, map_add0, List.append_nil]), hE, hV, hR⟩)
            · refine ⟨[.p none, .i (0 : Nat), .i (0 : Nat), .b false], uOk_of rfl, (slb_fresh _ _ _ _ _ _).symm, .env (by (try simp only [liE, letsOf, letU, snd, List.append_nil]); rfl) (.yes rfl (.again rfl ⟨?_, Row.le hE hle6, Row.le hV hle6, Row.le hR hle6⟩))⟩
              (simp only [evE, liE, letsOf, letU, snd, Sh.uss, Sh.us, atAddr, map_add0, List.append_nil]); rw [hstep, hcn _ hnow]; rfl
          · rintro _ m8 _ ⟨rfl, hE, hV, hR⟩
            refine .env (by (try simp only [liE, letsOf, letU, snd, List.append_nil]); rfl) (.again rfl ⟨z - 1, by omega, z - 1, by omega, ?_, rfl, hE, hV, hR⟩)
            (simp only [evE, liE, letsOf, letU, snd, Sh.uss, Sh.us, atAddr, map_add0, List.append_nil]); rw [subI (by omega) (by omega), show z - 1 + 1 = z by omega, show ((z - 1 : Nat) : Int) = (z : Int) - 1 by omega]
        · obtain rfl : z = 0 := by omega
          have hfin : (pickF cf (8 - (0 + 1) * dX n)).1 = EX C E pt := by rw [hEXe, Nat.zero_add, Nat.one_mul, pickR_end hn3 hn0 hmul]
          refine .storeR i (by omega) hV rfl rfl rfl fun m6 g6 hg6 hV6 hs6 => .again rfl ⟨by (simp only [evE, liE, letsOf, letU, snd, Sh.uss, Sh.us, atAddr, map_add0, List.append_nil]), vs.set i (EX C E pt), by rw [List.length_set]; exact hvl, fun x hx h => ?_, ?_, ?_⟩
          · rcases Nat.lt_or_ge i (numK x n) with h9 | h9
            · rw [List.getElem?_set_ne (by omega)]; exact hvs x hx (by omega)
            · have : x = pt := numK_inj hn3 (hx.pad hez) (hpt.pad hez) (hnum hx) (hnum hpt) (by omega)
              rw [this, hpn, List.getElem?_set_self (by omega)]
          · exact hE.keep fun b hb _ => hs6 b fun e => Row.apart hE hV (by decide) b hb (by rw [hg6, e])
          · replace hV6 : Row m6 2 1 (some ⟨gl, 0, none⟩) (numK E n + 1) (numK E n + 1) ((intsL vs).set i (.int .i64 (pickF cf (8 - (0 + 1) * dX n)).1)) := hV6
            rw [hfin, intsL_set] at hV6
            exact hV6
      · refine ⟨[.p none, .i (0 : Nat), .i (0 : Nat), .b false], uOk_of rfl, (slb_fresh _ _ _ _ _ _).symm, .env (by (try simp only [liE, letsOf, letU, snd, List.append_nil]); rfl) (.yes rfl (.again rfl ⟨by (simp only [evE, liE, letsOf, letU, snd, Sh.uss, Sh.us, atAddr, map_add0, List.append_nil]), vs, hvl, fun x hx h => ?_, Row.le hE hle4, Row.le hV hle4⟩))⟩
        rcases Nat.lt_or_ge i (numK x n) with h9 | h9
        · exact hvs x hx (by omega)
        · exfalso
          have hd := dig_num hn3 (hx.pad hez) (hnum hx)
          rw [show numK x n = i by omega] at hd
          rw [hd] at hno
          exact hno hx
    · rintro _ m8 _ ⟨rfl, vs, hvl, hvs, hE, hV⟩
      exact .env (by (try simp only [liE, letsOf, letU, snd, List.append_nil]); rfl) (.again rfl ⟨i, by omega, vs, by (simp only [evE, liE, letsOf, letU, snd, Sh.uss, Sh.us, atAddr, map_add0, List.append_nil]); rw [subI (by omega) (by omega)], by omega, hvl, hvs, hE, hV⟩)
  · obtain rfl : z = 0 := by omega
    have hva : ∀ x, leX x E → (intsL vs)[numK x n]? = some (.int .i64 (EX C E x)) := fun x hx => by unfold intsL; rw [List.getElem?_map, hvs x hx (Nat.zero_le _)]; rfl
    refine .chk (by ((try simp only [evE, liE, letsOf, letU, snd]); (try simp only [cmE])); omega) (.env (by (try simp only [liE, letsOf, letU, snd, List.append_nil]); rfl) (.make (z := .int .i64 0) (bytes := 8) n Tryd.underlying49 int_info rfl (by omega) (by simp [maxLen]; omega) (fun gn hgn hrow => ?_)))
    have hle5 : ∀ o, m3.le (m3.upd gn o) := fun o b o' hb => by rw [Mem.upd_other _ _ (fun e => by rw [e, hgn] at hb; cases hb)]; exact hb
    replace hle5 := hle5 (.cells (madeCells #[.int .i64 0] n) 3 (0, 0))
    revert hrow hle5
    generalize Mem.upd m3 gn _ = m4
    intro hrow hle5
    rw [row_ints, ← lX_zero] at hrow
    replace hE := Row.le hE hle5
    replace hV := Row.le hV hle5
    refine .env (by (try simp only [liE, letsOf, letU, snd, List.append_nil]); rfl) (.loop (fun z us m => ∃ (q : Option Addr) (cq : Nat) (rs2 : List IR) (qn : Option Addr) (cn : Nat) (pt : P3) (s : Nat), us = [.p q, .i rs2.length, .i cq, .p qn, .i n, .i cn] ∧ z = remX E pt ∧ leX pt E ∧ remX E pt ≤ s ∧ outX C E (colX n) (remX E p0) p0 = rs2.map (·.l) ++ outX C E (colX n) s pt ∧
        Row m 3 1 qn cn n (intsL (lX n pt)) ∧ Row m 3 1 (some ⟨ge, 0, none⟩) n n (intsL (lX n E)) ∧ Row m 2 1 (some ⟨gl, 0, none⟩) (numK E n + 1) (numK E n + 1) (intsL vs) ∧ TabR m q cq rs2) (remX E p0)
      ⟨none, 0, [], some ⟨gn, 0, none⟩, n, p0, _, by (simp only [evE, liE, letsOf, letU, snd, Sh.uss, Sh.us, atAddr, map_add0, List.append_nil]); rfl, rfl, p0_le E, Nat.le_refl _, rfl, hrow, hE, hV, .nil _⟩ ?_)
    clear hrow hE hV
    rintro z _ m5 _ ⟨q, cq, rs2, qn, cn, pt, s, rfl, rfl, hpt, hs, hout, hR, hE, hV, hTR⟩
    have hlen18 : rs2.length ≤ 18 := by
      have h1 := congrArg List.length hout
      have h2 := outX_len C E (colX n) (remX E p0) p0
      have h3 := hE18 p0 (p0_le E)
      rw [List.length_append, List.length_map] at h1
      omega
    have hpN := numK_mono hn3 hpt
    refine .env (by (try simp only [liE, letsOf, letU, snd, List.append_nil]); rfl) (.callV (c_number qn cn n pt hn3 (hnum hpt)) (fun g => hR.reads g) (.env (by (try simp only [liE, letsOf, letU, snd, List.append_nil]); rfl) (.callV (c_number (some ⟨ge, 0, none⟩) n n E hn3 he6) (fun g => hE.reads g) (.env (by (try simp only [liE, letsOf, letU, snd, List.append_nil]); rfl) (.ite (fun h7 => ?_) (fun h7 => ?_)))))) <;> ((try simp only [evE, liE, letsOf, letU, snd] at h7); (try simp only [cmE] at h7))
    · have hpe : pt ≠ E := fun e => by rw [e] at h7; omega
      have hnz := mt (rem_zero hpt) hpe
      obtain ⟨s, rfl⟩ : ∃ s', s = s' + 1 := ⟨s - 1, by omega⟩
      obtain ⟨hS0, hS7, hSok, hSc⟩ := set_ok hnn hpt hpe
      have hbest := pick_best hnn hpt hpe
      have hEXe := EX_eq (c := C) hpt hpe
      rw [outX_go _ _ hpe] at hout
      refine .chk (by ((try simp only [evE, liE, letsOf, letU, snd]); (try simp only [cmE])); omega) (.chk (by ((try simp only [evE, liE, letsOf, letU, snd]); (try simp only [cmE])); omega) (.join (fun us m => ∃ (q : Option Addr) (cq : Nat) (rs2 : List IR) (qn : Option Addr) (cn : Nat) (pt' : P3) (e : Int), us = [.p q, .i rs2.length, .i cq, .p qn, .i n, .i cn, .i e] ∧ remX E pt' < remX E pt ∧ leX pt' E ∧ remX E pt' ≤ s ∧ outX C E (colX n) (remX E p0) p0 = rs2.map (·.l) ++ outX C E (colX n) s pt' ∧
          Row m 3 1 qn cn n (intsL (lX n pt')) ∧ Row m 3 1 (some ⟨ge, 0, none⟩) n n (intsL (lX n E)) ∧ Row m 2 1 (some ⟨gl, 0, none⟩) (numK E n + 1) (numK E n + 1) (intsL vs) ∧ TabR m q cq rs2)
        (.loop (fun z us m => ∃ t : Nat, t < 2 ^ n ∧ us = [.p q, .i rs2.length, .i cq, .p qn, .i n, .i cn, .i t] ∧ z = t ∧ (∀ t', t < t' → t' < 2 ^ n → candX C E (EX C E) pt (t' * dX n) ≠ some (EX C E pt)) ∧ Row m 3 1 qn cn n (intsL (lX n pt)) ∧ Row m 3 1 (some ⟨ge, 0, none⟩) n n (intsL (lX n E)) ∧ Row m 2 1 (some ⟨gl, 0, none⟩) (numK E n + 1) (numK E n + 1) (intsL vs) ∧ TabR m q cq rs2) (2 ^ n - 1)
          ⟨2 ^ n - 1, by have := Nat.pow_pos (a := 2) (n := n) (by decide); omega, ?_, rfl, fun t' h1 h2 => by omega, hR, hE, hV, hTR⟩ ?_) ?_))
      · (simp only [evE, liE, letsOf, letU, snd, Sh.uss, Sh.us, atAddr, map_add0, List.append_nil]); rw [hshl]
      · clear hR hE hV hTR
        rintro z _ m6 _ ⟨t, ht, rfl, rfl, hno, hR, hE, hV, hTR⟩
        refine .env (by (try simp only [liE, letsOf, letU, snd, List.append_nil]); rfl) (.ite (fun h8 => ?_) (fun h8 => ?_)) <;> ((try simp only [evE, liE, letsOf, letU, snd] at h8); (try simp only [cmE] at h8))
        · have ht0 : 0 < z := by omega
          have hw7 := set_range n hn3 z ht
          have hw0 : 0 < z * dX n := Nat.mul_pos ht0 hdp
          refine .callE (kcho qn cn pt z ht hpt) (fun g => ⟨hp.1.mono g.R, hR.reads g⟩) ?_
          rintro v mq m7 hle7 hqe7 (⟨hokw, q7, c7, rfl, hR7⟩ | ⟨hnow, rfl⟩)
          · replace hE := Row.le hE hle7
            replace hV := Row.le hV hle7
            replace hR := Row.le hR hle7
            replace hTR := hTR.le hle7
            replace hR7 := Row.le hR7 hqe7
            have hnle := nxt_le hpt hokw
            have hnrem := nxt_rem hpt hokw hw0 hw7
            have hcfw : candX C E (EX C E) pt (z * dX n) = some (C pt (z * dX n) + EX C E (nxtX pt (z * dX n))) := if_pos hokw
            have hc0 := hnn pt (z * dX n)
            have hc1 := hcle pt (z * dX n)
            have hb := hEX _ hnle
            have hnN := numK_mono hn3 hnle
            have kbeh := c_refBehind qn q7 cn c7 n pt (z * dX n) hn0 hn3 (fun h => cap0_of hR h) (hnum hpt) (fun k h1 h2 => bit_out n hn3 z ht k h1 h2)
            refine ⟨[.p q7, .i n, .i c7, .b true], uOk_of rfl, (slb_fresh _ _ _ _ _ _).symm, .env (by (try simp only [liE, letsOf, letU, snd, List.append_nil]); rfl) (.yes rfl (.callV (kcol q7 c7 pt (z * dX n) hpt hokw) (fun g => ⟨hp.1.mono g.R, hR7.reads g, hp.2.mono g.R⟩) (.env (by (try simp only [liE, letsOf, letU, snd, List.append_nil]); rfl) (.callE kbeh (fun g => ⟨hR.reads g, hR7.reads g⟩) ?_))))⟩
            rintro v mq8 m8 hle8 hqe8 ⟨q8, c8, rfl, hR8⟩
            replace hE := Row.le hE hle8
            replace hV := Row.le hV hle8
            replace hR := Row.le hR hle8
            replace hTR := hTR.le hle8
            replace hR7 := Row.le hR7 hle8
            replace hR8 := Row.le hR8 hqe8
            refine ⟨[.p q8, .i n, .i c8], uOk_of rfl, (slv_fresh _ _ _ _ _).symm, .env (by (try simp only [liE, letsOf, letU, snd, List.append_nil]); rfl) (.callV (c_number q8 c8 n (nxtX pt (z * dX n)) hn3 (hnum hnle)) (fun g => hR8.reads g) (.env (by (try simp only [liE, letsOf, letU, snd, List.append_nil]); rfl) (.elem1 (.int .i64 (EX C E (nxtX pt (z * dX n)))) (intsL vs) (numK (nxtX pt (z * dX n)) n) (numK E n + 1) rfl rfl (by omega) (fun g => hV.reads g) (hva _ hnle) (.env (by (try simp only [liE, letsOf, letU, snd, List.append_nil]); rfl) (.callV (c_number qn cn n pt hn3 (hnum hpt)) (fun g => hR.reads g) (.env (by (try simp only [liE, letsOf, letU, snd, List.append_nil]); rfl) (.elem1 (.int .i64 (EX C E pt)) (intsL vs) (numK pt n) (numK E n + 1) rfl rfl (by omega) (fun g => hV.reads g) (hva _ hpt) (.env (by (try simp only [liE, letsOf, letU, snd, List.append_nil]); rfl) (.ite (fun h9 => ?_) (fun h9 => ?_))))))))))⟩
            · ((try simp only [evE, liE, letsOf, letU, snd] at h9); (try simp only [cmE] at h9))
              rw [addI (by omega) (by omega)] at h9
              have hset : setX C E pt = z * dX n := by
                have hm := ok_mul hn3 hpt hez hS7 hSok
                have hl := hbest.least (z * dX n) _ (by omega) hw7 hcfw
                rw [← hEXe] at hl
                have h10 : ¬ setX C E pt < z * dX n := fun h => by have := hl.2 h; omega
                have h11 : ¬ z < setX C E pt / dX n := fun h => hno _ h hm.2 (by rw [← hm.1]; exact hSc)
                have h12 : setX C E pt / dX n * dX n ≤ z * dX n := Nat.mul_le_mul_right _ (by omega)
                omega
              rw [hset] at hout
              refine .alloc fun b6 => .append (q := q) (cap := cq) (n := rs2.length) (qx := some ⟨b6, 0, none⟩) (kx := 1) (capx := 1) (news := [slv q7 n c7]) elT hTR.out (fun gd => gd.cells (j := 1) rfl rfl rfl) rfl (by simp [slv, Value.oneCell']) (fun h => by cases h) (by simp [maxLen]; omega) (by omega) (fun q' cap' m9 hr9 hk9 hq9 => ?_)
              have hE9 := hE.keepA hTR.out (by decide) hk9
              have hV9 := hV.keepA hTR.out (by decide) hk9
              have hR9 := hR.keepA hTR.out (by decide) hk9
              have hC9 := hR7.keepA hTR.out (by decide) hk9
              have hTR9 : TabR m9 q' cap' (rs2 ++ [⟨q7, c7, colX n pt (z * dX n)⟩]) := by
                refine hTR.push (r := ⟨q7, c7, colX n pt (z * dX n)⟩) (RowI.of (by rw [colX_len]; exact hR7)) ?_ hk9
                show Row m9 49 1 q' cap' (rs2.length + 1) (rs2.map IR.v ++ [slv q7 (colX n pt (z * dX n)).length c7])
                rw [colX_len]; exact hr9
              refine .env (by (try simp only [liE, letsOf, letU, snd, List.append_nil]); rfl) (.callE kbeh (fun g => ⟨hR9.reads g, hC9.reads g⟩) ?_)
              rintro v mq10 m10 hle10 hqe10 ⟨q10, c10, rfl, hR10⟩
              refine ⟨[.p q10, .i n, .i c10], uOk_of rfl, (slv_fresh _ _ _ _ _).symm, .env (by (try simp only [liE, letsOf, letU, snd, List.append_nil]); rfl) (.again rfl ⟨q', cap', rs2 ++ [⟨q7, c7, colX n pt (z * dX n)⟩], q10, c10, nxtX pt (z * dX n), (z : Int), ?_, hnrem, hnle, by omega, ?_, Row.le hR10 hqe10, Row.le hE9 hle10, Row.le hV9 hle10, hTR9.le hle10⟩)⟩
              · (simp only [evE, liE, letsOf, letU, snd, Sh.uss, Sh.us, atAddr, map_add0, List.append_nil]); rw [List.length_append]; rfl
              · rw [hout, List.map_append, List.append_assoc]; rfl
            · ((try simp only [evE, liE, letsOf, letU, snd] at h9); (try simp only [cmE] at h9))
              rw [addI (by omega) (by omega)] at h9
              refine .again rfl ⟨z - 1, by omega, z - 1, by omega, ?_, rfl, fun t' h1 h2 => ?_, hR, hE, hV, hTR⟩
              · (simp only [evE, liE, letsOf, letU, snd, Sh.uss, Sh.us, atAddr, map_add0, List.append_nil]); rw [subI (by omega) (by omega), show ((z - 1 : Nat) : Int) = (z : Int) - 1 by omega]
              · rcases Nat.lt_or_ge z t' with h | h
                · exact hno t' h h2
                · obtain rfl : t' = z := by omega
                  rw [hcfw]; intro h; exact h9 (Option.some.inj h)
          · refine ⟨[.p none, .i (0 : Nat), .i (0 : Nat), .b false], uOk_of rfl, (slb_fresh _ _ _ _ _ _).symm, .env (by (try simp only [liE, letsOf, letU, snd, List.append_nil]); rfl) (.no rfl (.again rfl ⟨z - 1, by omega, z - 1, by omega, ?_, rfl, fun t' h1 h2 => ?_, Row.le hR hle7, Row.le hE hle7, Row.le hV hle7, hTR.le hle7⟩))⟩
            · (simp only [evE, liE, letsOf, letU, snd, Sh.uss, Sh.us, atAddr, map_add0, List.append_nil]); rw [subI (by omega) (by omega), show ((z - 1 : Nat) : Int) = (z : Int) - 1 by omega]
            · rcases Nat.lt_or_ge z t' with h | h
              · exact hno t' h h2
              · obtain rfl : t' = z := by omega
                unfold candX; rw [if_neg (by simp [hnow])]; intro h; cases h
        · exfalso
          obtain rfl : z = 0 := by omega
          have hm := ok_mul hn3 hpt hez hS7 hSok
          refine hno (setX C E pt / dX n) ?_ hm.2 (by rw [← hm.1]; exact hSc)
          rcases Nat.eq_zero_or_pos (setX C E pt / dX n) with h | h
          · rw [h, Nat.zero_mul] at hm; omega
          · exact h
      · rintro _ m8 _ ⟨q', cq', rs2', qn', cn', pt', e, rfl, h1, h2, h3, h4, h5, h6, h7, h8⟩
        exact .env (by (try simp only [liE, letsOf, letU, snd, List.append_nil]); rfl) (.again rfl ⟨remX E pt', h1, q', cq', rs2', qn', cn', pt', s, by (simp only [evE, liE, letsOf, letU, snd, Sh.uss, Sh.us, atAddr, map_add0, List.append_nil]), rfl, h2, h3, h4, h5, h6, h7, h8⟩)
    · have hpe : pt = E := numK_inj hn3 (hpt.pad hez) hez (hnum hpt) he6 (by omega)
      subst hpe
      rw [outX_end, List.append_nil] at hout
      have h00 : numK p0 n = 0 := by
        match n, hn3 with
        | 0, _ => rfl
        | 1, _ => rfl
        | 2, _ => rfl
        | 3, _ => rfl
      have hv0 := hva p0 (p0_le pt)
      rw [h00] at hv0
      exact .chk (by ((try simp only [evE, liE, letsOf, letU, snd]); (try simp only [cmE])); simp) (.load1 (.int .i64 (EX C pt p0)) (some ⟨gl, 0, none⟩) (intsL vs) 0 rfl rfl (fun g => hV.reads g) hv0 (.env (by (try simp only [liE, letsOf, letU, snd, List.append_nil]); rfl) (.ret rfl ⟨q, cq, rs2, rfl, hout.symm, hTR.tab⟩)))
end Go.Proofs.YtialbhieaipcgaaDoor
